/-
  A logic for Go functions over plain data, part I: append.
-/
import Derived.Test.YtagllokfkliaoaaDmH
namespace Go.Dm
open Go.RowKit
section
variable {P : Program} {G : Gh} {s : S} {a : Act} {w : World} {A : Nat → Prop} {β : Nat → Option Nat} {o : Oper}

/-- What an append's operation is. -/
structure AppOp (P : Program) (o : Oper) (x y : Operand) (e : TypeId) (sz by_ : Nat) : Prop where
  ex : ∃ t u e2, o.op = .call ⟨.builtin .append, #[x, y], #[t, u]⟩ ∧ P.underlying t = some (.slice e) ∧ P.underlying u = some (.slice e2)
  hs : szOf P e = some sz
  hb : byOf P e = some by_
  s0 : 0 < sz
  b0 : 0 < by_
  z : ∃ z : Value, (∀ w, (zeroValue e).run P w = .ok z w) ∧ z.cells.size = sz

theorem run_grow {x y : Operand} {e : TypeId} {sz by_ : Nat} (h : AppOp P o x y e sz by_) {base yb : Option Addr} {n c m yc : Nat} (hx : a.eval x = .slice base n c) (hy : a.eval y = .slice yb m yc) {old news : Array Value}
    (hold : ∀ w', Same w w' → (Builtin.firstCells sz n (.slice base n c)).run P w' = .ok old w') (hnew : ∀ w', Same w w' → (Builtin.firstCells sz m (.slice yb m yc)).run P w' = .ok news w') (hc : c < n + m) (hb : (n + m) * by_ ≤ 140737488355328) :
    ∃ (cap : Nat) (rest : Array Value), n + m ≤ cap ∧ rest.size = (cap - (n + m)) * sz ∧
      (execOp a.eval o).run P w = .ok (.value (.slice (some ⟨w.heap.size, 0, none⟩) (n + m) cap)) (w.drew.alloc (.cells (old ++ news ++ rest) e)) := by
  obtain ⟨t, u, e2, ho, ht, hu⟩ := h.ex
  obtain ⟨z, hz, hzs⟩ := h.z
  obtain ⟨ti, hti, hbt⟩ := byOf_spec h.hb
  have hfit := growslice_fits hc hb
  have hb0 := h.b0
  refine ⟨Question.cut (.appendCap (n + m) c e) (w.tape w.drawn (.appendCap (n + m) c e)), Builtin.zeroCells z.cells (Question.cut (.appendCap (n + m) c e) (w.tape w.drawn (.appendCap (n + m) c e)) - (n + m)), by simp [Question.cut], by rw [size_zeroCells, hzs], ?_⟩
  have hsd : Same w w.drew := fun _ _ => rfl
  have e1 : ¬ (n + m ≤ c) := by omega
  have e3 : ¬ (281474976710656 < Builtin.nextslicecap (n + m) c * by_) := by omega
  have e4 : ¬ (by_ = 0) := by omega
  simp [execOp, ho, resolve, invoke, builtin, Builtin.append_, hx, hy, und_run ht, und_run hu, szOf_spec h.hs, typeInfo, hti, hbt, Builtin.lenOf, e1, e3, e4, Question.forced, hold _ hsd, hnew _ hsd, hz, newRow]

theorem run_room {x y : Operand} {e : TypeId} {sz by_ : Nat} (h : AppOp P o x y e sz by_) {b : Nat} {yb : Option Addr} {n c m yc : Nat} (hx : a.eval x = .slice (some ⟨b, 0, none⟩) n c) (hy : a.eval y = .slice yb m yc) {news : Array Value}
    (hnew : ∀ w', Same w w' → (Builtin.firstCells sz m (.slice yb m yc)).run P w' = .ok news w') (hc : n + m ≤ c) {arr : Array Value} {T : TypeId} (hh : w.heap[b]? = some (.cells arr T (0, 0))) (hl : n * sz + news.size ≤ arr.size) (h1 : ∀ u ∈ news.toList, u.oneCell' = true) :
    (execOp a.eval o).run P w = .ok (.value (.slice (some ⟨b, 0, none⟩) (n + m) c)) (w.setRow b (arr.toList.take (n * sz) ++ news.toList ++ arr.toList.drop (n * sz + news.toList.length)).toArray) := by
  obtain ⟨t, u, e2, ho, ht, hu⟩ := h.ex
  have hst := run_storeCells_at (P := P) b (n * sz) T news.toList 0 arr w hh (by simpa using hl) h1
  simp only [Nat.add_zero] at hst
  have ha : (⟨b, 0, none⟩ : Addr).add (n * sz) = ⟨b, n * sz, none⟩ := by rw [addr_add, Nat.zero_add]
  simp only [execOp, ho, resolve, invoke, builtin, Builtin.append_, List.map_toArray, List.map_cons, List.map_nil, Sem.run_bind, Sem.run_pure, Result.andThen_ok, hx, hy]
  simp [und_run ht, und_run hu, szOf_spec h.hs, Builtin.lenOf, hc, hnew _ (Same.refl w), ha]
  rw [Array.length_toList] at hst
  simp [hst]
theorem run_none {x y : Operand} {e : TypeId} {sz by_ : Nat} (h : AppOp P o x y e sz by_) {bb yb : Option Addr} {yc : Nat} (hx : a.eval x = .slice bb 0 0) (hy : a.eval y = .slice yb 0 yc) : (execOp a.eval o).run P w = .ok (.value (.slice bb 0 0)) w := by
  obtain ⟨t, u, e2, ho, ht, hu⟩ := h.ex
  cases bb <;> cases yb <;> simp [execOp, ho, resolve, invoke, builtin, Builtin.append_, hx, hy, und_run ht, und_run hu, szOf_spec h.hs, Builtin.lenOf, Builtin.firstCells, loadCells, loadCellsFrom, storeCells]

/-- Cells of rows laid behind others. -/
theorem app_cells {n sz : Nat} {old news : Array Value} {rest : Array Value} {es ys : List (List D)} {fl : Bool} {N : Nat} (ho : old.size = n * sz) (hn : news.size = ys.length * sz) (hes : es.length = n)
    (h1 : ∀ i j, i < n → j < sz → CDR fl w A β N ((es.getD i []).getD j .junk) (old.getD (i * sz + j) undef))
    (h2 : ∀ i j, i < ys.length → j < sz → CR w A ((ys.getD i []).getD j .junk) (news.getD (i * sz + j) undef) ∧ (news.getD (i * sz + j) undef).oneCell' = true) :
    ∀ i j, i < (es ++ ys).length → j < sz → CDR fl w A β N (((es ++ ys).getD i []).getD j .junk) ((old ++ news ++ rest).getD (i * sz + j) undef) := by
  intro i j hi hj
  rw [List.length_append] at hi
  have gl : ∀ (x y : Array Value) (m : Nat), m < x.size → (x ++ y).getD m undef = x.getD m undef := fun x y m h => by
    simp only [Array.getD_eq_getD_getElem?]; rw [Array.getElem?_append_left h]
  have gr : ∀ (x y : Array Value) (m : Nat), x.size ≤ m → (x ++ y).getD m undef = y.getD (m - x.size) undef := fun x y m h => by
    simp only [Array.getD_eq_getD_getElem?]; rw [Array.getElem?_append_right h]
  by_cases hlt : i < n
  · have e1 : (es ++ ys).getD i [] = es.getD i [] := by simp only [List.getD_eq_getElem?_getD]; rw [List.getElem?_append_left (by omega)]
    have e2 := in_row hlt hj
    rw [e1, gl _ _ _ (by simp; omega), gl _ _ _ (by omega)]
    exact h1 i j hlt hj
  · have e1 : (es ++ ys).getD i [] = ys.getD (i - n) [] := by simp only [List.getD_eq_getElem?_getD]; rw [List.getElem?_append_right (by omega), hes]
    obtain ⟨k, rfl⟩ : ∃ k, i = n + k := ⟨i - n, by omega⟩
    have hk : k < ys.length := by omega
    have e2 := in_row hk hj
    have e3 : (n + k) * sz + j = n * sz + (k * sz + j) := by rw [Nat.add_mul]; omega
    rw [e1, show n + k - n = k by omega, e3, gl _ _ _ (by simp; omega), gr _ _ _ (by omega), ho, show n * sz + (k * sz + j) - n * sz = k * sz + j by omega]
    obtain ⟨q1, q2⟩ := h2 k j hk hj
    exact ⟨.cl _ _ q1, fun _ => q1, q2⟩

theorem ef_app {x y : Operand} {x' y' : O} {e : TypeId} {sz by_ : Nat} {K : S → Prop} (h : AppOp P o x y e sz by_) (hx : cO x = some x') (hy : cO y = some y') (hd : ∀ t, o.dst = some t → t < G.nt ∧ ∀ y, ¬ G.T t y)
    (hk : kApp s o.dst sz by_ K (s.g x') (s.view (s.g y'))) (g : GR G s a w A β) : Does P G a w o K := by
  have ex := g.evalO hx
  have ey := g.evalO hy
  unfold kApp at hk
  split at hk
  · next z ys hv =>
    obtain ⟨yb, yc, news, ev, hns, hnew, hyl, hyr⟩ := view_src (P := P) g ey hv
    rw [ev] at hnew
    split at hk
    · -- onto nil
      next hn =>
      obtain ⟨⟨rfl, hbnd⟩, hk⟩ := hk
      rw [hn] at ex
      generalize hvx : a.eval x = vx at ex
      cases ex with
      | cl d x h' =>
        cases h'
        by_cases h0 : ys = []
        · subst h0
          exact Does.value (run_none h hvx ev) hk (newt_nil g hd)
        · have hpos : 0 < ys.length := List.length_pos_iff.2 h0
          obtain ⟨cap, rest, r1, r2, r3⟩ := run_grow (w := w) h hvx ev (old := #[]) (fun w' _ => by simp [Builtin.firstCells]) hnew (by omega) (by simpa using hbnd)
          rw [Nat.zero_add] at r1 r2 r3
          have hrow := app_cells (w := w) (A := A) (β := β) (N := s.N) (fl := true) (n := 0) (sz := z) (old := #[]) (rest := rest) (es := []) (by simp) hns rfl (fun i j hi => by omega) hyr
          simp only [List.nil_append] at hrow
          refine Does.value r3 hk (newt_rows g hd (w1 := w.drew) ⟨rfl, rfl, rfl, Nat.le_refl _, fun _ _ => rfl⟩ (by simp [hns]) (fun i hi => hyl i hi) (fun i j hi hj => ?_) (fun β' eb => ?_))
          · obtain ⟨q1, q2, q3⟩ := hrow i j hi hj
            exact ⟨q1.mono (fun _ _ => rfl) (fun _ h => h) (fun b arr T e => ⟨arr, e, rfl⟩) (Nat.le_refl _) (fun _ _ => rfl), fun hf => (q2 hf).mono (fun _ _ => rfl) (fun _ h => h), q3⟩
          · have hsz : (#[] ++ news ++ rest).size = cap * z := by
              simp [hns, r2]
              rw [← Nat.add_mul]; congr 1; omega
            have := DR.ref (w := w.drew.alloc (.cells (#[] ++ news ++ rest) e)) (A := A) s.N z 0 ys.length cap w.heap.size _ _ (Nat.lt_succ_self _) eb r1 (heap_new _ _) (by rw [hsz]; simp)
            simpa using this
    · -- onto an owned row
      next τ z off n hn =>
      unfold kM at hk
      split at hk
      · next ob hM =>
        obtain ⟨⟨rfl, rfl, hobs, rfl, hle, hbnd⟩, hk⟩ := hk
        have hMn : s.M τ ≠ none := by rw [hM]; simp
        rw [hn] at ex
        generalize hvx : a.eval x = vx at ex
        have hobsz := hobs
        -- the rows as they are kept
        have keepE : ∀ (fl : Bool) (es : List (List D)), (es.map fun e => if fl = true then e else e.map (D.kill τ)).length = es.length := fun _ _ => by simp
        have rowE : ∀ i, i < n → ((ob.es.take n).map fun e => if ob.flat = true then e else e.map (D.kill τ)).getD i [] = if ob.flat = true then ob.es.getD i [] else (ob.es.getD i []).map (D.kill τ) := by
          intro i hi
          have hi2 : i < ob.es.length := by omega
          simp [List.getD, hi, hi2]
        have hlenE : ((ob.es.take n).map fun e => if ob.flat = true then e else e.map (D.kill τ)).length = n := by simp; omega
        have lenE : (∀ i, i < ob.es.length → (ob.es.getD i []).length = ob.sz) → ∀ i, i < (((ob.es.take n).map fun e => if ob.flat = true then e else e.map (D.kill τ)) ++ ys).length → ((((ob.es.take n).map fun e => if ob.flat = true then e else e.map (D.kill τ)) ++ ys).getD i []).length = z := by
          intro he i hi
          rw [List.length_append, hlenE] at hi
          by_cases h1 : i < n
          · have : (((ob.es.take n).map fun e => if ob.flat = true then e else e.map (D.kill τ)) ++ ys).getD i [] = ((ob.es.take n).map fun e => if ob.flat = true then e else e.map (D.kill τ)).getD i [] := by
              simp only [List.getD_eq_getElem?_getD]; rw [List.getElem?_append_left (by rw [hlenE]; exact h1)]
            rw [this, rowE i h1]
            split
            · rw [he i (by omega), hobsz]
            · rw [List.length_map, he i (by omega), hobsz]
          · have : (((ob.es.take n).map fun e => if ob.flat = true then e else e.map (D.kill τ)) ++ ys).getD i [] = ys.getD (i - n) [] := by
              simp only [List.getD_eq_getElem?_getD]; rw [List.getElem?_append_right (by rw [hlenE]; omega), hlenE]
            rw [this]; exact hyl _ (by omega)
        -- old rows read the same once the object's name is forgotten
        have oldR : ∀ {w' : World} {β' : Nat → Option Nat}, (∀ b, A b → w'.heap[b]? = w.heap[b]?) → Shp w w' → (∀ σ, σ ≠ τ → β' σ = β σ) → ∀ i j (v : Value), i < n → j < z → (ob.es.getD i []).length = ob.sz → CDR ob.flat w A β s.N ((ob.es.getD i []).getD j .junk) v →
            CDR ob.flat w' A β' s.N ((((ob.es.take n).map fun e => if ob.flat = true then e else e.map (D.kill τ)).getD i []).getD j .junk) v := by
          intro w' β' h2 h3 h5 i j v hi hj hlen hv
          rw [rowE i hi]
          by_cases hf : ob.flat = true
          · rw [if_pos hf]
            have := (hv.2.1 hf).mono h2 (fun _ h => h)
            exact ⟨.cl _ _ this, fun _ => this, hv.2.2⟩
          · rw [if_neg hf]
            have hj2 : j < (ob.es.getD i []).length := by rw [hlen, hobsz]; exact hj
            have : ((ob.es.getD i []).map (D.kill τ)).getD j .junk = ((ob.es.getD i []).getD j .junk).kill τ := by
              simp only [List.getD_eq_getElem?_getD] at hj2 ⊢; simp [hj2]
            rw [this]
            exact ⟨hv.1.kill h2 (fun _ h => h) h3 (fun σ _ h => h5 σ h), fun h => absurd h hf, hv.2.2⟩
        have hτ : τ < s.N := by
          cases ex with
          | cl d x h' => cases h'
          | ref => assumption
          | refz => assumption
        -- what a grown row is good for
        have grow : ∀ {base : Option Addr} {c : Nat} {old : Array Value}, a.eval x = .slice base n c → (∀ w', Same w w' → (Builtin.firstCells z n (.slice base n c)).run P w' = .ok old w') → old.size = n * z → c < n + ys.length →
            (∀ i, i < ob.es.length → 0 < n → (ob.es.getD i []).length = ob.sz) → (∀ i j, i < n → j < z → CDR ob.flat w A β s.N ((ob.es.getD i []).getD j .junk) (old.getD (i * z + j) undef)) → Does P G a w o K := by
          intro base c old hxx hold hos hcap hlen hrow
          obtain ⟨cap, rest, r1, r2, r3⟩ := run_grow (w := w) h hxx ev hold hnew hcap hbnd
          let w' := w.drew.alloc (.cells (old ++ news ++ rest) e)
          let β' : Nat → Option Nat := fun σ => if σ = τ then some w.heap.size else β σ
          have hsame : Same w w' := fun b hb => Below.heap_alloc w.drew _ b hb
          have h2 : ∀ b, A b → w'.heap[b]? = w.heap[b]? := fun b hb => hsame b (g.low b hb)
          have h5 : ∀ σ, σ ≠ τ → β' σ = β σ := fun σ hσ => by simp [β', hσ]
          have hnw : w'.heap[w.heap.size]? = some (.cells (old ++ news ++ rest) e (0, 0)) := heap_new w.drew _
          have hszA : (old ++ news ++ rest).size = cap * z := by
            simp only [Array.size_append, hos, hns, r2]
            rw [← Nat.add_mul, ← Nat.add_mul]; congr 1; omega
          have hcells := app_cells (w := w') (A := A) (β := β') (N := s.N) (fl := ob.flat) (n := n) (sz := z) (old := old) (news := news) (rest := rest) (es := (ob.es.take n).map fun e => if ob.flat = true then e else e.map (D.kill τ)) (ys := ys) hos hns hlenE
            (fun i j hi hj => oldR h2 hsame.shp h5 i j _ hi hj (hlen i (by omega) (by omega)) (hrow i j hi hj)) (fun i j hi hj => ⟨(hyr i j hi hj).1.mono h2 (fun _ h => h), (hyr i j hi hj).2⟩)
          have hOR : OR w' A β' s.N ⟨z, (ob.es.take n).map (fun e => if ob.flat = true then e else e.map (D.kill τ)) ++ ys, ob.flat⟩ τ := by
            refine .inr ⟨w.heap.size, _, e, by simp [β'], hnw, ?_, ?_, hcells⟩
            · show ((ob.es.take n).map (fun e => if ob.flat = true then e else e.map (D.kill τ)) ++ ys).length * z ≤ _
              rw [List.length_append, hlenE, hszA]; exact Nat.mul_le_mul_right _ r1
            · intro i hi
              by_cases hn0 : 0 < n
              · exact lenE (fun i hi => hlen i hi hn0) i hi
              · have : n = 0 := by omega
                subst this
                simp only [List.take_zero, List.map_nil, List.nil_append] at hi ⊢
                exact hyl i hi
          have g2 := g.regrow hMn (w' := w') (β' := β') (ob' := ⟨z, (ob.es.take n).map (fun e => if ob.flat = true then e else e.map (D.kill τ)) ++ ys, ob.flat⟩)
            (g.below.trans ⟨rfl, rfl, rfl, by simp [w'], fun k hk => hsame k (Nat.lt_of_lt_of_le hk g.below.size)⟩) h2 hsame.shp (fun σ b _ h1 h2 h3 => hsame b (g.blk h1 h2 h3)) h5 hOR
            (fun b hb => by
              have : b = w.heap.size := by simp [β'] at hb; exact hb.symm
              subst this
              exact ⟨g.below.size, fun hA => absurd (g.low _ hA) (Nat.lt_irrefl _), fun σ _ h1 h2 h3 => absurd (g.blk h1 h2 h3) (Nat.lt_irrefl _)⟩) (by simp [w'])
          have hdr := DR.ref (w := w') (A := A) (β := β') (N := s.N) τ z 0 (n + ys.length) cap w.heap.size _ _ hτ (by simp [β']) r1 hnw (by rw [hszA]; simp)
          rw [Nat.zero_mul] at hdr
          exact Does.value r3 hk ⟨A, β', g2.put hdr hd⟩
        cases ex with
        | cl d x h' => cases h'
        | ref τ sz' off n c b arr T hN hb hc hh hr =>
          rw [Nat.zero_mul] at hvx
          rw [Nat.zero_add] at hr
          rcases g.objs τ ob hN hM with ⟨k1, _⟩ | ⟨b', arr', T', hb', hh', hl, he, hro⟩
          · rw [k1] at hb; cases hb
          · rw [hb] at hb'; cases hb'
            rw [hh] at hh'; cases hh'
            rw [hobsz] at hl hro
            have hnz : n * z ≤ ob.es.length * z := Nat.mul_le_mul_right _ hle
            obtain ⟨hbl, _⟩ := Array.getElem?_eq_some_iff.1 hh
            by_cases hroom : n + ys.length ≤ c
            · have hcz : (n + ys.length) * z ≤ c * z := Nat.mul_le_mul_right _ hroom
              rw [Nat.add_mul] at hcz
              have hone : ∀ u ∈ news.toList, u.oneCell' = true := by
                intro u hu
                obtain ⟨m, hm, rfl⟩ := List.mem_iff_getElem.1 hu
                have hm' : m < news.size := by simpa using hm
                rw [hns] at hm'
                have hz := h.s0
                have := (hyr (m / z) (m % z) ((Nat.div_lt_iff_lt_mul hz).2 hm') (Nat.mod_lt _ hz)).2
                rw [show m / z * z + m % z = m by rw [Nat.mul_comm]; exact Nat.div_add_mod m z] at this
                rw [← hns] at hm'
                simpa [hm'] using this
              have hrun := run_room (w := w) h hvx ev hnew hroom hh (by omega) hone
              have hfit : n * z + news.toList.length ≤ arr.size := by rw [Array.length_toList, hns]; omega
              let arr2 := (arr.toList.take (n * z) ++ news.toList ++ arr.toList.drop (n * z + news.toList.length)).toArray
              have hs2 : arr2.size = arr.size := wr_size arr _ _ hfit
              obtain ⟨hb0, hbA⟩ := g.fresh τ b hN hMn hb
              have h2 : ∀ q, A q → (w.setRow b arr2).heap[q]? = w.heap[q]? := fun q hq => setRow_other w b q arr2 (fun e => hbA (e ▸ hq))
              have h3 : Shp w (w.setRow b arr2) := Shp.setRow hh hs2
              have hnw := setRow_heap w b arr arr2 T (0, 0) hh
              have hOR : OR (w.setRow b arr2) A β s.N ⟨z, (ob.es.take n).map (fun e => if ob.flat = true then e else e.map (D.kill τ)) ++ ys, ob.flat⟩ τ := by
                refine .inr ⟨b, arr2, T, hb, hnw, ?_, lenE he, fun i j hi hj => ?_⟩
                · show ((ob.es.take n).map (fun e => if ob.flat = true then e else e.map (D.kill τ)) ++ ys).length * z ≤ _
                  rw [List.length_append, hlenE, hs2, Nat.add_mul]; omega
                · have hi' : i < n + ys.length := by
                    have : i < ((ob.es.take n).map (fun e => if ob.flat = true then e else e.map (D.kill τ)) ++ ys).length := hi
                    rwa [List.length_append, hlenE] at this
                  show CDR ob.flat (w.setRow b arr2) A β s.N ((((ob.es.take n).map (fun e => if ob.flat = true then e else e.map (D.kill τ)) ++ ys).getD i []).getD j .junk) (arr2.getD (i * z + j) undef)
                  rw [wr_get arr _ _ _ hfit, Array.length_toList, hns]
                  by_cases h1 : i < n
                  · have e1 := in_row (sz := z) h1 hj
                    rw [if_neg (by omega)]
                    have : (((ob.es.take n).map fun e => if ob.flat = true then e else e.map (D.kill τ)) ++ ys).getD i [] = ((ob.es.take n).map fun e => if ob.flat = true then e else e.map (D.kill τ)).getD i [] := by
                      simp only [List.getD_eq_getElem?_getD]; rw [List.getElem?_append_left (by rw [hlenE]; exact h1)]
                    rw [this]
                    exact oldR h2 h3 (fun _ _ => rfl) i j _ h1 hj (he i (by omega)) (hro i j (by omega) hj)
                  · obtain ⟨q, rfl⟩ : ∃ q, i = n + q := ⟨i - n, by omega⟩
                    have hq : q < ys.length := by omega
                    have e1 := in_row (sz := z) hq hj
                    have e2 : (n + q) * z + j = n * z + (q * z + j) := by rw [Nat.add_mul]; omega
                    have : (((ob.es.take n).map fun e => if ob.flat = true then e else e.map (D.kill τ)) ++ ys).getD (n + q) [] = ys.getD q [] := by
                      simp only [List.getD_eq_getElem?_getD]; rw [List.getElem?_append_right (by rw [hlenE]; omega), hlenE, show n + q - n = q by omega]
                    rw [this, e2, if_pos (by omega), show n * z + (q * z + j) - n * z = q * z + j by omega]
                    have e3 : news.toList.getD (q * z + j) undef = news.getD (q * z + j) undef := by simp [List.getD, Array.getD_eq_getD_getElem?]
                    rw [e3]
                    have q1 := (hyr q j hq hj).1.mono h2 (fun _ h => h)
                    exact ⟨.cl _ _ q1, fun _ => q1, (hyr q j hq hj).2⟩
              have g2 := g.regrow hMn (w' := w.setRow b arr2) (β' := β) (ob' := ⟨z, (ob.es.take n).map (fun e => if ob.flat = true then e else e.map (D.kill τ)) ++ ys, ob.flat⟩)
                (Below.setRow g.below hb0 arr2) h2 h3 (fun σ q hσ h1 h4 h5 => setRow_other w b q arr2 (fun e => hσ (g.inj σ τ b h1 hN h4 hMn (e ▸ h5) hb))) (fun _ _ => rfl) hOR
                (fun q hq => by
                  rw [hb] at hq; cases hq
                  exact ⟨hb0, hbA, fun σ hσ h1 h4 h5 => hσ (g.inj σ τ b h1 hN h4 hMn h5 hb)⟩) (by simp)
              have hdr := DR.ref (w := w.setRow b arr2) (A := A) (β := β) (N := s.N) τ z 0 (n + ys.length) c b arr2 T hN hb hroom hnw (by rw [Nat.zero_add, hs2]; exact hr)
              rw [Nat.zero_mul] at hdr
              exact Does.value hrun hk ⟨A, β, g2.put hdr hd⟩
            · refine grow (old := ((List.range (n * z)).map fun m => arr.getD m undef).toArray) hvx (fun w' hs => ?_) (by simp) (by omega) (fun i hi _ => he i hi) (fun i j hi hj => ?_)
              · refine run_loadCells (P := P) w' ⟨b, 0, none⟩ (n * z) (fun m => arr.getD m undef) (fun m hm => ?_)
                rw [addr_add, Nat.zero_add, hs.cell hbl]
                have hlt : m < arr.size := by omega
                simp only [World.cell?, hh]
                simp [hlt]
              · have e1 := in_row (sz := z) hi hj
                have : (((List.range (n * z)).map fun m => arr.getD m undef).toArray).getD (i * z + j) undef = arr.getD (i * z + j) undef := by simp [e1]
                rw [this]; exact hro i j (by omega) hj
        | refz τ sz' off bb hN =>
          by_cases h0 : ys = []
          · subst h0
            have e0 : ((ob.es.take 0).map (fun e => if ob.flat = true then e else e.map (D.kill τ)) ++ ([] : List (List D))) = [] := by simp
            rw [e0] at hk
            have hOR : OR w A β s.N ⟨z, [], ob.flat⟩ τ := by
              rcases g.objs τ ob hN hM with ⟨k1, _⟩ | ⟨b', arr', T', hb', hh', hl, he, hro⟩
              · exact .inl ⟨k1, rfl⟩
              · exact .inr ⟨b', arr', T', hb', hh', by simp, fun i hi => by simp at hi, fun i j hi => by simp at hi⟩
            have g2 := g.regrow hMn (w' := w) (β' := β) (ob' := ⟨z, [], ob.flat⟩) g.below (fun _ _ => rfl) (Shp.refl _) (fun _ _ _ _ _ _ => rfl) (fun _ _ => rfl) hOR
              (fun q hq => ⟨(g.fresh τ q hN hMn hq).1, (g.fresh τ q hN hMn hq).2, fun σ hσ h1 h4 h5 => hσ (g.inj σ τ q h1 hN h4 hMn h5 hq)⟩) (Nat.le_refl _)
            exact Does.value (run_none h hvx ev) hk ⟨A, β, g2.put (.refz τ z 0 bb hN) hd⟩
          · have hpos : 0 < ys.length := List.length_pos_iff.2 h0
            refine grow (old := #[]) hvx (fun w' _ => ?_) (by simp) (by omega) (fun i hi h => by omega) (fun i j hi => by omega)
            cases bb <;> simp [Builtin.firstCells, loadCells, loadCellsFrom]
      · exact hk.elim
    · exact hk.elim
  · -- nothing is appended
    next hv =>
    have hyn : a.eval y = .slice none 0 0 := by
      generalize hvy : a.eval y = vy at ey
      cases hh : s.g y' with
      | nl => rw [hh] at ey; cases ey with | cl d x h' => cases h'; rfl
      | v | sl | ip | junk | ag | ptr | tu => rw [hh] at hv; simp [S.view] at hv
      | ref τ sz off n =>
        rw [hh] at hv; simp only [S.view, viewO] at hv
        split at hv
        · split at hv <;> cases hv
        · cases hv
      | clo f ds => rw [hh] at hv; simp only [S.view] at hv; split at hv <;> cases hv
    obtain ⟨t, u, e2, ho, ht, hu⟩ := h.ex
    have rest : ∀ (d : D) (bb : Option Addr) (n c : Nat), n ≤ c → a.eval x = .slice bb n c → DR w A β s.N d (.slice bb n c) → K (s.put o.dst d) → Does P G a w o K := by
      intro d bb n c hc hvx hdr hk
      refine Does.value (v := .slice bb n c) (w' := w) ?_ hk ⟨A, β, g.put hdr hd⟩
      cases bb <;> simp [execOp, ho, resolve, invoke, builtin, Builtin.append_, hvx, hyn, und_run ht, und_run hu, szOf_spec h.hs, Builtin.lenOf, Builtin.firstCells, storeCells, hc]
    generalize hvx : a.eval x = vx at ex
    split at hk
    · next hn =>
      rw [hn] at ex
      cases ex with
      | cl d x h' => cases h'; exact rest _ _ _ _ (Nat.le_refl _) hvx (.cl _ _ .nl) hk
    · next τ zx off n hn =>
      rw [hn] at ex
      cases ex with
      | cl d x h' => cases h'
      | ref τ sz' off n c b arr T hN hb hc hh hr => exact rest _ _ _ _ hc hvx (.ref _ _ _ _ _ _ _ _ hN hb hc hh hr) hk
      | refz τ sz' off bb hN => exact rest _ _ _ _ (Nat.le_refl _) hvx (.refz _ _ _ _ hN) hk
    · exact hk.elim
  · exact hk.elim
end
end Go.Dm
