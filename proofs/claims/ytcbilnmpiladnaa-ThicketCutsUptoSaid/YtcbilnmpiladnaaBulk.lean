/-
  How much is read of what is handed over: at least what the descriptions hold.
-/
import Derived.Test.YtcbilnmpiladnaaRows
import Derived.Test.YtcbilnmpiladnaaOpen
import Derived.Test.YtcbilnmpiladnaaDmX
namespace Go.Proofs.Ytcbilnmpiladnaa
open Go.ChangeShapes Go.WideShapes Go.ChangeAt Go.RowKit Go.Dm
set_option linter.unusedSimpArgs false
set_option linter.unnecessarySimpa false
set_option linter.unusedVariables false

theorem bulk_one {H : Type} (d : DataW H) : 1 ≤ Rows.uptoBulk d := by
  cases d with
  | lit l => cases l <;> simp [Rows.uptoBulk]
  | nil => simp [Rows.uptoBulk]
  | ptr d => simp [Rows.uptoBulk]
  | slice elems spare => simp [Rows.uptoBulk]
  | agg parts => simp [Rows.uptoBulk]
  | iface t d => simp [Rows.uptoBulk]
  | map entries => simp [Rows.uptoBulk]
  | held h => simp [Rows.uptoBulk]
theorem bulk_part {H : Type} : ∀ {l : List (DataW H)} {i : Nat} (h : i < l.length), Rows.uptoBulk (l[i]'h) ≤ Rows.uptoBulkAll l
  | x :: r, 0, _ => by simp [Rows.uptoBulkAll]
  | x :: r, i + 1, h => by
    have := @bulk_part H r i (by simpa using h)
    simp only [List.getElem_cons_succ, Rows.uptoBulkAll]
    omega
/-- What a row of cells of type t reads as, and how much it is. -/
structure OpensB (P : Program) (t : TypeId) {α : Type} (sz : Nat) (f : α → List D) (ok : α → Prop) (g : α → Nat) : Prop where
  size : P.cellsOf t = sz
  len : ∀ a, (f a).length = sz
  opn : ∀ {H : Type} (enc : TypeId × Value → H) (w : World) (spare : Nat → Bool) (held : Bool) (fuel : Nat) (cs : List Value) (x : DataW H × List MemPlace), DataW.trod enc P w 0 spare held fuel t cs = some x →
    ∃ a, ok a ∧ g a ≤ Rows.uptoBulk x.1 ∧ cs.length = sz ∧ ∀ j, j < sz → CR w (old w) ((f a).getD j .junk) (cs.getD j undef) ∧ (cs.getD j undef).oneCell' = true
theorem Opens.b {P : Program} {t : TypeId} {α : Type} {sz : Nat} {f : α → List D} {ok : α → Prop} (h : Opens P t sz f ok) : OpensB P t sz f ok (fun _ => 1) where
  size := h.size
  len := h.len
  opn enc w spare held fuel cs x hx := by
    obtain ⟨a, ha, h1, h2⟩ := h.opn enc w spare held fuel cs x hx
    exact ⟨a, ha, bulk_one _, h1, h2⟩
theorem OpensB.map {P : Program} {t : TypeId} {α β : Type} {sz : Nat} {f : α → List D} {ok : α → Prop} {u : α → Nat} {g : β → List D} {ok' : β → Prop} {u' : β → Nat} (h : OpensB P t sz f ok u) (hl : ∀ b, (g b).length = sz) (hm : ∀ a, ok a → ∃ b, ok' b ∧ u' b ≤ u a ∧ g b = f a) : OpensB P t sz g ok' u' where
  size := h.size
  len := hl
  opn enc w spare held fuel cs x hx := by
    obtain ⟨a, ha, h0, h1, h2⟩ := h.opn enc w spare held fuel cs x hx
    obtain ⟨b, hb, hu, e⟩ := hm a ha
    exact ⟨b, hb, by omega, h1, by rw [e]; exact h2⟩
/-- A struct's fields. -/
inductive OpensFB (P : Program) : List Field → Nat → (α : Type) → (α → List D) → (α → Prop) → (α → Nat) → Prop
  | nil (off : Nat) : OpensFB P [] off Unit (fun _ => []) (fun _ => True) (fun _ => 0)
  | cons {f : Field} {fs : List Field} {off sz : Nat} {α β : Type} {g : α → List D} {ok : α → Prop} {u : α → Nat} {g' : β → List D} {ok' : β → Prop} {u' : β → Nat} (hoff : f.offset = off) (h : OpensB P f.type sz g ok u) (t : OpensFB P fs (off + sz) β g' ok' u') :
      OpensFB P (f :: fs) off (α × β) (fun x => g x.1 ++ g' x.2) (fun x => ok x.1 ∧ ok' x.2) (fun x => u x.1 + u' x.2)
theorem OpensFB.opn {P : Program} {H : Type} {enc : TypeId × Value → H} {w : World} {spare : Nat → Bool} {held : Bool} {fuel : Nat} {cs : List Value} {fs : List Field} {off : Nat} {α : Type} {f : α → List D} {ok : α → Prop} {u : α → Nat} (h : OpensFB P fs off α f ok u) :
    ∀ xs : List (DataW H × List MemPlace), xs.length = fs.length → (∀ (i : Nat) (f : Field), fs[i]? = some f → DataW.trod enc P w 0 spare held fuel f.type ((cs.drop f.offset).take (P.cellsOf f.type)) = xs[i]?) →
      ∃ a, ok a ∧ u a ≤ Rows.uptoBulkAll (xs.map (·.1)) ∧ (0 < (f a).length → off + (f a).length ≤ cs.length) ∧ ∀ j, j < (f a).length → CR w (old w) ((f a).getD j .junk) (cs.getD (off + j) undef) ∧ (cs.getD (off + j) undef).oneCell' = true := by
  induction h with
  | nil off => intro _ _ _; exact ⟨(), trivial, Nat.zero_le _, fun h => by simp at h, fun j hj => by simp at hj⟩
  | cons hoff h t ih =>
    rename_i f fs off sz α β g ok u g' ok' u'
    intro xs hxl hx
    cases xs with
    | nil => simp at hxl
    | cons y xs =>
    have hy : DataW.trod enc P w 0 spare held fuel f.type ((cs.drop f.offset).take (P.cellsOf f.type)) = some y := by simpa using hx 0 f rfl
    obtain ⟨b, hb, hub, hl, hr⟩ := ih xs (by simpa using hxl) (fun i f hf => by have := hx (i + 1) f (by simpa using hf); simpa using this)
    rw [h.size, hoff] at hy
    obtain ⟨a, ha, hua, hcl, hca⟩ := h.opn enc w spare held fuel _ _ hy
    have hga : (g a).length = sz := h.len a
    have hle : off + sz ≤ cs.length ∨ sz = 0 := by
      rw [List.length_take, List.length_drop] at hcl
      omega
    have get : ∀ j, j < sz → ((cs.drop off).take sz).getD j undef = cs.getD (off + j) undef := by
      intro j hj
      simp only [List.getD_eq_getElem?_getD, List.getElem?_take, hj, if_true, List.getElem?_drop]
    refine ⟨(a, b), ⟨ha, hb⟩, ?_, fun hpos => ?_, fun j hj => ?_⟩
    · simp only [List.map_cons, Rows.uptoBulkAll]
      omega
    · simp only [List.length_append, hga] at hpos ⊢
      by_cases h0 : 0 < (g' b).length
      · have := hl h0; omega
      · rcases hle with h | h <;> omega
    · simp only [List.length_append, hga] at hj
      simp only
      by_cases hlt : j < sz
      · have e1 : (g a ++ g' b).getD j .junk = (g a).getD j .junk := by simp only [List.getD_eq_getElem?_getD]; rw [List.getElem?_append_left (by omega)]
        have := hca j hlt
        rw [get j hlt] at this
        rw [e1]; exact this
      · have e1 : (g a ++ g' b).getD j .junk = (g' b).getD (j - sz) .junk := by simp only [List.getD_eq_getElem?_getD]; rw [List.getElem?_append_right (by omega), hga]
        have := hr (j - sz) (by omega)
        rw [show off + sz + (j - sz) = off + j by omega] at this
        rw [e1]; exact this
theorem OpensB.struct {P : Program} {t : TypeId} {fs : Array Field} {α : Type} {sz : Nat} {f : α → List D} {ok : α → Prop} {u : α → Nat} (ht : P.underlying t = some (.struct fs)) (hc : P.cellsOf t = sz) (h : OpensFB P fs.toList 0 α f ok u) (hl : ∀ a, (f a).length = sz) : OpensB P t sz f ok (fun a => u a + 1) where
  size := hc
  len := hl
  opn enc w spare held fuel cs x hx := by
    obtain ⟨xs, n, rfl, rfl, hcl, hxl, hf⟩ := DataW.trod_struct ht hx
    rw [hc] at hcl
    obtain ⟨a, ha, hu, _, hr⟩ := h.opn (enc := enc) (w := w) (spare := spare) (held := held) (fuel := n) (cs := cs) xs (by simpa using hxl) (fun i f hf' => hf i f (by simpa using hf'))
    refine ⟨a, ha, ?_, hcl, fun j hj => ?_⟩
    · simp only [Rows.uptoBulk]; omega
    have := hr j (by rw [hl]; exact hj)
    rwa [Nat.zero_add] at this
theorem bulk_sum {H : Type} {α : Type} {g : α → Nat} : ∀ {l : List α} {xs : List (DataW H)}, l.length = xs.length → (∀ (i : Nat) (a : α), l[i]? = some a → ∀ y, xs[i]? = some y → g a ≤ Rows.uptoBulk y) → (l.map g).sum ≤ Rows.uptoBulkAll xs
  | [], _, _, _ => Nat.zero_le _
  | a :: l, [], h, _ => by simp at h
  | a :: l, x :: xs, h, hp => by
    have h1 := hp 0 a rfl x rfl
    have h2 := @bulk_sum H α g l xs (by simpa using h) (fun i a ha y hy => hp (i + 1) a (by simpa using ha) y (by simpa using hy))
    simp only [List.map_cons, List.sum_cons, Rows.uptoBulkAll]
    omega
theorem OpensB.slice {P : Program} {t e : TypeId} {α : Type} {sz : Nat} {f : α → List D} {ok : α → Prop} {u : α → Nat} (ht : P.underlying t = some (.slice e)) (hc : P.cellsOf t = 1) (h : OpensB P e sz f ok u) (hz : 0 < sz) :
    OpensB P t 1 (fun l : List α => [.sl sz (l.map f)]) (fun l => l.length ≤ maxLen ∧ ∀ a, a ∈ l → ok a) (fun l => (l.map u).sum + 1) where
  size := hc
  len _ := rfl
  opn enc w spare held fuel cs x hx := by
    rcases DataW.trod_slice ht hx with ⟨rfl, rfl⟩ | ⟨a, len, cap, elems, rest, n, _, rfl, rfl, _, hl, hm, hlen, hel, _, _⟩
    · refine ⟨[], ⟨Nat.zero_le _, by simp⟩, by simp [Rows.uptoBulk], rfl, fun j hj => ?_⟩
      have : j = 0 := by omega
      subst this
      exact ⟨.sl0 sz none 0, rfl⟩
    · have each : ∀ i, i < len → ∃ y : α, ok y ∧ (∀ z, (elems.map (·.1))[i]? = some z → u y ≤ Rows.uptoBulk z) ∧ ∃ cs : List Value, cs.length = sz ∧ (∀ j, j < sz → w.cell? ((a.add (i * sz)).add j) = cs[j]?) ∧ ∀ j, j < sz → CR w (old w) ((f y).getD j .junk) (cs.getD j undef) ∧ (cs.getD j undef).oneCell' = true := by
        intro i hi
        have h1 := hel i hi
        rw [h.size, List.getElem?_eq_getElem (by omega), Option.bind_eq_some_iff] at h1
        obtain ⟨cs, hcs, htr⟩ := h1
        obtain ⟨_, hcl, hcc⟩ := World.cells?_some hcs
        obtain ⟨y, hy, hu, hl1, hr⟩ := h.opn enc w spare held n cs _ htr
        refine ⟨y, hy, fun z hz => ?_, cs, hl1, hcc, hr⟩
        rw [List.getElem?_map, List.getElem?_eq_getElem (by omega), Option.map_some] at hz
        injection hz with hz
        rw [← hz]; exact hu
      obtain ⟨l, hll, hp⟩ := choose_list (fun i y => ok y ∧ (∀ z, (elems.map (·.1))[i]? = some z → u y ≤ Rows.uptoBulk z) ∧ ∃ cs : List Value, cs.length = sz ∧ (∀ j, j < sz → w.cell? ((a.add (i * sz)).add j) = cs[j]?) ∧ ∀ j, j < sz → CR w (old w) ((f y).getD j .junk) (cs.getD j undef) ∧ (cs.getD j undef).oneCell' = true) len each
      refine ⟨l, ⟨by omega, fun y hy => ?_⟩, ?_, rfl, fun j hj => ?_⟩
      · obtain ⟨i, hi⟩ := List.getElem?_of_mem hy
        exact (hp i y hi).1
      · have := bulk_sum (g := u) (l := l) (xs := elems.map (·.1)) (by simp [hll, hlen]) (fun i a ha y hy => (hp i a ha).2.1 y hy)
        simp only [Rows.uptoBulk]
        omega
      · have : j = 0 := by omega
        subst this
        refine ⟨?_, rfl⟩
        show CR w (old w) (.sl sz (l.map f)) (.slice (some a) len cap)
        by_cases h0 : len = 0
        · have : l = [] := List.eq_nil_of_length_eq_zero (by omega)
          subst this
          subst h0
          exact .sl0 sz _ _
        · have sp : a.spot = none := by
            obtain ⟨_, _, cs, hcl, hcc, _⟩ := hp 0 (l[0]'(by omega)) (List.getElem?_eq_getElem (by omega))
            have h1 := hcc 0 hz
            rw [List.getElem?_eq_getElem (by omega)] at h1
            have := World.cell?_spot h1
            simpa [Addr.add] using this
          obtain ⟨b, off, spot⟩ := a
          simp only at sp
          subst sp
          simp only [add_plain] at hp
          have key : ∀ i, i < l.length → ∃ cs : List Value, ok (l.getD i (l[0]'(by omega))) ∧ cs.length = sz ∧ (∀ j, j < sz → w.cell? ⟨b, off + i * sz + j, none⟩ = cs[j]?) ∧ ∀ j, j < sz → CR w (old w) ((f (l.getD i (l[0]'(by omega)))).getD j .junk) (cs.getD j undef) ∧ (cs.getD j undef).oneCell' = true := by
            intro i hi
            have e1 : l.getD i (l[0]'(by omega)) = l[i] := by simp [List.getD, hi]
            rw [e1]
            obtain ⟨h1, _, cs, h2, h3, h4⟩ := hp i l[i] (List.getElem?_eq_getElem hi)
            exact ⟨cs, h1, h2, h3, h4⟩
          have row : ∀ i, i < l.length → (l.map f).getD i [] = f (l.getD i (l[0]'(by omega))) := by
            intro i hi
            simp [List.getD, hi]
          have cell : ∀ i j, i < l.length → j < sz → ∃ u, w.cell? ⟨b, off + (i * sz + j), none⟩ = some u ∧ u.oneCell' = true ∧ CR w (old w) (((l.map f).getD i []).getD j .junk) u := by
            intro i j hi hj
            obtain ⟨cs, _, h2, h3, h4⟩ := key i hi
            refine ⟨cs.getD j undef, ?_, (h4 j hj).2, by rw [row i hi]; exact (h4 j hj).1⟩
            rw [← Nat.add_assoc, h3 j hj]
            simp [List.getD, h2, hj]
          refine .sl sz (l.map f) b off len cap (fun i j => (w.cell? ⟨b, off + (i * sz + j), none⟩).getD undef) ?_ (by simp [hll]) hl ?_ ?_ ?_
          · obtain ⟨u, hu, _⟩ := cell 0 0 (by omega) hz
            exact cell_lt hu
          · intro i hi
            rw [row i (by simpa using hi)]
            exact h.len _
          · intro i j hi hj
            obtain ⟨u, hu, h1, _⟩ := cell i j (by simpa using hi) hj
            rw [hu]
            exact ⟨rfl, h1⟩
          · intro i j hi hj
            obtain ⟨u, hu, _, h2⟩ := cell i j (by simpa using hi) hj
            simp only [hu]
            exact h2
theorem OpensB.arg_struct {P : Program} {H : Type} {enc : TypeId × Value → H} {w : World} {spare : Nat → Bool} {held : Bool} {t : TypeId} {fs : Array Field} {α : Type} {sz : Nat} {f : α → List D} {ok : α → Prop} {u : α → Nat} (h : OpensB P t sz f ok u) (ht : P.underlying t = some (.struct fs)) {r : Reach} {b0 : Nat} {v : Value} (hval : Value.okWide P w r b0 t v) {d : DataW H} {ps : List MemPlace} (hd : DataW.Trod enc P w 0 spare held t v d ps) :
    ∃ a, ok a ∧ u a ≤ Rows.uptoBulk d ∧ CR w (old w) (.ag (f a)) v := by
  simp only [Value.okWide, ht] at hval
  obtain ⟨cs, rfl, _, _⟩ := hval
  obtain ⟨fuel, hf⟩ := hd
  obtain ⟨a, ha, hu, hl, hr⟩ := h.opn enc w spare held fuel _ _ hf
  refine ⟨a, ha, hu, .ag _ _ (by rw [h.len]; simpa [Value.cells] using hl) fun i hi => ?_⟩
  rw [h.len] at hi
  have h1 := (hr i hi).1
  simpa [Value.cells, Array.getD_eq_getD_getElem?, List.getD] using h1
/-! ### Thickets -/
def wayU (w : List Int) : Nat := (w.map fun _ => 1).sum + 1
def waysU (l : List (List Int)) : Nat := (l.map wayU).sum + 1
def spotU (s : Dm.Spot) : Nat := 1 + (1 + (1 + (waysU s.ways + 0))) + 1
def thiU (t : Dm.Thicket) : Nat := ((t.spots.map spotU).sum + 1 + (1 + 0)) + 1
theorem Try.b_mat : OpensB Try.prog 68 1 (fun l => [.sl 1 (rows i64s l)]) (okL (okL ok64)) waysU :=
  OpensB.slice (u := wayU) Try.underlying68 (by kernel_rfl) (OpensB.slice Try.underlying40 (by kernel_rfl) (Opens.b Try.o_int) (by omega)) (by omega)
theorem Try.b_spo : OpensB Try.prog 70 4 spoD Dm.Spot.ok spotU :=
  (OpensB.struct (sz := 4) Try.underlying70 (by kernel_rfl) (.cons rfl (Opens.b Try.o_int) (.cons rfl (Opens.b Try.o_int) (.cons rfl (Opens.b Try.o_int) (.cons rfl Try.b_mat (.nil _))))) (fun _ => rfl)).map (fun _ => rfl) fun ⟨x0, x1, x2, x3, ⟨⟩⟩ h => ⟨⟨x0, x1, x2, x3⟩, ⟨h.1, h.2.1, h.2.2.1, h.2.2.2.1⟩, Nat.le_refl _, rfl⟩
theorem Try.b_thi : OpensB Try.prog 24 2 thiD Dm.Thicket.ok thiU :=
  (OpensB.struct (sz := 2) Try.underlying24 (by kernel_rfl) (.cons rfl (OpensB.slice (u := spotU) Try.underlying22 (by kernel_rfl) Try.b_spo (by omega)) (.cons rfl (Opens.b Try.o_int) (.nil _))) (fun _ => rfl)).map (fun _ => rfl) fun ⟨x0, x1, ⟨⟩⟩ h => ⟨⟨x0, x1⟩, ⟨h.1, h.2.1⟩, Nat.le_refl _, rfl⟩
theorem small_at {H : Type} {l : List (DataW H)} (hk : Rows.uptoSmall H l = true) {i : Nat} (h : i < l.length) : Rows.uptoBulk (l[i]'h) ≤ 1048576 := Nat.le_trans (bulk_part h) (of_decide_eq_true hk)
end Go.Proofs.Ytcbilnmpiladnaa
