/-
  A logic for Go functions over plain data, part Z: from a contract on descriptions to a row over whatever arguments.
-/
import Derived.ProofKit
import Derived.Test.YtjekkbpdgnohcaaDmD
set_option linter.unusedSimpArgs false
set_option linter.unnecessarySimpa false
set_option linter.unusedVariables false
namespace Go.Dm
open Go.ChangeShapes Go.WideShapes Go.ChangeAt Go.RowKit
def old (w : World) : Nat → Prop := fun b => b < w.heap.size
structure Opens (P : Program) (t : TypeId) {α : Type} (sz : Nat) (f : α → List D) (ok : α → Prop) : Prop where
  size : P.cellsOf t = sz
  len : ∀ a, (f a).length = sz
  opn : ∀ {H : Type} (enc : TypeId × Value → H) (w : World) (spare : Nat → Bool) (held : Bool) (fuel : Nat) (cs : List Value) (x : DataW H × List MemPlace), DataW.trod enc P w 0 spare held fuel t cs = some x →
    ∃ a, ok a ∧ cs.length = sz ∧ ∀ j, j < sz → CR w (old w) ((f a).getD j .junk) (cs.getD j undef) ∧ (cs.getD j undef).oneCell' = true
section
variable {P : Program}
theorem Opens.int {t : TypeId} {k : IntKind} (ht : P.underlying t = some (.int k)) (hc : P.cellsOf t = 1) : Opens P t 1 (fun n : Int => [.v (.int k n)]) (fun n => (Lit.int k n).wf = true) where
  size := hc
  len _ := rfl
  opn enc w spare held fuel cs x h := by
    obtain ⟨n, rfl, _, hw⟩ := DataW.trod_int ht h
    refine ⟨n, hw, rfl, fun j hj => ?_⟩
    have : j = 0 := by omega
    subst this
    exact ⟨.v _, rfl⟩
theorem Opens.bool {t : TypeId} (ht : P.underlying t = some .bool) (hc : P.cellsOf t = 1) : Opens P t 1 (fun n : Bool => [.v (.bool n)]) (fun _ => True) where
  size := hc
  len _ := rfl
  opn enc w spare held fuel cs x h := by
    obtain ⟨n, rfl, _⟩ := DataW.trod_bool ht h
    refine ⟨n, trivial, rfl, fun j hj => ?_⟩
    have : j = 0 := by omega
    subst this
    exact ⟨.v _, rfl⟩
theorem Opens.map {t : TypeId} {α β : Type} {sz : Nat} {f : α → List D} {ok : α → Prop} {g : β → List D} {ok' : β → Prop} (h : Opens P t sz f ok) (hl : ∀ b, (g b).length = sz) (hm : ∀ a, ok a → ∃ b, ok' b ∧ g b = f a) : Opens P t sz g ok' where
  size := h.size
  len := hl
  opn enc w spare held fuel cs x hx := by
    obtain ⟨a, ha, h1, h2⟩ := h.opn enc w spare held fuel cs x hx
    obtain ⟨b, hb, e⟩ := hm a ha
    exact ⟨b, hb, h1, by rw [e]; exact h2⟩
theorem Opens.u8 {t : TypeId} (ht : P.underlying t = some (.int .u8)) (hc : P.cellsOf t = 1) : Opens P t 1 (fun n : UInt8 => [.v (.int .u8 (n.toNat : Int))]) (fun _ => True) :=
  (Opens.int ht hc).map (fun _ => rfl) fun n hn => by
    have h : 0 ≤ n ∧ n ≤ 255 := by
      simp only [Lit.wf, Bool.and_eq_true, decide_eq_true_eq] at hn
      exact hn
    refine ⟨UInt8.ofNat n.toNat, trivial, ?_⟩
    have e : ((UInt8.ofNat n.toNat).toNat : Int) = n := by
      rw [UInt8.toNat_ofNat']
      omega
    rw [e]
theorem Opens.i64 {t : TypeId} (ht : P.underlying t = some (.int .i64)) (hc : P.cellsOf t = 1) : Opens P t 1 (fun n : Int => [.v (.int .i64 n)]) (fun n => -9223372036854775808 ≤ n ∧ n ≤ 9223372036854775807) :=
  (Opens.int ht hc).map (fun _ => rfl) fun n hn => by
    simp only [Lit.wf, Bool.and_eq_true, decide_eq_true_eq] at hn
    exact ⟨n, hn, rfl⟩
inductive OpensFs (P : Program) : List Field → Nat → (α : Type) → (α → List D) → (α → Prop) → Prop
  | nil (off : Nat) : OpensFs P [] off Unit (fun _ => []) (fun _ => True)
  | cons {f : Field} {fs : List Field} {off sz : Nat} {α β : Type} {g : α → List D} {ok : α → Prop} {g' : β → List D} {ok' : β → Prop} (hoff : f.offset = off) (h : Opens P f.type sz g ok) (t : OpensFs P fs (off + sz) β g' ok') :
      OpensFs P (f :: fs) off (α × β) (fun x => g x.1 ++ g' x.2) (fun x => ok x.1 ∧ ok' x.2)
theorem OpensFs.opn {H : Type} {enc : TypeId × Value → H} {w : World} {spare : Nat → Bool} {held : Bool} {fuel : Nat} {cs : List Value} {fs : List Field} {off : Nat} {α : Type} {f : α → List D} {ok : α → Prop} (h : OpensFs P fs off α f ok) :
    (∀ f, f ∈ fs → ∃ y, DataW.trod enc P w 0 spare held fuel f.type ((cs.drop f.offset).take (P.cellsOf f.type)) = some y) →
      ∃ a, ok a ∧ (0 < (f a).length → off + (f a).length ≤ cs.length) ∧ ∀ j, j < (f a).length → CR w (old w) ((f a).getD j .junk) (cs.getD (off + j) undef) ∧ (cs.getD (off + j) undef).oneCell' = true := by
  induction h with
  | nil off => intro _; exact ⟨(), trivial, fun h => by simp at h, fun j hj => by simp at hj⟩
  | cons hoff h t ih =>
    rename_i f fs off sz α β g ok g' ok'
    intro hx
    obtain ⟨y, hy⟩ := hx f (by simp)
    obtain ⟨b, hb, hl, hr⟩ := ih (fun f hf => hx f (by simp [hf]))
    rw [h.size, hoff] at hy
    obtain ⟨a, ha, hcl, hca⟩ := h.opn enc w spare held fuel _ _ hy
    have hga : (g a).length = sz := h.len a
    have hle : off + sz ≤ cs.length ∨ sz = 0 := by
      rw [List.length_take, List.length_drop] at hcl
      omega
    have get : ∀ j, j < sz → ((cs.drop off).take sz).getD j undef = cs.getD (off + j) undef := by
      intro j hj
      simp only [List.getD_eq_getElem?_getD, List.getElem?_take, hj, if_true, List.getElem?_drop]
    refine ⟨(a, b), ⟨ha, hb⟩, fun hpos => ?_, fun j hj => ?_⟩
    · simp only [List.length_append, hga] at hpos ⊢
      by_cases h0 : 0 < (g' b).length
      · have := hl h0; omega
      · rcases hle with h | h <;> omega
    · simp only [List.length_append, hga] at hj
      simp only
      by_cases hlt : j < sz
      · have e1 : (g a ++ g' b).getD j .junk = (g a).getD j .junk := by simp only [List.getD_eq_getElem?_getD]; rw [List.getElem?_append_left (by omega)]
        have := hca j hlt
        rw [get j hlt] at this
        rw [e1]; exact this
      · have e1 : (g a ++ g' b).getD j .junk = (g' b).getD (j - sz) .junk := by simp only [List.getD_eq_getElem?_getD]; rw [List.getElem?_append_right (by omega), hga]
        have := hr (j - sz) (by omega)
        rw [show off + sz + (j - sz) = off + j by omega] at this
        rw [e1]; exact this
theorem OpensFs.len {fs : List Field} {off : Nat} {α : Type} {f : α → List D} {ok : α → Prop} (h : OpensFs P fs off α f ok) : ∃ n, ∀ a, (f a).length = n := by
  induction h with
  | nil off => exact ⟨0, fun _ => rfl⟩
  | cons hoff h t ih =>
    obtain ⟨n, hn⟩ := ih
    exact ⟨_, fun a => by rw [List.length_append, h.len, hn]⟩
theorem Opens.struct {t : TypeId} {fs : Array Field} {α : Type} {sz : Nat} {f : α → List D} {ok : α → Prop} (ht : P.underlying t = some (.struct fs)) (hc : P.cellsOf t = sz) (h : OpensFs P fs.toList 0 α f ok) (hl : ∀ a, (f a).length = sz) : Opens P t sz f ok where
  size := hc
  len := hl
  opn enc w spare held fuel cs x hx := by
    obtain ⟨xs, n, rfl, _, hcl, hxl, hf⟩ := DataW.trod_struct ht hx
    rw [hc] at hcl
    obtain ⟨a, ha, _, hr⟩ := h.opn (enc := enc) (w := w) (spare := spare) (held := held) (fuel := n) (cs := cs) (fun f hf' => by
      obtain ⟨i, hi⟩ := List.getElem?_of_mem hf'
      have h1 := hf i f (by simpa using hi)
      have h2 : i < xs.length := by
        have := (List.getElem?_eq_some_iff.1 hi).1
        simp at this; omega
      rw [List.getElem?_eq_getElem h2] at h1
      exact ⟨_, h1⟩)
    refine ⟨a, ha, hcl, fun j hj => ?_⟩
    have := hr j (by rw [hl]; exact hj)
    rwa [Nat.zero_add] at this
theorem Opens.u32 {t : TypeId} (ht : P.underlying t = some (.int .u32)) (hc : P.cellsOf t = 1) : Opens P t 1 (fun n : Int => [.v (.int .u32 n)]) (fun n => 0 ≤ n ∧ n ≤ 4294967295) :=
  (Opens.int ht hc).map (fun _ => rfl) fun n hn => by
    simp only [Lit.wf, Bool.and_eq_true, decide_eq_true_eq] at hn
    exact ⟨n, hn, rfl⟩
theorem choose_list {α : Type} (p : Nat → α → Prop) : ∀ n : Nat, (∀ i, i < n → ∃ a, p i a) → ∃ l : List α, l.length = n ∧ ∀ i a, l[i]? = some a → p i a
  | 0, _ => ⟨[], rfl, fun i a h => by simp at h⟩
  | n + 1, h => by
    obtain ⟨l, hl, hp⟩ := choose_list p n (fun i hi => h i (by omega))
    obtain ⟨a, ha⟩ := h n (by omega)
    refine ⟨l ++ [a], by simp [hl], fun i b hb => ?_⟩
    by_cases hi : i < n
    · rw [List.getElem?_append_left (by omega)] at hb
      exact hp i b hb
    · rw [List.getElem?_append_right (by omega)] at hb
      have : i = n := by
        have := (List.getElem?_eq_some_iff.1 hb).1
        simp at this
        omega
      subst this
      simp [hl] at hb
      exact hb ▸ ha
theorem cell_lt {w : World} {b off : Nat} {v : Value} (h : w.cell? ⟨b, off, none⟩ = some v) : b < w.heap.size := by
  by_cases hb : b < w.heap.size
  · exact hb
  · have : w.heap[b]? = none := by simp; omega
    simp [World.cell?, this] at h
theorem Opens.slice {t e : TypeId} {α : Type} {sz : Nat} {f : α → List D} {ok : α → Prop} (ht : P.underlying t = some (.slice e)) (hc : P.cellsOf t = 1) (h : Opens P e sz f ok) (hz : 0 < sz) :
    Opens P t 1 (fun l : List α => [.sl sz (l.map f)]) (fun l => l.length ≤ maxLen ∧ ∀ a, a ∈ l → ok a) where
  size := hc
  len _ := rfl
  opn enc w spare held fuel cs x hx := by
    rcases DataW.trod_slice ht hx with ⟨rfl, _⟩ | ⟨a, len, cap, elems, rest, n, _, rfl, _, _, hl, hm, hlen, hel, _, _⟩
    · refine ⟨[], ⟨Nat.zero_le _, by simp⟩, rfl, fun j hj => ?_⟩
      have : j = 0 := by omega
      subst this
      exact ⟨.sl0 sz none 0, rfl⟩
    · have each : ∀ i, i < len → ∃ y : α, ok y ∧ ∃ cs : List Value, cs.length = sz ∧ (∀ j, j < sz → w.cell? ((a.add (i * sz)).add j) = cs[j]?) ∧ ∀ j, j < sz → CR w (old w) ((f y).getD j .junk) (cs.getD j undef) ∧ (cs.getD j undef).oneCell' = true := by
        intro i hi
        have h1 := hel i hi
        rw [h.size, List.getElem?_eq_getElem (by omega), Option.bind_eq_some_iff] at h1
        obtain ⟨cs, hcs, htr⟩ := h1
        obtain ⟨_, hcl, hcc⟩ := World.cells?_some hcs
        obtain ⟨y, hy, hl1, hr⟩ := h.opn enc w spare held n cs _ htr
        exact ⟨y, hy, cs, hl1, hcc, hr⟩
      obtain ⟨l, hll, hp⟩ := choose_list (fun i y => ok y ∧ ∃ cs : List Value, cs.length = sz ∧ (∀ j, j < sz → w.cell? ((a.add (i * sz)).add j) = cs[j]?) ∧ ∀ j, j < sz → CR w (old w) ((f y).getD j .junk) (cs.getD j undef) ∧ (cs.getD j undef).oneCell' = true) len each
      refine ⟨l, ⟨by omega, fun y hy => ?_⟩, rfl, fun j hj => ?_⟩
      · obtain ⟨i, hi⟩ := List.getElem?_of_mem hy
        exact (hp i y hi).1
      · have : j = 0 := by omega
        subst this
        refine ⟨?_, rfl⟩
        show CR w (old w) (.sl sz (l.map f)) (.slice (some a) len cap)
        by_cases h0 : len = 0
        · have : l = [] := List.eq_nil_of_length_eq_zero (by omega)
          subst this
          subst h0
          exact .sl0 sz _ _
        · have sp : a.spot = none := by
            obtain ⟨_, cs, hcl, hcc, _⟩ := hp 0 (l[0]'(by omega)) (List.getElem?_eq_getElem (by omega))
            have h1 := hcc 0 hz
            rw [List.getElem?_eq_getElem (by omega)] at h1
            have := World.cell?_spot h1
            simpa [Addr.add] using this
          obtain ⟨b, off, spot⟩ := a
          simp only at sp
          subst sp
          simp only [add_plain] at hp
          have key : ∀ i, i < l.length → ∃ cs : List Value, ok (l.getD i (l[0]'(by omega))) ∧ cs.length = sz ∧ (∀ j, j < sz → w.cell? ⟨b, off + i * sz + j, none⟩ = cs[j]?) ∧ ∀ j, j < sz → CR w (old w) ((f (l.getD i (l[0]'(by omega)))).getD j .junk) (cs.getD j undef) ∧ (cs.getD j undef).oneCell' = true := by
            intro i hi
            have e1 : l.getD i (l[0]'(by omega)) = l[i] := by simp [List.getD, hi]
            rw [e1]
            obtain ⟨h1, cs, h2, h3, h4⟩ := hp i l[i] (List.getElem?_eq_getElem hi)
            exact ⟨cs, h1, h2, h3, h4⟩
          have row : ∀ i, i < l.length → (l.map f).getD i [] = f (l.getD i (l[0]'(by omega))) := by
            intro i hi
            simp [List.getD, hi]
          have cell : ∀ i j, i < l.length → j < sz → ∃ u, w.cell? ⟨b, off + (i * sz + j), none⟩ = some u ∧ u.oneCell' = true ∧ CR w (old w) (((l.map f).getD i []).getD j .junk) u := by
            intro i j hi hj
            obtain ⟨cs, _, h2, h3, h4⟩ := key i hi
            refine ⟨cs.getD j undef, ?_, (h4 j hj).2, by rw [row i hi]; exact (h4 j hj).1⟩
            rw [← Nat.add_assoc, h3 j hj]
            simp [List.getD, h2, hj]
          refine .sl sz (l.map f) b off len cap (fun i j => (w.cell? ⟨b, off + (i * sz + j), none⟩).getD undef) ?_ (by simp [hll]) hl ?_ ?_ ?_
          · obtain ⟨u, hu, _⟩ := cell 0 0 (by omega) hz
            exact cell_lt hu
          · intro i hi
            rw [row i (by simpa using hi)]
            exact h.len _
          · intro i j hi hj
            obtain ⟨u, hu, h1, _⟩ := cell i j (by simpa using hi) hj
            rw [hu]
            exact ⟨rfl, h1⟩
          · intro i j hi hj
            obtain ⟨u, hu, _, h2⟩ := cell i j (by simpa using hi) hj
            simp only [hu]
            exact h2
variable {H : Type} {enc : TypeId × Value → H} {w : World} {spare : Nat → Bool} {held : Bool}
theorem cells_self {v : Value} (h : v.oneCell' = true) : v.cells.toList = [v] := by
  cases v <;> first | rfl | cases h
theorem Opens.val {t : TypeId} {α : Type} {f : α → List D} {ok : α → Prop} (h : Opens P t 1 f ok) {v : Value} (hv : v.oneCell' = true) {d : DataW H} {ps : List MemPlace} (hd : DataW.Trod enc P w 0 spare held t v d ps) :
    ∃ a, ok a ∧ CR w (old w) ((f a).getD 0 .junk) v := by
  obtain ⟨fuel, hf⟩ := hd
  rw [cells_self hv] at hf
  obtain ⟨a, ha, _, hr⟩ := h.opn enc w spare held fuel _ _ hf
  exact ⟨a, ha, (hr 0 (by omega)).1⟩
theorem Opens.arg_slice {t e : TypeId} {α : Type} {f : α → List D} {ok : α → Prop} (h : Opens P t 1 f ok) (ht : P.underlying t = some (.slice e)) {r : Reach} {b0 : Nat} {v : Value} (hval : Value.okWide P w r b0 t v) {d : DataW H} {ps : List MemPlace} (hd : DataW.Trod enc P w 0 spare held t v d ps) :
    ∃ a, ok a ∧ CR w (old w) ((f a).getD 0 .junk) v := by
  obtain ⟨a, len, cap, rfl⟩ := okWide_slice ht hval
  exact h.val rfl hd
theorem Opens.arg_struct {t : TypeId} {fs : Array Field} {α : Type} {sz : Nat} {f : α → List D} {ok : α → Prop} (h : Opens P t sz f ok) (ht : P.underlying t = some (.struct fs)) {r : Reach} {b0 : Nat} {v : Value} (hval : Value.okWide P w r b0 t v) {d : DataW H} {ps : List MemPlace} (hd : DataW.Trod enc P w 0 spare held t v d ps) :
    ∃ a, ok a ∧ CR w (old w) (.ag (f a)) v := by
  simp only [Value.okWide, ht] at hval
  obtain ⟨cs, rfl, _, _⟩ := hval
  obtain ⟨fuel, hf⟩ := hd
  obtain ⟨a, ha, hl, hr⟩ := h.opn enc w spare held fuel _ _ hf
  refine ⟨a, ha, .ag _ _ (by rw [h.len]; simpa [Value.cells] using hl) fun i hi => ?_⟩
  rw [h.len] at hi
  have := (hr i hi).1
  simpa [Value.cells, Array.getD_eq_getD_getElem?, List.getD] using this
theorem trodAll_stays (hl : laidOutB P = true) {W W' : World} (hb : Below W.heap.size W W') : ∀ {ts : List TypeId} {vs : List Value} {ds : List (DataW H)} {ps : List MemPlace}, (∀ t, t ∈ ts → P.readableRec t = true ∧ t < P.types.size) →
    DataW.TrodAll enc P W 0 (fun _ => true) true ts vs ds ps → (∀ p, p ∈ ps → p.block < W.heap.size) → DataW.TrodAll enc P W' 0 (fun b => decide (b < W.heap.size)) true ts vs ds ps
  | [], _, _, _, _, h, _ => by
    obtain ⟨rfl, rfl, rfl⟩ := trodAll_nil h
    exact trodAll_mk0
  | t :: ts, _, _, _, hr, h, hlt => by
    obtain ⟨v, vs1, d, ds1, a, b, rfl, rfl, rfl, h1, h2⟩ := trodAll_cons h
    exact ⟨a, b, Below.trod hl (hr t (by simp)).1 (hr t (by simp)).2 h1 hb (fun x hx => hlt x (by simp [hx])), trodAll_stays hl hb (fun t ht => hr t (by simp [ht])) h2 (fun x hx => hlt x (by simp [hx])), rfl⟩
theorem row_of_spec (hl : laidOutB P = true) {f : Func} {fid : FuncId} {s : ChangeSpec} {args : Array Value} {ds gs : List (DataW H)} {before : List MemPlace} {W : World} {tb : TypeId} {dd : List D}
    (hvars : s.vars = []) (hrt : f.resultTypes = #[tb]) (htb : P.underlying tb = some .bool)
    (hr : f.params.toList.all (fun t => P.readableRec t && decide (t < P.types.size)) = true)
    (hfn : s.fn H (ds ++ gs) = { results := [.lit (.bool true)], args := ds })
    (hW : DataW.Whole enc P f.params.toList s.vars false W args.toList ds gs before)
    (hn : args.size = dd.length) (hcr : ∀ i, i < dd.length → CR W (old W) (dd.getD i .junk) (args.getD i undef))
    (hs : Spec P fid dd (· = .v (.bool true))) :
    Calls P fid args W fun e W' => ∃ v, e = .returned v ∧ s.post enc P f false true false false W args v W' := by
  refine (hs.2 W (old W) args (fun _ h => h) hn hcr).mono ?_
  rintro e W' ⟨x, d, rfl, rfl, hb, hx⟩
  cases hx
  refine ⟨_, rfl, ?_⟩
  have hW' := hW
  obtain ⟨p, q, hA, hV, rfl, _, _⟩ := hW
  rw [hvars] at hV
  obtain ⟨rfl, rfl⟩ := trodVars_none hV
  have hlt : ∀ x, x ∈ p → x.block < W.heap.size := fun x hx => hW'.lt x (by simp [hx])
  have hr' : ∀ t, t ∈ f.params.toList → P.readableRec t = true ∧ t < P.types.size := fun t ht => by
    have := List.all_eq_true.1 hr t ht
    simpa using this
  refine ⟨_, _, _, [], p, [], hW', ?_, ?_, ?_, ?_, fun h => by cases h⟩
  · rw [hfn, hrt]
    exact trodAll_mk1 (shut_bool htb true)
  · rw [hfn]
    exact trodAll_stays hl hb hr' hA hlt
  · rw [hfn, hvars]
    rfl
  · exact hb.frame _
end
end Go.Dm
