/-
 Texts of this claim, one behind another.
-/
import Derived.ProofKit
import Derived.Test.YtdncgpgfnclifaaDmD
import Derived.Test.YtdncgpgfnclifaaProg
import Derived.KernelRfl
set_option linter.unusedSimpArgs false
set_option linter.unnecessarySimpa false
set_option linter.unusedVariables false
namespace Go.Dm
open Go.ChangeShapes Go.WideShapes Go.ChangeAt Go.RowKit
def old (w : World) : Nat → Prop := fun b => b < w.heap.size
structure Opens (P : Program) (t : TypeId) {α : Type} (sz : Nat) (f : α → List D) (ok : α → Prop) : Prop where
  size : P.cellsOf t = sz
  len : ∀ a, (f a).length = sz
  opn : ∀ {H : Type} (enc : TypeId × Value → H) (w : World) (spare : Nat → Bool) (held : Bool) (fuel : Nat) (cs : List Value) (x : DataW H × List MemPlace), DataW.trod enc P w 0 spare held fuel t cs = some x →
    ∃ a, ok a ∧ cs.length = sz ∧ ∀ j, j < sz → CR w (old w) ((f a).getD j .junk) (cs.getD j undef) ∧ (cs.getD j undef).oneCell' = true
section
variable {P : Program}
theorem Opens.int {t : TypeId} {k : IntKind} (ht : P.underlying t = some (.int k)) (hc : P.cellsOf t = 1) : Opens P t 1 (fun n : Int => [.v (.int k n)]) (fun n => (Lit.int k n).wf = true) where
  size := hc
  len _ := rfl
  opn enc w spare held fuel cs x h := by
    obtain ⟨n, rfl, _, hw⟩ := DataW.trod_int ht h
    refine ⟨n, hw, rfl, fun j hj => ?_⟩
    have : j = 0 := by omega
    subst this
    exact ⟨.v _, rfl⟩
theorem Opens.bool {t : TypeId} (ht : P.underlying t = some .bool) (hc : P.cellsOf t = 1) : Opens P t 1 (fun n : Bool => [.v (.bool n)]) (fun _ => True) where
  size := hc
  len _ := rfl
  opn enc w spare held fuel cs x h := by
    obtain ⟨n, rfl, _⟩ := DataW.trod_bool ht h
    refine ⟨n, trivial, rfl, fun j hj => ?_⟩
    have : j = 0 := by omega
    subst this
    exact ⟨.v _, rfl⟩
theorem Opens.map {t : TypeId} {α β : Type} {sz : Nat} {f : α → List D} {ok : α → Prop} {g : β → List D} {ok' : β → Prop} (h : Opens P t sz f ok) (hl : ∀ b, (g b).length = sz) (hm : ∀ a, ok a → ∃ b, ok' b ∧ g b = f a) : Opens P t sz g ok' where
  size := h.size
  len := hl
  opn enc w spare held fuel cs x hx := by
    obtain ⟨a, ha, h1, h2⟩ := h.opn enc w spare held fuel cs x hx
    obtain ⟨b, hb, e⟩ := hm a ha
    exact ⟨b, hb, h1, by rw [e]; exact h2⟩
theorem Opens.u8 {t : TypeId} (ht : P.underlying t = some (.int .u8)) (hc : P.cellsOf t = 1) : Opens P t 1 (fun n : UInt8 => [.v (.int .u8 (n.toNat : Int))]) (fun _ => True) :=
  (Opens.int ht hc).map (fun _ => rfl) fun n hn => by
    have h : 0 ≤ n ∧ n ≤ 255 := by
      simp only [Lit.wf, Bool.and_eq_true, decide_eq_true_eq] at hn
      exact hn
    refine ⟨UInt8.ofNat n.toNat, trivial, ?_⟩
    have e : ((UInt8.ofNat n.toNat).toNat : Int) = n := by
      rw [UInt8.toNat_ofNat']
      omega
    rw [e]
theorem Opens.i64 {t : TypeId} (ht : P.underlying t = some (.int .i64)) (hc : P.cellsOf t = 1) : Opens P t 1 (fun n : Int => [.v (.int .i64 n)]) (fun n => -9223372036854775808 ≤ n ∧ n ≤ 9223372036854775807) :=
  (Opens.int ht hc).map (fun _ => rfl) fun n hn => by
    simp only [Lit.wf, Bool.and_eq_true, decide_eq_true_eq] at hn
    exact ⟨n, hn, rfl⟩
inductive OpensFs (P : Program) : List Field → Nat → (α : Type) → (α → List D) → (α → Prop) → Prop
  | nil (off : Nat) : OpensFs P [] off Unit (fun _ => []) (fun _ => True)
  | cons {f : Field} {fs : List Field} {off sz : Nat} {α β : Type} {g : α → List D} {ok : α → Prop} {g' : β → List D} {ok' : β → Prop} (hoff : f.offset = off) (h : Opens P f.type sz g ok) (t : OpensFs P fs (off + sz) β g' ok') :
      OpensFs P (f :: fs) off (α × β) (fun x => g x.1 ++ g' x.2) (fun x => ok x.1 ∧ ok' x.2)
theorem OpensFs.opn {H : Type} {enc : TypeId × Value → H} {w : World} {spare : Nat → Bool} {held : Bool} {fuel : Nat} {cs : List Value} {fs : List Field} {off : Nat} {α : Type} {f : α → List D} {ok : α → Prop} (h : OpensFs P fs off α f ok) :
    (∀ f, f ∈ fs → ∃ y, DataW.trod enc P w 0 spare held fuel f.type ((cs.drop f.offset).take (P.cellsOf f.type)) = some y) →
      ∃ a, ok a ∧ (0 < (f a).length → off + (f a).length ≤ cs.length) ∧ ∀ j, j < (f a).length → CR w (old w) ((f a).getD j .junk) (cs.getD (off + j) undef) ∧ (cs.getD (off + j) undef).oneCell' = true := by
  induction h with
  | nil off => intro _; exact ⟨(), trivial, fun h => by simp at h, fun j hj => by simp at hj⟩
  | cons hoff h t ih =>
    rename_i f fs off sz α β g ok g' ok'
    intro hx
    obtain ⟨y, hy⟩ := hx f (by simp)
    obtain ⟨b, hb, hl, hr⟩ := ih (fun f hf => hx f (by simp [hf]))
    rw [h.size, hoff] at hy
    obtain ⟨a, ha, hcl, hca⟩ := h.opn enc w spare held fuel _ _ hy
    have hga : (g a).length = sz := h.len a
    have hle : off + sz ≤ cs.length ∨ sz = 0 := by
      rw [List.length_take, List.length_drop] at hcl
      omega
    have get : ∀ j, j < sz → ((cs.drop off).take sz).getD j undef = cs.getD (off + j) undef := by
      intro j hj
      simp only [List.getD_eq_getElem?_getD, List.getElem?_take, hj, if_true, List.getElem?_drop]
    refine ⟨(a, b), ⟨ha, hb⟩, fun hpos => ?_, fun j hj => ?_⟩
    · simp only [List.length_append, hga] at hpos ⊢
      by_cases h0 : 0 < (g' b).length
      · have := hl h0; omega
      · rcases hle with h | h <;> omega
    · simp only [List.length_append, hga] at hj
      simp only
      by_cases hlt : j < sz
      · have e1 : (g a ++ g' b).getD j .junk = (g a).getD j .junk := by simp only [List.getD_eq_getElem?_getD]; rw [List.getElem?_append_left (by omega)]
        have := hca j hlt
        rw [get j hlt] at this
        rw [e1]; exact this
      · have e1 : (g a ++ g' b).getD j .junk = (g' b).getD (j - sz) .junk := by simp only [List.getD_eq_getElem?_getD]; rw [List.getElem?_append_right (by omega), hga]
        have := hr (j - sz) (by omega)
        rw [show off + sz + (j - sz) = off + j by omega] at this
        rw [e1]; exact this
theorem OpensFs.len {fs : List Field} {off : Nat} {α : Type} {f : α → List D} {ok : α → Prop} (h : OpensFs P fs off α f ok) : ∃ n, ∀ a, (f a).length = n := by
  induction h with
  | nil off => exact ⟨0, fun _ => rfl⟩
  | cons hoff h t ih =>
    obtain ⟨n, hn⟩ := ih
    exact ⟨_, fun a => by rw [List.length_append, h.len, hn]⟩
theorem Opens.struct {t : TypeId} {fs : Array Field} {α : Type} {sz : Nat} {f : α → List D} {ok : α → Prop} (ht : P.underlying t = some (.struct fs)) (hc : P.cellsOf t = sz) (h : OpensFs P fs.toList 0 α f ok) (hl : ∀ a, (f a).length = sz) : Opens P t sz f ok where
  size := hc
  len := hl
  opn enc w spare held fuel cs x hx := by
    obtain ⟨xs, n, rfl, _, hcl, hxl, hf⟩ := DataW.trod_struct ht hx
    rw [hc] at hcl
    obtain ⟨a, ha, _, hr⟩ := h.opn (enc := enc) (w := w) (spare := spare) (held := held) (fuel := n) (cs := cs) (fun f hf' => by
      obtain ⟨i, hi⟩ := List.getElem?_of_mem hf'
      have h1 := hf i f (by simpa using hi)
      have h2 : i < xs.length := by
        have := (List.getElem?_eq_some_iff.1 hi).1
        simp at this; omega
      rw [List.getElem?_eq_getElem h2] at h1
      exact ⟨_, h1⟩)
    refine ⟨a, ha, hcl, fun j hj => ?_⟩
    have := hr j (by rw [hl]; exact hj)
    rwa [Nat.zero_add] at this
theorem Opens.u32 {t : TypeId} (ht : P.underlying t = some (.int .u32)) (hc : P.cellsOf t = 1) : Opens P t 1 (fun n : Int => [.v (.int .u32 n)]) (fun n => 0 ≤ n ∧ n ≤ 4294967295) :=
  (Opens.int ht hc).map (fun _ => rfl) fun n hn => by
    simp only [Lit.wf, Bool.and_eq_true, decide_eq_true_eq] at hn
    exact ⟨n, hn, rfl⟩
theorem choose_list {α : Type} (p : Nat → α → Prop) : ∀ n : Nat, (∀ i, i < n → ∃ a, p i a) → ∃ l : List α, l.length = n ∧ ∀ i a, l[i]? = some a → p i a
  | 0, _ => ⟨[], rfl, fun i a h => by simp at h⟩
  | n + 1, h => by
    obtain ⟨l, hl, hp⟩ := choose_list p n (fun i hi => h i (by omega))
    obtain ⟨a, ha⟩ := h n (by omega)
    refine ⟨l ++ [a], by simp [hl], fun i b hb => ?_⟩
    by_cases hi : i < n
    · rw [List.getElem?_append_left (by omega)] at hb
      exact hp i b hb
    · rw [List.getElem?_append_right (by omega)] at hb
      have : i = n := by
        have := (List.getElem?_eq_some_iff.1 hb).1
        simp at this
        omega
      subst this
      simp [hl] at hb
      exact hb ▸ ha
theorem cell_lt {w : World} {b off : Nat} {v : Value} (h : w.cell? ⟨b, off, none⟩ = some v) : b < w.heap.size := by
  by_cases hb : b < w.heap.size
  · exact hb
  · have : w.heap[b]? = none := by simp; omega
    simp [World.cell?, this] at h
theorem Opens.slice {t e : TypeId} {α : Type} {sz : Nat} {f : α → List D} {ok : α → Prop} (ht : P.underlying t = some (.slice e)) (hc : P.cellsOf t = 1) (h : Opens P e sz f ok) (hz : 0 < sz) :
    Opens P t 1 (fun l : List α => [.sl sz (l.map f)]) (fun l => l.length ≤ maxLen ∧ ∀ a, a ∈ l → ok a) where
  size := hc
  len _ := rfl
  opn enc w spare held fuel cs x hx := by
    rcases DataW.trod_slice ht hx with ⟨rfl, _⟩ | ⟨a, len, cap, elems, rest, n, _, rfl, _, _, hl, hm, hlen, hel, _, _⟩
    · refine ⟨[], ⟨Nat.zero_le _, by simp⟩, rfl, fun j hj => ?_⟩
      have : j = 0 := by omega
      subst this
      exact ⟨.sl0 sz none 0, rfl⟩
    · have each : ∀ i, i < len → ∃ y : α, ok y ∧ ∃ cs : List Value, cs.length = sz ∧ (∀ j, j < sz → w.cell? ((a.add (i * sz)).add j) = cs[j]?) ∧ ∀ j, j < sz → CR w (old w) ((f y).getD j .junk) (cs.getD j undef) ∧ (cs.getD j undef).oneCell' = true := by
        intro i hi
        have h1 := hel i hi
        rw [h.size, List.getElem?_eq_getElem (by omega), Option.bind_eq_some_iff] at h1
        obtain ⟨cs, hcs, htr⟩ := h1
        obtain ⟨_, hcl, hcc⟩ := World.cells?_some hcs
        obtain ⟨y, hy, hl1, hr⟩ := h.opn enc w spare held n cs _ htr
        exact ⟨y, hy, cs, hl1, hcc, hr⟩
      obtain ⟨l, hll, hp⟩ := choose_list (fun i y => ok y ∧ ∃ cs : List Value, cs.length = sz ∧ (∀ j, j < sz → w.cell? ((a.add (i * sz)).add j) = cs[j]?) ∧ ∀ j, j < sz → CR w (old w) ((f y).getD j .junk) (cs.getD j undef) ∧ (cs.getD j undef).oneCell' = true) len each
      refine ⟨l, ⟨by omega, fun y hy => ?_⟩, rfl, fun j hj => ?_⟩
      · obtain ⟨i, hi⟩ := List.getElem?_of_mem hy
        exact (hp i y hi).1
      · have : j = 0 := by omega
        subst this
        refine ⟨?_, rfl⟩
        show CR w (old w) (.sl sz (l.map f)) (.slice (some a) len cap)
        by_cases h0 : len = 0
        · have : l = [] := List.eq_nil_of_length_eq_zero (by omega)
          subst this
          subst h0
          exact .sl0 sz _ _
        · have sp : a.spot = none := by
            obtain ⟨_, cs, hcl, hcc, _⟩ := hp 0 (l[0]'(by omega)) (List.getElem?_eq_getElem (by omega))
            have h1 := hcc 0 hz
            rw [List.getElem?_eq_getElem (by omega)] at h1
            have := World.cell?_spot h1
            simpa [Addr.add] using this
          obtain ⟨b, off, spot⟩ := a
          simp only at sp
          subst sp
          simp only [add_plain] at hp
          have key : ∀ i, i < l.length → ∃ cs : List Value, ok (l.getD i (l[0]'(by omega))) ∧ cs.length = sz ∧ (∀ j, j < sz → w.cell? ⟨b, off + i * sz + j, none⟩ = cs[j]?) ∧ ∀ j, j < sz → CR w (old w) ((f (l.getD i (l[0]'(by omega)))).getD j .junk) (cs.getD j undef) ∧ (cs.getD j undef).oneCell' = true := by
            intro i hi
            have e1 : l.getD i (l[0]'(by omega)) = l[i] := by simp [List.getD, hi]
            rw [e1]
            obtain ⟨h1, cs, h2, h3, h4⟩ := hp i l[i] (List.getElem?_eq_getElem hi)
            exact ⟨cs, h1, h2, h3, h4⟩
          have row : ∀ i, i < l.length → (l.map f).getD i [] = f (l.getD i (l[0]'(by omega))) := by
            intro i hi
            simp [List.getD, hi]
          have cell : ∀ i j, i < l.length → j < sz → ∃ u, w.cell? ⟨b, off + (i * sz + j), none⟩ = some u ∧ u.oneCell' = true ∧ CR w (old w) (((l.map f).getD i []).getD j .junk) u := by
            intro i j hi hj
            obtain ⟨cs, _, h2, h3, h4⟩ := key i hi
            refine ⟨cs.getD j undef, ?_, (h4 j hj).2, by rw [row i hi]; exact (h4 j hj).1⟩
            rw [← Nat.add_assoc, h3 j hj]
            simp [List.getD, h2, hj]
          refine .sl sz (l.map f) b off len cap (fun i j => (w.cell? ⟨b, off + (i * sz + j), none⟩).getD undef) ?_ (by simp [hll]) hl ?_ ?_ ?_
          · obtain ⟨u, hu, _⟩ := cell 0 0 (by omega) hz
            exact cell_lt hu
          · intro i hi
            rw [row i (by simpa using hi)]
            exact h.len _
          · intro i j hi hj
            obtain ⟨u, hu, h1, _⟩ := cell i j (by simpa using hi) hj
            rw [hu]
            exact ⟨rfl, h1⟩
          · intro i j hi hj
            obtain ⟨u, hu, _, h2⟩ := cell i j (by simpa using hi) hj
            simp only [hu]
            exact h2
variable {H : Type} {enc : TypeId × Value → H} {w : World} {spare : Nat → Bool} {held : Bool}
theorem cells_self {v : Value} (h : v.oneCell' = true) : v.cells.toList = [v] := by
  cases v <;> first | rfl | cases h
theorem Opens.val {t : TypeId} {α : Type} {f : α → List D} {ok : α → Prop} (h : Opens P t 1 f ok) {v : Value} (hv : v.oneCell' = true) {d : DataW H} {ps : List MemPlace} (hd : DataW.Trod enc P w 0 spare held t v d ps) :
    ∃ a, ok a ∧ CR w (old w) ((f a).getD 0 .junk) v := by
  obtain ⟨fuel, hf⟩ := hd
  rw [cells_self hv] at hf
  obtain ⟨a, ha, _, hr⟩ := h.opn enc w spare held fuel _ _ hf
  exact ⟨a, ha, (hr 0 (by omega)).1⟩
theorem Opens.arg_slice {t e : TypeId} {α : Type} {f : α → List D} {ok : α → Prop} (h : Opens P t 1 f ok) (ht : P.underlying t = some (.slice e)) {r : Reach} {b0 : Nat} {v : Value} (hval : Value.okWide P w r b0 t v) {d : DataW H} {ps : List MemPlace} (hd : DataW.Trod enc P w 0 spare held t v d ps) :
    ∃ a, ok a ∧ CR w (old w) ((f a).getD 0 .junk) v := by
  obtain ⟨a, len, cap, rfl⟩ := okWide_slice ht hval
  exact h.val rfl hd
theorem Opens.arg_struct {t : TypeId} {fs : Array Field} {α : Type} {sz : Nat} {f : α → List D} {ok : α → Prop} (h : Opens P t sz f ok) (ht : P.underlying t = some (.struct fs)) {r : Reach} {b0 : Nat} {v : Value} (hval : Value.okWide P w r b0 t v) {d : DataW H} {ps : List MemPlace} (hd : DataW.Trod enc P w 0 spare held t v d ps) :
    ∃ a, ok a ∧ CR w (old w) (.ag (f a)) v := by
  simp only [Value.okWide, ht] at hval
  obtain ⟨cs, rfl, _, _⟩ := hval
  obtain ⟨fuel, hf⟩ := hd
  obtain ⟨a, ha, hl, hr⟩ := h.opn enc w spare held fuel _ _ hf
  refine ⟨a, ha, .ag _ _ (by rw [h.len]; simpa [Value.cells] using hl) fun i hi => ?_⟩
  rw [h.len] at hi
  have := (hr i hi).1
  simpa [Value.cells, Array.getD_eq_getD_getElem?, List.getD] using this
theorem trodAll_stays (hl : laidOutB P = true) {W W' : World} (hb : Below W.heap.size W W') : ∀ {ts : List TypeId} {vs : List Value} {ds : List (DataW H)} {ps : List MemPlace}, (∀ t, t ∈ ts → P.readableRec t = true ∧ t < P.types.size) →
    DataW.TrodAll enc P W 0 (fun _ => true) true ts vs ds ps → (∀ p, p ∈ ps → p.block < W.heap.size) → DataW.TrodAll enc P W' 0 (fun b => decide (b < W.heap.size)) true ts vs ds ps
  | [], _, _, _, _, h, _ => by
    obtain ⟨rfl, rfl, rfl⟩ := trodAll_nil h
    exact trodAll_mk0
  | t :: ts, _, _, _, hr, h, hlt => by
    obtain ⟨v, vs1, d, ds1, a, b, rfl, rfl, rfl, h1, h2⟩ := trodAll_cons h
    exact ⟨a, b, Below.trod hl (hr t (by simp)).1 (hr t (by simp)).2 h1 hb (fun x hx => hlt x (by simp [hx])), trodAll_stays hl hb (fun t ht => hr t (by simp [ht])) h2 (fun x hx => hlt x (by simp [hx])), rfl⟩
theorem row_of_spec (hl : laidOutB P = true) {f : Func} {fid : FuncId} {s : ChangeSpec} {args : Array Value} {ds gs : List (DataW H)} {before : List MemPlace} {W : World} {tb : TypeId} {dd : List D}
    (hvars : s.vars = []) (hrt : f.resultTypes = #[tb]) (htb : P.underlying tb = some .bool)
    (hr : f.params.toList.all (fun t => P.readableRec t && decide (t < P.types.size)) = true)
    (hfn : s.fn H (ds ++ gs) = { results := [.lit (.bool true)], args := ds })
    (hW : DataW.Whole enc P f.params.toList s.vars false W args.toList ds gs before)
    (hn : args.size = dd.length) (hcr : ∀ i, i < dd.length → CR W (old W) (dd.getD i .junk) (args.getD i undef))
    (hs : Spec P fid dd (· = .v (.bool true))) :
    Calls P fid args W fun e W' => ∃ v, e = .returned v ∧ s.post enc P f false true false false W args v W' := by
  refine (hs.2 W (old W) args (fun _ h => h) hn hcr).mono ?_
  rintro e W' ⟨x, d, rfl, rfl, hb, hx⟩
  cases hx
  refine ⟨_, rfl, ?_⟩
  have hW' := hW
  obtain ⟨p, q, hA, hV, rfl, _, _⟩ := hW
  rw [hvars] at hV
  obtain ⟨rfl, rfl⟩ := trodVars_none hV
  have hlt : ∀ x, x ∈ p → x.block < W.heap.size := fun x hx => hW'.lt x (by simp [hx])
  have hr' : ∀ t, t ∈ f.params.toList → P.readableRec t = true ∧ t < P.types.size := fun t ht => by
    have := List.all_eq_true.1 hr t ht
    simpa using this
  refine ⟨_, _, _, [], p, [], hW', ?_, ?_, ?_, ?_, fun h => by cases h⟩
  · rw [hfn, hrt]
    exact trodAll_mk1 (shut_bool htb true)
  · rw [hfn]
    exact trodAll_stays hl hb hr' hA hlt
  · rw [hfn, hvars]
    rfl
  · exact hb.frame _
end
end Go.Dm

set_option linter.unusedSimpArgs false
set_option linter.unnecessarySimpa false
set_option linter.unusedVariables false
namespace Go.Dm
def tbl {α : Type} (f : α → List D) (l : List α) : List (List D) := l.map f
theorem tbl_len {α : Type} {f : α → List D} {l : List α} : (tbl f l).length = l.length := by simp [tbl]
theorem tbl_get {α : Type} [Inhabited α] {f : α → List D} {l : List α} {i : Nat} (h : i < l.length) : (tbl f l).getD i [] = f (l.getD i default) := map_getD _ l i [] default h
theorem tbl_app {α : Type} {f : α → List D} {l : List α} {x : α} : tbl f (l ++ [x]) = tbl f l ++ [f x] := by simp [tbl]
theorem tbl_take {α : Type} {f : α → List D} {l : List α} {n : Nat} : (tbl f l).take n = tbl f (l.take n) := by simp [tbl, List.map_take]
theorem tbl_drop {α : Type} {f : α → List D} {l : List α} {n : Nat} : (tbl f l).drop n = tbl f (l.drop n) := by simp [tbl, List.map_drop]
theorem rows_take {α : Type} {f : α → List (List D)} {l : List α} {n : Nat} : (rows f l).take n = rows f (l.take n) := by simp [rows, List.map_take]
theorem rows_drop {α : Type} {f : α → List (List D)} {l : List α} {n : Nat} : (rows f l).drop n = rows f (l.drop n) := by simp [rows, List.map_drop]
structure Arc where
  fr : Int
  sym : Int
  to : Int
structure Net where
  n : Int
  k : Int
  arcs : List Arc
  start : Int
  final : Int
structure Machine where
  n : Int
  k : Int
  next : List (List Int)
  start : Int
  final : Int
structure Node where
  kind : Int
  a : Int
  b : Int
structure Turner where
  n : Int
  k : Int
  l : Int
  next : List (List Int)
  out : List (List (List Int))
  start : Int
structure Rule where
  left : Int
  right : List Int
structure Grammar where
  k : Int
  n : Int
  start : Int
  rules : List Rule
structure Opr where
  level : Int
  right : Bool
structure Spot where
  sign : Int
  fr : Int
  to : Int
  ways : List (List Int)
structure Thicket where
  spots : List Spot
  root : Int
structure Deed where
  kind : Int
  rule : Rule
  word : List Int
  n : Int
  steps : List Int
instance : Inhabited Arc := ⟨⟨0, 0, 0⟩⟩
instance : Inhabited Node := ⟨⟨0, 0, 0⟩⟩
instance : Inhabited Rule := ⟨⟨0, []⟩⟩
instance : Inhabited Opr := ⟨⟨0, false⟩⟩
instance : Inhabited Spot := ⟨⟨0, 0, 0, []⟩⟩
instance : Inhabited Deed := ⟨⟨0, ⟨0, []⟩, [], 0, []⟩⟩
instance : Inhabited Machine := ⟨⟨0, 0, [], 0, 0⟩⟩
def arcD (a : Arc) : List D := [iv .i64 a.fr, iv .i64 a.sym, iv .i64 a.to]
def netD (n : Net) : List D := [iv .i64 n.n, iv .i64 n.k, .sl 3 (tbl arcD n.arcs), iv .u32 n.start, iv .u32 n.final]
def macD (m : Machine) : List D := [iv .i64 m.n, iv .i64 m.k, .sl 1 (rows i64s m.next), iv .i64 m.start, iv .u32 m.final]
def nodD (n : Node) : List D := [iv .i64 n.kind, iv .i64 n.a, iv .i64 n.b]
def turD (t : Turner) : List D := [iv .i64 t.n, iv .i64 t.k, iv .i64 t.l, .sl 1 (rows i64s t.next), .sl 1 (rows (rows i64s) t.out), iv .i64 t.start]
def rulD (r : Rule) : List D := [iv .i64 r.left, .sl 1 (i64s r.right)]
def graD (g : Grammar) : List D := [iv .i64 g.k, iv .i64 g.n, iv .i64 g.start, .sl 2 (tbl rulD g.rules)]
def oprD (o : Opr) : List D := [iv .i64 o.level, .v (.bool o.right)]
def spoD (s : Spot) : List D := [iv .i64 s.sign, iv .i64 s.fr, iv .i64 s.to, .sl 1 (rows i64s s.ways)]
def thiD (t : Thicket) : List D := [.sl 4 (tbl spoD t.spots), iv .i64 t.root]
def deeD (d : Deed) : List D := [iv .i64 d.kind, iv .i64 d.rule.left, .sl 1 (i64s d.rule.right), .sl 1 (i64s d.word), iv .i64 d.n, .sl 1 (i64s d.steps)]
def ok64 (n : Int) : Prop := -9223372036854775808 ≤ n ∧ n ≤ 9223372036854775807
def ok32 (n : Int) : Prop := 0 ≤ n ∧ n ≤ 4294967295
def okL {α : Type} (p : α → Prop) (l : List α) : Prop := l.length ≤ maxLen ∧ ∀ a, a ∈ l → p a
def Arc.ok (a : Arc) : Prop := ok64 a.fr ∧ ok64 a.sym ∧ ok64 a.to
def Net.ok (n : Net) : Prop := ok64 n.n ∧ ok64 n.k ∧ okL Arc.ok n.arcs ∧ ok32 n.start ∧ ok32 n.final
def Machine.ok (m : Machine) : Prop := ok64 m.n ∧ ok64 m.k ∧ okL (okL ok64) m.next ∧ ok64 m.start ∧ ok32 m.final
def Node.ok (n : Node) : Prop := ok64 n.kind ∧ ok64 n.a ∧ ok64 n.b
def Turner.ok (t : Turner) : Prop := ok64 t.n ∧ ok64 t.k ∧ ok64 t.l ∧ okL (okL ok64) t.next ∧ okL (okL (okL ok64)) t.out ∧ ok64 t.start
def Rule.ok (r : Rule) : Prop := ok64 r.left ∧ okL ok64 r.right
def Grammar.ok (g : Grammar) : Prop := ok64 g.k ∧ ok64 g.n ∧ ok64 g.start ∧ okL Rule.ok g.rules
def Opr.ok (o : Opr) : Prop := ok64 o.level
def Spot.ok (s : Spot) : Prop := ok64 s.sign ∧ ok64 s.fr ∧ ok64 s.to ∧ okL (okL ok64) s.ways
def Thicket.ok (t : Thicket) : Prop := okL Spot.ok t.spots ∧ ok64 t.root
def Deed.ok (d : Deed) : Prop := ok64 d.kind ∧ d.rule.ok ∧ okL ok64 d.word ∧ ok64 d.n ∧ okL ok64 d.steps
theorem maxLen_le {n : Nat} (h : n ≤ maxLen) : n ≤ 9223372036854775807 := Nat.le_trans h (by decide)
theorem arcD_eq {a : Arc} : arcD a = [iv .i64 a.fr, iv .i64 a.sym, iv .i64 a.to] := (rfl)
theorem netD_eq {n : Net} : netD n = [iv .i64 n.n, iv .i64 n.k, .sl 3 (tbl arcD n.arcs), iv .u32 n.start, iv .u32 n.final] := (rfl)
theorem macD_eq {m : Machine} : macD m = [iv .i64 m.n, iv .i64 m.k, .sl 1 (rows i64s m.next), iv .i64 m.start, iv .u32 m.final] := (rfl)
theorem nodD_eq {n : Node} : nodD n = [iv .i64 n.kind, iv .i64 n.a, iv .i64 n.b] := (rfl)
theorem turD_eq {t : Turner} : turD t = [iv .i64 t.n, iv .i64 t.k, iv .i64 t.l, .sl 1 (rows i64s t.next), .sl 1 (rows (rows i64s) t.out), iv .i64 t.start] := (rfl)
theorem rulD_eq {r : Rule} : rulD r = [iv .i64 r.left, .sl 1 (i64s r.right)] := (rfl)
theorem graD_eq {g : Grammar} : graD g = [iv .i64 g.k, iv .i64 g.n, iv .i64 g.start, .sl 2 (tbl rulD g.rules)] := (rfl)
theorem oprD_eq {o : Opr} : oprD o = [iv .i64 o.level, .v (.bool o.right)] := (rfl)
theorem spoD_eq {s : Spot} : spoD s = [iv .i64 s.sign, iv .i64 s.fr, iv .i64 s.to, .sl 1 (rows i64s s.ways)] := (rfl)
theorem thiD_eq {t : Thicket} : thiD t = [.sl 4 (tbl spoD t.spots), iv .i64 t.root] := (rfl)
theorem deeD_eq {d : Deed} : deeD d = [iv .i64 d.kind, iv .i64 d.rule.left, .sl 1 (i64s d.rule.right), .sl 1 (i64s d.word), iv .i64 d.n, .sl 1 (i64s d.steps)] := (rfl)
set_option linter.defProp false
def vy0 := And.intro @tbl_len (And.intro @tbl_get (And.intro @tbl_take (And.intro @tbl_drop (And.intro @rows_take (And.intro @rows_drop (And.intro @arcD_eq (And.intro @netD_eq (And.intro @macD_eq (And.intro @nodD_eq (And.intro @turD_eq (And.intro @rulD_eq (And.intro @graD_eq (And.intro @oprD_eq (And.intro @spoD_eq (And.intro @thiD_eq (@deeD_eq))))))))))))))))
end Go.Dm

namespace Go.Proofs.Ytdncgpgfnclifaa
open Go.ChangeShapes Go.WideShapes Go.ChangeAt Go.RowKit Go.Dm
theorem Try.own : ownKnob Try.prog.godebug = none := by kernel_rfl
theorem Try.laidOut : laidOutB Try.prog = true := by kernel_rfl
theorem Try.o_int : Opens Try.prog 3 1 (fun n : Int => [.v (.int .i64 n)]) ok64 :=
  Opens.i64 Try.underlying3 (by kernel_rfl)
theorem Try.o_u32 : Opens Try.prog 23 1 (fun n : Int => [.v (.int .u32 n)]) ok32 :=
  Opens.u32 Try.underlying23 (by kernel_rfl)
theorem Try.o_ints : Opens Try.prog 26 1 (fun l => [.sl 1 (i64s l)]) (okL ok64) :=
  Opens.slice Try.underlying26 (by kernel_rfl) Try.o_int (by omega)
theorem Try.o_mat : Opens Try.prog 22 1 (fun l => [.sl 1 (rows i64s l)]) (okL (okL ok64)) :=
  Opens.slice Try.underlying22 (by kernel_rfl) Try.o_ints (by omega)
theorem Try.o_mac : Opens Try.prog 25 5 macD Machine.ok :=
  (Opens.struct (sz := 5) Try.underlying25 (by kernel_rfl) (OpensFs.cons rfl Try.o_int (OpensFs.cons rfl Try.o_int (OpensFs.cons rfl Try.o_mat (OpensFs.cons rfl Try.o_int (OpensFs.cons rfl Try.o_u32 (OpensFs.nil _)))))) (fun _ => rfl)).map (fun _ => rfl) fun ⟨x0, x1, x2, x3, x4, ⟨⟩⟩ h => ⟨⟨x0, x1, x2, x3, x4⟩, ⟨h.1, h.2.1, h.2.2.1, h.2.2.2.1, h.2.2.2.2.1⟩, rfl⟩
end Go.Proofs.Ytdncgpgfnclifaa

set_option linter.unusedSimpArgs false
set_option linter.unnecessarySimpa false
set_option linter.unusedVariables false
namespace Go.Dm
theorem viEq {k : IntKind} {a b : Int} (h : a = b) : (D.v (.int k a)) = D.v (.int k b) := by rw [h]
theorem vbEq {a b : Bool} (h : a = b) : (D.v (.bool a)) = D.v (.bool b) := by rw [h]
theorem mem_getD {α : Type} [Inhabited α] {l : List α} {a : α} (h : a ∈ l) : ∃ i, i < l.length ∧ l.getD i default = a := by
  obtain ⟨i, hi, rfl⟩ := List.getElem_of_mem h
  exact ⟨i, hi, by simp [List.getD, hi]⟩
theorem getD_mem' {α : Type} [Inhabited α] {l : List α} {i : Nat} (h : i < l.length) : l.getD i default ∈ l := by
  simp [List.getD, h]
theorem take_succ_getD {α : Type} {l : List α} {i : Nat} (h : i < l.length) (d : α) : l.take (i + 1) = l.take i ++ [l.getD i d] := by
  rw [List.take_add_one]; simp [List.getD, h]
theorem ofInt32 {a : Int} (h : 0 ≤ a ∧ a ≤ 4294967295) : (BitVec.ofInt IntKind.u32.bits a).toNat = a.toNat := by
  show (BitVec.ofInt 32 a).toNat = a.toNat
  rw [BitVec.toNat_ofInt]; omega
theorem and32 {a b : Int} (ha : 0 ≤ a ∧ a ≤ 4294967295) (hb : 0 ≤ b ∧ b ≤ 4294967295) : IntKind.u32.wrap ((BitVec.ofInt IntKind.u32.bits a &&& BitVec.ofInt IntKind.u32.bits b).toNat : Int) = ((a.toNat &&& b.toNat : Nat) : Int) := by
  rw [BitVec.toNat_and, ofInt32 ha, ofInt32 hb]
  have : a.toNat &&& b.toNat < 2 ^ 32 := Nat.and_lt_two_pow _ (by omega)
  exact wrapu32_id (by omega)
theorem shr32 {a n : Int} (ha : 0 ≤ a ∧ a ≤ 4294967295) (hn : 0 ≤ n ∧ n ≤ 32) : a.fdiv (2 ^ (min n.toNat IntKind.u32.bits)) = ((a.toNat >>> n.toNat : Nat) : Int) := by
  have e : min n.toNat IntKind.u32.bits = n.toNat := Nat.min_eq_left (by show n.toNat ≤ 32; omega)
  rw [e, Int.fdiv_eq_ediv_of_nonneg _ (Int.le_of_lt (Int.pow_pos (by omega))), Nat.shiftRight_eq_div_pow, Int.natCast_ediv, Int.toNat_of_nonneg ha.1]
  congr 1
theorem shl32_1 {n : Int} (hn : 0 ≤ n ∧ n ≤ 31) : IntKind.u32.wrap (1 * 2 ^ (min n.toNat IntKind.u32.bits)) = ((2 ^ n.toNat : Nat) : Int) := by
  have e : min n.toNat IntKind.u32.bits = n.toNat := Nat.min_eq_left (by show n.toNat ≤ 32; omega)
  have h : 2 ^ n.toNat ≤ 2147483648 := show 2 ^ n.toNat ≤ 2 ^ 31 from Nat.pow_le_pow_right (by omega) (by omega)
  rw [e, Int.one_mul]
  have e2 : (2 : Int) ^ n.toNat = ((2 ^ n.toNat : Nat) : Int) := by simp
  rw [e2]
  generalize 2 ^ n.toNat = p at *
  exact wrapu32_id (by omega)
theorem shr_zero {x n : Nat} : x >>> n = 0 ↔ x < 2 ^ n := by
  rw [Nat.shiftRight_eq_div_pow, Nat.div_eq_zero_iff]
  have : 0 < 2 ^ n := Nat.pow_pos (by omega)
  omega
def tab (n : Nat) (f : Nat → Int) : List Int := (List.range n).map f
theorem tab_length {n : Nat} {f : Nat → Int} : (tab n f).length = n := by simp [tab]
theorem tab_getD {n i : Nat} {f : Nat → Int} {d : Int} (h : i < n) : (tab n f).getD i d = f i := by simp [tab, List.getD, h]
theorem tab_set {n i : Nat} {f : Nat → Int} {v : Int} : (tab n f).set i v = tab n fun j => if j = i then v else f j := by
  apply List.ext_getElem
  · simp [tab]
  · intro k h1 h2
    simp only [tab, List.getElem_set, List.getElem_map, List.getElem_range]
    by_cases e : i = k
    · simp [e]
    · have : ¬ k = i := fun h => e h.symm
      simp [e, this]
theorem tab_rep {n : Nat} {x : Int} : List.replicate n x = tab n fun _ => x := by
  apply List.ext_getElem <;> simp [tab]
theorem viewO_1 {sz : Nat} {a : List D} : viewO (some ⟨sz, [a], true, false, .arr⟩) sz 0 1 = .sl sz [a] := viewO_all rfl
theorem viewO_2 {sz : Nat} {a b : List D} : viewO (some ⟨sz, [a, b], true, false, .arr⟩) sz 0 2 = .sl sz [a, b] := viewO_all rfl
theorem viewO_3 {sz : Nat} {a b c : List D} : viewO (some ⟨sz, [a, b, c], true, false, .arr⟩) sz 0 3 = .sl sz [a, b, c] := viewO_all rfl
theorem viewO_4 {sz : Nat} {a b c d : List D} : viewO (some ⟨sz, [a, b, c, d], true, false, .arr⟩) sz 0 4 = .sl sz [a, b, c, d] := viewO_all rfl
theorem i64s_tab_getD {n k : Nat} {f : Nat → Int} {d : List D} (h : k < n) : (i64s (tab n f)).getD k d = [.v (.int .i64 (f k))] := by simp [i64s, tab, List.getD, h]
theorem viewO_tab {n : Nat} {f : Nat → Int} : viewO (some ⟨1, i64s (tab n f), true, false, .arr⟩) 1 0 n = .sl 1 (i64s (tab n f)) := viewO_all (by simp [i64s, tab])
theorem viewO_i64s {l : List Int} {n : Nat} (h : n = l.length) : viewO (some ⟨1, i64s l, true, false, .arr⟩) 1 0 n = .sl 1 (i64s l) := viewO_all (by simp [i64s, h])
theorem viewO_u8s {l : List UInt8} {n : Nat} (h : n = l.length) : viewO (some ⟨1, u8s l, true, false, .arr⟩) 1 0 n = .sl 1 (u8s l) := viewO_all (by simp [u8s, h])
theorem viewO_bls {l : List Bool} {n : Nat} (h : n = l.length) : viewO (some ⟨1, bls l, true, false, .arr⟩) 1 0 n = .sl 1 (bls l) := viewO_all (by simp [bls, h])
theorem nat_add {a b : Nat} : ((a : Int) + (b : Int)).toNat = a + b := by omega
theorem nat_add1 {a : Nat} : ((a : Int) + 1).toNat = a + 1 := by omega
theorem nat_add2 {a : Nat} : ((a : Int) + 2).toNat = a + 2 := by omega
theorem nat_sub {a b : Nat} : ((a : Int) - (b : Int)).toNat = a - b := by omega
theorem nat_sub1 {a : Nat} : ((a : Int) - 1).toNat = a - 1 := by omega
theorem rows_kill {α : Type} {f : α → List (List D)} {l : List α} {τ : Nat} : ((rows f l).map fun e => e.map (D.kill τ)) = rows f l := by simp [rows, kill_sl]
theorem rows_frz {α : Type} {f : α → List (List D)} {l : List α} {τ : Nat} {ob : Ob} : ((rows f l).map fun e => e.map (D.frz τ ob)) = rows f l := by simp [rows, frz_sl]
theorem rows_all {α : Type} {f : α → List (List D)} {l : List α} : (rows f l).all (fun e => e.all D.clo') = true := by simp [rows, clo'_sl]
def ownC (sz : Nat) : List (List D) → D
  | [] => .nl
  | e :: es => .own false sz (e :: es)
theorem ownC_nil {sz : Nat} {α : Type} {f : α → List D} : ownC sz (tbl f []) = .nl := (rfl)
theorem ownC_cons {sz : Nat} {α : Type} {f : α → List D} {a : α} {l : List α} : ownC sz (tbl f (a :: l)) = .own false sz (tbl f (a :: l)) := (rfl)
theorem vwR_nil : vwR [] = [] := (rfl)
theorem vwR_cons {e : List D} {es : List (List D)} : vwR (e :: es) = e.map D.vw :: vwR es := (rfl)
theorem vw_v' {x : Value} : (D.v x).vw = .v x := by rw [D.vw] <;> (intros; contradiction)
theorem vw_nl' : D.nl.vw = .nl := by rw [D.vw] <;> (intros; contradiction)
theorem vw_sl' {sz : Nat} {es : List (List D)} : (D.sl sz es).vw = .sl sz es := by rw [D.vw] <;> (intros; contradiction)
def tabD (n : Nat) (f : Nat → D) : List (List D) := (List.range n).map fun i => [f i]
theorem tabD_len {n : Nat} {f : Nat → D} : (tabD n f).length = n := by simp [tabD]
theorem tabD_get {n k : Nat} {f : Nat → D} {d : List D} (h : k < n) : (tabD n f).getD k d = [f k] := by simp [tabD, List.getD, h]
theorem tabD_set {n i : Nat} {f : Nat → D} {x : D} : (tabD n f).set i [x] = tabD n fun j => if j = i then x else f j := by
  apply List.ext_getElem
  · simp [tabD]
  · intro k h1 h2
    simp only [tabD, List.getElem_set, List.getElem_map, List.getElem_range]
    by_cases e : i = k
    · simp [e]
    · have : ¬ k = i := fun h => e h.symm
      simp [e, this]
theorem tabD_kill {n τ : Nat} {f : Nat → D} : ((tabD n f).map fun e => e.map (D.kill τ)) = tabD n fun j => (f j).kill τ := by simp [tabD]
theorem tabD_frz {n τ : Nat} {f : Nat → D} {ob : Ob} : ((tabD n f).map fun e => e.map (D.frz τ ob)) = tabD n fun j => (f j).frz τ ob := by simp [tabD]
theorem tabD_trim {n m : Nat} {f : Nat → D} : ((tabD n f).map fun e => e.map (D.trim m)) = tabD n fun j => (f j).trim m := by simp [tabD]
theorem tabD_rep {n : Nat} {x : D} : List.replicate n [x] = tabD n fun _ => x := by apply List.ext_getElem <;> simp [tabD]
theorem tabD_ext {n : Nat} {f g : Nat → D} (h : ∀ j, j < n → f j = g j) : tabD n f = tabD n g := by
  unfold tabD
  exact List.map_congr_left fun j hj => by rw [h j (List.mem_range.1 hj)]
theorem tabD_all {n : Nat} {f : Nat → D} (h : ∀ j, j < n → (f j).clo' = true) : (tabD n f).all (fun e => e.all D.clo') = true := by
  simp only [tabD, List.all_map, List.all_eq_true, List.mem_range]
  intro j hj
  simp [h j hj]
theorem obTabD {n : Nat} {f g : Nat → D} {a b : Bool} {c : Kd} (h : ∀ j, j < n → f j = g j) : some (⟨1, tabD n f, a, b, c⟩ : Ob) = some ⟨1, tabD n g, a, b, c⟩ := by rw [tabD_ext h]
theorem iteD_pos {c : Prop} [Decidable c] {a b : D} (h : c) : (if c then a else b) = a := if_pos h
theorem iteD_neg {c : Prop} [Decidable c] {a b : D} (h : ¬ c) : (if c then a else b) = b := if_neg h
theorem dec_iff {a b : Prop} [Decidable a] [Decidable b] (h : a ↔ b) : decide a = decide b := by congr 1; exact propext h
theorem trim_ite {c : Prop} [Decidable c] {a b : D} {m : Nat} : (if c then a else b).trim m = if c then a.trim m else b.trim m := by split <;> rfl
theorem kill_ite {c : Prop} [Decidable c] {a b : D} {m : Nat} : (if c then a else b).kill m = if c then a.kill m else b.kill m := by split <;> rfl
theorem frz_ite {c : Prop} [Decidable c] {a b : D} {m : Nat} {ob : Ob} : (if c then a else b).frz m ob = if c then a.frz m ob else b.frz m ob := by split <;> rfl
set_option linter.defProp false
def vlen := And.intro @List.length_cons.{0} <| And.intro @List.length_nil.{0} <| And.intro @List.length_append.{0} <| And.intro @List.length_map.{0,0} <| And.intro @List.length_replicate.{0} <| And.intro @List.length_take.{0} <| And.intro @List.length_drop.{0} <| And.intro @List.length_set.{0} <| And.intro @tab_length <| And.intro @tabD_len <| And.intro @i64s_len <| And.intro @bls_len <| And.intro @u8s_len <| And.intro @tbl_len @rows_len
def vx0 := And.intro @trim_ite <| And.intro @kill_ite <| And.intro @frz_ite <| And.intro @tabD_len <| And.intro @tabD_get <| And.intro @tabD_set <| And.intro @tabD_kill <| And.intro @tabD_frz <| And.intro @tabD_trim <| And.intro @iteD_pos <| And.intro @iteD_neg <| And.intro @vwR_nil <| And.intro @vwR_cons <| And.intro @vw_v' <| And.intro @vw_nl' <| And.intro @vw_sl' <| And.intro @vw_own <| And.intro @rows_kill <| And.intro @rows_frz <| And.intro @rows_all <| And.intro @List.map_append.{0,0} <| And.intro @List.all_append.{0} <| And.intro @ownC_nil <| And.intro @ownC_cons <| And.intro @nat_add <| And.intro @nat_add1 <| And.intro @nat_add2 <| And.intro @nat_sub <| And.intro @nat_sub1 <| And.intro @i64s_tab_getD <| And.intro @viewO_tab <| And.intro @viewO_i64s <| And.intro @viewO_u8s <| And.intro @viewO_bls <| And.intro @viewO_1 <| And.intro @viewO_2 <| And.intro @viewO_3 <| And.intro @viewO_4 <| And.intro @tab_length (And.intro @tab_getD (And.intro @tab_set (And.intro @i64s_rep @tab_rep)))
def vAq := And.intro va0 <| And.intro va1 <| And.intro va2 va3
def vBq := And.intro vb0 <| And.intro vb1 <| And.intro vb2 <| And.intro vb3 <| And.intro vb4 <| And.intro vb5 <| And.intro vb6 <| And.intro vb7 <| And.intro vb8 <| And.intro vb9 <| And.intro vb10 <| And.intro vb11 <| And.intro vz0 <| And.intro vz1 <| And.intro vy0 vx0
end Go.Dm
