/-
  slices.SortFunc on the ends of a word: the contract on descriptions.
-/
import Derived.Test.YtdcdldfleeilnaaSortG
namespace Go.Proofs.Ytdcdldfleeilnaa
open Go.RowKit Go.Dm Go.Lib
set_option linter.unusedSimpArgs false
set_option linter.unnecessarySimpa false
set_option linter.unusedVariables false
def sbO (u : List UInt8) : Ob := ⟨1, [[.sl 1 (u8s u)]], true, false, .fix⟩
def srO (l : List Nat) : Ob := ⟨1, i64s (natI l), true, false, .fix⟩
theorem cl_sl' (es : List (List D)) : (D.sl 1 es).cl = true := by unfold D.cl; rw [alls_leaf rfl]; rfl
theorem cl_v' (x : Value) : (D.v x).cl = true := by unfold D.cl; rw [alls_leaf rfl]; rfl
theorem row_len {l : List Nat} {i : Nat} (h : i < (srO l).es.length) : i < l.length := by simpa [srO, i64s, natI] using h
theorem row_at {l : List Nat} {i : Nat} (h : i < l.length) : (srO l).es.getD i [] = [.v (.int .i64 ((l.getD i 0 : Nat) : Int))] := by simp [srO, i64s, natI, List.getD, h]
theorem row_sz {l : List Nat} : (srO l).es.length = l.length := by simp [srO, i64s, natI]
theorem ptr_of {w : World} {A : Nat → Prop} {β : Nat → Option Nat} {N : Nat} {v : Value} {bb : Nat} (h : DR w A β N (.ptr 0 1 0 0) v) (hb : β 0 = some bb) : v = .pointer (some ⟨bb, 0, none⟩) := by
  cases h with
  | cl d x h => cases h
  | ptr τ sz i o b hN hb' => rw [hb] at hb'; cases hb'; rfl
theorem clo_of {w : World} {A : Nat → Prop} {β : Nat → Option Nat} {N : Nat} {v : Value} {bb f : Nat} (h : DR w A β N (.clo f [.ptr 0 1 0 0]) v) (hb : β 0 = some bb) : v = .func (.func f) #[] #[.pointer (some ⟨bb, 0, none⟩)] := by
  have key : ∀ cs : Array Value, cs.size = 1 → cs.getD 0 undef = .pointer (some ⟨bb, 0, none⟩) → cs = #[.pointer (some ⟨bb, 0, none⟩)] := by
    intro cs h1 h2
    obtain ⟨cs⟩ := cs
    match cs, h1 with
    | [x], _ => simpa using h2
  cases h with
  | cl d x h =>
    cases h with
    | clo f ds cs hn hr =>
      have := hr 0 (by simp)
      simp only [List.getD_cons_zero] at this
      cases this
  | clo f ds cs hn hr =>
    have := ptr_of (show DR w A β N (.ptr 0 1 0 0) (cs.getD 0 undef) from hr 0 (by simp)) hb
    rw [key cs (by simpa using hn) this]
theorem u8_cells {w : World} {A : Nat → Prop} {l : List UInt8} {v : Value} (h : CR w A (.sl 1 (u8s l)) v) (hl : l ≠ []) : ∃ b off c, v = .slice (some ⟨b, off, none⟩) l.length c ∧ l.length ≤ c ∧ A b ∧ ∀ j, j < l.length → w.cell? ⟨b, off + j, none⟩ = some (.int .u8 ((l.getD j 0).toNat : Int)) := by
  generalize hes : u8s l = es at h
  have hlen : es.length = l.length := by rw [← hes]; exact u8s_len
  cases h with
  | sl0 sz b c => exact absurd (List.eq_nil_of_length_eq_zero hlen.symm) hl
  | sl sz es b off n c us hA hn hcap hs hc hr =>
    refine ⟨b, off, c, by rw [← hlen, hn], by omega, hA, fun j hj => ?_⟩
    have h1 := (hc j 0 (by omega) (by omega)).1
    have h2 := hr j 0 (by omega) (by omega)
    rw [← hes, u8s_get (by omega)] at h2
    simp only [List.getD_cons_zero] at h2
    generalize us j 0 = v at h1 h2
    cases h2
    rw [Nat.mul_one, Nat.add_zero] at h1
    exact h1
theorem below_sort {w : World} {b n : Nat} {arr : Array Value} {T : TypeId} {enc : Nat → Value} {d : Array Nat} {os : Array Obj} (hh : w.heap[b]? = some (.cells arr T (0, 0))) : Below (w.setRow b (Go.Sort.putCells enc 0 d arr)).heap.size (w.setRow b (Go.Sort.putCells enc 0 d arr)) (Go.Proofs.sortWorld enc w b 0 n d os) := by
  refine ⟨rfl, rfl, rfl, ?_, fun k hk => ?_⟩
  · show _ ≤ (Go.Sort.grow _ _).heap.size
    rw [Go.Sort.size_grow, Go.Sort.size_putRow, setRow_size]
    exact Nat.le_add_right _ _
  · rw [setRow_size] at hk
    show (Go.Sort.grow _ _).heap[k]? = _
    rw [Go.Sort.heap_grow_old _ _ (by rw [Go.Sort.size_putRow]; exact hk)]
    by_cases e : k = b
    · subst e
      rw [setRow_heap w k arr _ T (0, 0) hh]
      simp [Go.Sort.putRow, Go.Sort.mapBlock, Go.Sort.ahead, Array.getElem?_modify, hh, Go.Sort.onCells]
    · rw [setRow_other w b k _ e]
      simp [Go.Sort.putRow, Go.Sort.mapBlock, Go.Sort.ahead, Array.getElem?_modify, Ne.symm e]
theorem cell_sort {w : World} {b n k o : Nat} {enc : Nat → Value} {d : Array Nat} {os : Array Obj} (hk : k ≠ b) (hs : k < w.heap.size) : (Go.Proofs.sortWorld enc w b 0 n d os).cell? ⟨k, o, none⟩ = w.cell? ⟨k, o, none⟩ := by
  show (Go.Sort.grow _ _).cell? _ = _
  rw [Go.Sort.cell?_grow _ _ _ (by rw [Go.Sort.size_putRow]; exact hs), Go.Sort.cell?_putRow_other _ _ _ _ _ _ (.inl hk)]
  rfl
def encN (n x : Nat) : Value := .int .i64 ((min x n : Nat) : Int)
set_option maxHeartbeats 1000000 in
theorem sortEnds_spec (u : List UInt8) (hu : u.length ≤ 60) : Dm.SpecH Try.prog 30 [.ref 1 1 0 u.length, .clo 31 [.ptr 0 1 0 0]] [sbO u, srO (List.range u.length)] (fun d o => d = .tu [] ∧ ∃ l, OrdOk u l ∧ o = [some (sbO u), some (srO l)]) := by
  refine ⟨⟨_, Try.func30, by kernel_rfl, by kernel_rfl⟩, fun w A β γ vs hH hvs hdr => ?_⟩
  obtain ⟨v0, v1, rfl⟩ : ∃ v0 v1, vs = #[v0, v1] := by
    obtain ⟨vs⟩ := vs
    match vs, hvs with
    | [x, y], _ => exact ⟨x, y, rfl⟩
  have h0 : DR w A β 2 (.ref 1 1 0 u.length) v0 := hdr 0 (by simp)
  have h1 : DR w A β 2 (.clo 31 [.ptr 0 1 0 0]) v1 := hdr 1 (by simp)
  clear hdr hvs
  have ho0 := hH.objs 0 (sbO u) (by simp) rfl
  obtain ⟨bb, hβ0⟩ : ∃ bb, β 0 = some bb := by
    rcases ho0.2.2 with ⟨_, h, _⟩ | ⟨b, _, _, h, _⟩
    · simp [sbO] at h
    · exact ⟨b, h⟩
  obtain ⟨arr0, T0, hh0, hs0, hc0⟩ := hH.cells (τ := 0) (ob := sbO u) (by simp) rfl rfl hβ0
  have hcr : CR w A (.sl 1 (u8s u)) (arr0.getD 0 undef) := ((hc0 0 0 (by simp [sbO]) (by simp [sbO])).1 rfl).toC (cl_sl' (u8s u))
  have ev1 := clo_of h1 hβ0
  subst ev1
  clear h1
  have hend : ∀ l, OrdOk u l → ∀ w', HR (Gw.at w A β γ 2 (mAll [sbO u, srO (List.range u.length)])) w' A β γ 2 (mOf [some (sbO u), some (srO l)]) → ∃ x d l A' β' γ', Ending.returned (.tuple #[]) = Ending.returned x ∧ (d = .tu [] ∧ ∃ l', OrdOk u l' ∧ l = [some (sbO u), some (srO l')]) ∧ HR (Gw.at w A β γ 2 (mAll [sbO u, srO (List.range u.length)])) w' A' β' γ' l.length (mOf l) ∧ DR w' A' β' l.length d x :=
    fun l hl w' h => ⟨_, .tu [], [some (sbO u), some (srO l)], A, β, γ, rfl, ⟨rfl, l, hl, rfl⟩, h, .cl _ _ (.tu [] #[] rfl fun i hi => by simp at hi)⟩
  by_cases hne : u = []
  · subst hne
    obtain ⟨p, c, rfl⟩ : ∃ p c, v0 = .slice p 0 c := by
      cases h0 with
      | cl d x h => cases h
      | ref τ sz off n c b arr T hN hb hc hh hr => exact ⟨_, _, rfl⟩
      | refz τ sz off b hN => exact ⟨_, _, rfl⟩
    have hcon := AnyF.slices_SortFunc_none { sortI with } p c (.func (.func 31) #[] #[.pointer (some ⟨bb, 0, none⟩)]) w
    change Calls Try.prog 30 _ _ _ at hcon
    refine hcon.mono ?_
    rintro e w' ⟨rfl, rfl⟩
    exact hend [] ⟨by simp, fun i j h1 h2 => by simp at h2⟩ _ hH
  · have hn0 : 0 < u.length := List.length_pos_iff.2 hne
    obtain ⟨b, off, c, hv, hcap, hAb, hcells⟩ := u8_cells hcr hne
    obtain ⟨b1, c1, rfl, hβ1, hc1⟩ : ∃ b1 c1, v0 = .slice (some ⟨b1, 0, none⟩) u.length c1 ∧ β 1 = some b1 ∧ u.length ≤ c1 := by
      generalize hm : u.length = m at h0 hn0
      cases h0 with
      | cl d x h => cases h
      | ref τ sz off n c b arr T hN hb hc hh hr => exact ⟨b, c, by simp, hb, hc⟩
      | refz τ sz off b hN => omega
    obtain ⟨arr, T, hh, hs, hcd⟩ := hH.cells (τ := 1) (ob := srO (List.range u.length)) (by simp) rfl rfl hβ1
    rw [row_sz, List.length_range] at hs
    obtain ⟨hb1s, hb1A, _⟩ := hH.blk (τ := 1) (by simp) (by intro h; cases h) hβ1
    obtain ⟨hbbs, hbbA, _⟩ := hH.blk (τ := 0) (by simp) (by intro h; cases h) hβ0
    have hne1 : bb ≠ b1 := fun e => by
      have r0 := hH.root 0 bb (by simp) (by intro h; cases h) hβ0
      have r1 := hH.root 1 b1 (by simp) (by intro h; cases h) hβ1
      rw [e, r1] at r0; simp at r0
    have hne2 : b ≠ b1 := fun e => hb1A (e ▸ hAb)
    have hbs := hH.low b hAb
    have hbc : w.cell? ⟨bb, 0, none⟩ = some (.slice (some ⟨b, off, none⟩) u.length c) := by
      rw [← hv]
      have : 0 < arr0.size := by simp [sbO] at hs0; omega
      simp [World.cell?, hh0, this, Array.getD]
    have hcmp : CmpReads Try.prog 31 #[.pointer (some ⟨bb, 0, none⟩)] (encN u.length) (fun x y : Nat => bcmp (u.drop x) (u.drop y)) b1 0 (List.range u.length).toArray.size w := by
      intro m os dk hdk x y
      have := ends_cmp u (min x u.length) (min y u.length) (Nat.min_le_right _ _) (Nat.min_le_right _ _) hu (Go.Proofs.sortWorld (encN u.length) w b1 0 m dk os) A bb b off u.length c hAb rfl hcap (fun j hj => by rw [cell_sort hne2 hbs]; exact hcells j hj) (by rw [cell_sort hne1 hbbs]; exact hbc)
      rw [drop_min rfl, drop_min rfl] at this
      exact this
    have hval : ∀ j, j < u.length → arr.getD j undef = .int .i64 ((j : Nat) : Int) := fun j hj => by
      have h := (hcd j 0 (by rw [row_sz, List.length_range]; exact hj) (by simp [srO])).1 (by rw [row_at (by rw [List.length_range]; exact hj)]; rfl)
      rw [row_at (by rw [List.length_range]; exact hj)] at h
      have e : (List.range u.length).getD j 0 = j := by simp [List.getD, hj]
      rw [e] at h
      have h2 : CR w A (.v (.int .i64 ((j : Nat) : Int))) (arr.getD j undef) := by
        have := h.toC (cl_v' _)
        simpa [srO] using this
      generalize arr.getD j undef = z at h2
      cases h2; rfl
    have hsz : (srO (List.range u.length)).sz = 1 := rfl
    rw [hsz, Nat.mul_one] at hs
    have hHold : Go.Sort.Holds (encN u.length) w b1 0 (List.range u.length).toArray := fun j hj => by
      have hj' : j < u.length := by simpa using hj
      have ja : j < arr.size := by omega
      constructor
      · have h := hval j hj'
        have e2 : arr[j]? = some (.int .i64 ((j : Nat) : Int)) := by
          rw [Array.getElem?_eq_getElem ja]
          rw [← h]; simp [Array.getD, ja]
        simp only [World.cell?, hh, Option.isSome_none, Bool.false_eq_true, if_false, Nat.zero_add]
        rw [e2, getElem!_pos _ j hj]
        simp [encN, Nat.min_eq_left (Nat.le_of_lt hj')]
      · simp [World.frozen?, hh]
    have eg : ∀ args w, (callFunc 31 args).run Try.prog w = .ok (.enter 31 args) w := enters_of Try.func31 (by kernel_rfl) rfl
    have hcon := Any.slices_SortFunc sortI (encN u.length) (fun _ => rfl) (fun x y : Nat => bcmp (u.drop x) (u.drop y)) (swo_ends u) 31 #[.pointer (some ⟨bb, 0, none⟩)] b1 0 c1 (List.range u.length).toArray w eg hcmp.lays hHold hb1s (by simp; omega)
    change Calls Try.prog 30 _ _ _ at hcon
    have esz : (List.range u.length).toArray.size = u.length := by simp
    rw [esz] at hcon
    refine hcon.mono ?_
    rintro e w' ⟨rfl, d', m, os, hp, hsr, rfl⟩
    have hok := ordOk_of (u := u) (by rw [esz]; exact hp) (by rw [esz]; exact hsr)
    have hds : d'.size = u.length := by rw [hp.1, esz]
    refine hend d'.toList hok _ ?_
    have hW := HR.resetW hH (τ := 1) (ob := srO (List.range u.length)) (ob' := srO d'.toList) (by simp) rfl rfl rfl hβ1 hh (arr' := Go.Sort.putCells (encN u.length) 0 d' arr) (by simp [Go.Sort.putCells]) (by rw [row_sz]; simp [srO]; omega) (fun i hi => by rw [row_at (row_len hi)]; rfl) (fun _ i j hi hj => by
      rw [row_at (row_len hi)]
      have : j = 0 := by simp [srO] at hj; omega
      subst this; rfl) (fun i j hi hj => by
      have hi' := row_len hi
      have hi2 : i < d'.size := by simpa using hi'
      have : j = 0 := by simp [srO] at hj; omega
      subst this
      have hlt := hok.lt hi'
      have e1 : (Go.Sort.putCells (encN u.length) 0 d' arr).getD (i * (srO d'.toList).sz + 0) undef = .int .i64 ((d'.toList.getD i 0 : Nat) : Int) := by
        have e3 : d'.toList.getD i 0 = d'[i]! := by rw [getElem!_pos d' i hi2]; simp [List.getD, hi2]
        rw [e3] at hlt ⊢
        rw [show i * (srO d'.toList).sz + 0 = i by simp [srO]]
        have hia : i < arr.size := by omega
        rw [getElem!_pos d' i hi2] at hlt ⊢
        have hmin : min d'[i] u.length = d'[i] := Nat.min_eq_left (Nat.le_of_lt hlt)
        simp [Go.Sort.putCells, Array.getD, hia, hi2, encN, hmin]
      rw [row_at hi', e1]
      exact ⟨fun _ => .cl _ _ (.v _), fun _ => .cr _ _ _ (.v _), rfl⟩)
    have hW2 := HR.world hW (below_sort (enc := encN u.length) (d := d') (n := m) (os := os) hh)
    refine HR.sub_ hW2 fun τ ob h => ?_
    match τ with
    | 0 => exact h
    | 1 => exact h
    | τ + 2 => simp [mOf] at h
theorem sortNil_spec : Dm.SpecH Try.prog 30 [.sl 1 [], .clo 31 [.ptr 0 1 0 0]] [sbO []] (fun d o => d = .tu [] ∧ o = [some (sbO [])]) := by
  refine ⟨⟨_, Try.func30, by kernel_rfl, by kernel_rfl⟩, fun w A β γ vs hH hvs hdr => ?_⟩
  obtain ⟨v0, v1, rfl⟩ : ∃ v0 v1, vs = #[v0, v1] := by
    obtain ⟨vs⟩ := vs
    match vs, hvs with
    | [x, y], _ => exact ⟨x, y, rfl⟩
  have h0 : DR w A β 1 (.sl 1 []) v0 := hdr 0 (by simp)
  have h1 : DR w A β 1 (.clo 31 [.ptr 0 1 0 0]) v1 := hdr 1 (by simp)
  clear hdr hvs
  have ho0 := hH.objs 0 (sbO []) (by simp) rfl
  obtain ⟨bb, hβ0⟩ : ∃ bb, β 0 = some bb := by
    rcases ho0.2.2 with ⟨_, h, _⟩ | ⟨b, _, _, h, _⟩
    · simp [sbO] at h
    · exact ⟨b, h⟩
  have ev1 := clo_of h1 hβ0
  subst ev1
  clear h1
  obtain ⟨p, c, rfl⟩ : ∃ p c, v0 = .slice p 0 c := by
    cases h0 with
    | cl d x h =>
      generalize hes : ([] : List (List D)) = es at h
      cases h with
      | sl0 sz b c => exact ⟨_, _, rfl⟩
      | sl sz es b off n c us hA hn hcap hs hc hr =>
        subst hes
        have : n = 0 := by simpa using hn.symm
        subst this
        exact ⟨_, _, rfl⟩
  have hcon := AnyF.slices_SortFunc_none { sortI with } p c (.func (.func 31) #[] #[.pointer (some ⟨bb, 0, none⟩)]) w
  change Calls Try.prog 30 _ _ _ at hcon
  refine hcon.mono ?_
  rintro e w' ⟨rfl, rfl⟩
  exact ⟨_, .tu [], [some (sbO [])], A, β, γ, rfl, ⟨rfl, rfl⟩, hH, .cl _ _ (.tu [] #[] rfl fun i hi => by simp at hi)⟩
end Go.Proofs.Ytdcdldfleeilnaa
