/-
  Bits of uint32 numbers; small words for proofs.
-/
import Derived.Test.YtjekkbpdgnohcaaDmY
set_option linter.unusedSimpArgs false
set_option linter.unnecessarySimpa false
set_option linter.unusedVariables false
namespace Go.Dm
theorem viEq {k : IntKind} {a b : Int} (h : a = b) : (D.v (.int k a)) = D.v (.int k b) := by rw [h]
theorem vbEq {a b : Bool} (h : a = b) : (D.v (.bool a)) = D.v (.bool b) := by rw [h]
theorem mem_getD {α : Type} [Inhabited α] {l : List α} {a : α} (h : a ∈ l) : ∃ i, i < l.length ∧ l.getD i default = a := by
  obtain ⟨i, hi, rfl⟩ := List.getElem_of_mem h
  exact ⟨i, hi, by simp [List.getD, hi]⟩
theorem getD_mem' {α : Type} [Inhabited α] {l : List α} {i : Nat} (h : i < l.length) : l.getD i default ∈ l := by
  simp [List.getD, h]
theorem take_succ_getD {α : Type} {l : List α} {i : Nat} (h : i < l.length) (d : α) : l.take (i + 1) = l.take i ++ [l.getD i d] := by
  rw [List.take_add_one]; simp [List.getD, h]
def tab (n : Nat) (f : Nat → Int) : List Int := (List.range n).map f
theorem tab_length {n : Nat} {f : Nat → Int} : (tab n f).length = n := by simp [tab]
theorem tab_getD {n i : Nat} {f : Nat → Int} {d : Int} (h : i < n) : (tab n f).getD i d = f i := by simp [tab, List.getD, h]
theorem tab_set {n i : Nat} {f : Nat → Int} {v : Int} : (tab n f).set i v = tab n fun j => if j = i then v else f j := by
  apply List.ext_getElem
  · simp [tab]
  · intro k h1 h2
    simp only [tab, List.getElem_set, List.getElem_map, List.getElem_range]
    by_cases e : i = k
    · simp [e]
    · have : ¬ k = i := fun h => e h.symm
      simp [e, this]
theorem tab_rep {n : Nat} {x : Int} : List.replicate n x = tab n fun _ => x := by
  apply List.ext_getElem <;> simp [tab]
theorem viewO_1 {sz : Nat} {a : List D} : viewO (some ⟨sz, [a], true, false, .arr⟩) sz 0 1 = .sl sz [a] := viewO_all rfl
theorem viewO_2 {sz : Nat} {a b : List D} : viewO (some ⟨sz, [a, b], true, false, .arr⟩) sz 0 2 = .sl sz [a, b] := viewO_all rfl
theorem viewO_3 {sz : Nat} {a b c : List D} : viewO (some ⟨sz, [a, b, c], true, false, .arr⟩) sz 0 3 = .sl sz [a, b, c] := viewO_all rfl
theorem viewO_4 {sz : Nat} {a b c d : List D} : viewO (some ⟨sz, [a, b, c, d], true, false, .arr⟩) sz 0 4 = .sl sz [a, b, c, d] := viewO_all rfl
theorem i64s_tab_getD {n k : Nat} {f : Nat → Int} {d : List D} (h : k < n) : (i64s (tab n f)).getD k d = [.v (.int .i64 (f k))] := by simp [i64s, tab, List.getD, h]
theorem viewO_tab {n : Nat} {f : Nat → Int} : viewO (some ⟨1, i64s (tab n f), true, false, .arr⟩) 1 0 n = .sl 1 (i64s (tab n f)) := viewO_all (by simp [i64s, tab])
theorem viewO_i64s {l : List Int} {n : Nat} (h : n = l.length) : viewO (some ⟨1, i64s l, true, false, .arr⟩) 1 0 n = .sl 1 (i64s l) := viewO_all (by simp [i64s, h])
theorem viewO_u8s {l : List UInt8} {n : Nat} (h : n = l.length) : viewO (some ⟨1, u8s l, true, false, .arr⟩) 1 0 n = .sl 1 (u8s l) := viewO_all (by simp [u8s, h])
theorem viewO_bls {l : List Bool} {n : Nat} (h : n = l.length) : viewO (some ⟨1, bls l, true, false, .arr⟩) 1 0 n = .sl 1 (bls l) := viewO_all (by simp [bls, h])
theorem nat_add {a b : Nat} : ((a : Int) + (b : Int)).toNat = a + b := by omega
theorem nat_add1 {a : Nat} : ((a : Int) + 1).toNat = a + 1 := by omega
theorem nat_add2 {a : Nat} : ((a : Int) + 2).toNat = a + 2 := by omega
theorem nat_sub {a b : Nat} : ((a : Int) - (b : Int)).toNat = a - b := by omega
theorem nat_sub1 {a : Nat} : ((a : Int) - 1).toNat = a - 1 := by omega
theorem rows_kill {α : Type} {f : α → List (List D)} {l : List α} {τ : Nat} : ((rows f l).map fun e => e.map (D.kill τ)) = rows f l := by simp [rows, kill_sl]
theorem rows_frz {α : Type} {f : α → List (List D)} {l : List α} {τ : Nat} {ob : Ob} : ((rows f l).map fun e => e.map (D.frz τ ob)) = rows f l := by simp [rows, frz_sl]
theorem rows_all {α : Type} {f : α → List (List D)} {l : List α} : (rows f l).all (fun e => e.all D.clo') = true := by simp [rows, clo'_sl]
def ownC (sz : Nat) : List (List D) → D
  | [] => .nl
  | e :: es => .own false sz (e :: es)
theorem ownC_nil {sz : Nat} {α : Type} {f : α → List D} : ownC sz (tbl f []) = .nl := (rfl)
theorem ownC_cons {sz : Nat} {α : Type} {f : α → List D} {a : α} {l : List α} : ownC sz (tbl f (a :: l)) = .own false sz (tbl f (a :: l)) := (rfl)
theorem vwR_nil : vwR [] = [] := (rfl)
theorem vwR_cons {e : List D} {es : List (List D)} : vwR (e :: es) = e.map D.vw :: vwR es := (rfl)
theorem vw_v' {x : Value} : (D.v x).vw = .v x := by rw [D.vw] <;> (intros; contradiction)
theorem vw_nl' : D.nl.vw = .nl := by rw [D.vw] <;> (intros; contradiction)
theorem vw_sl' {sz : Nat} {es : List (List D)} : (D.sl sz es).vw = .sl sz es := by rw [D.vw] <;> (intros; contradiction)
def tabD (n : Nat) (f : Nat → D) : List (List D) := (List.range n).map fun i => [f i]
theorem tabD_len {n : Nat} {f : Nat → D} : (tabD n f).length = n := by simp [tabD]
theorem tabD_get {n k : Nat} {f : Nat → D} {d : List D} (h : k < n) : (tabD n f).getD k d = [f k] := by simp [tabD, List.getD, h]
theorem tabD_set {n i : Nat} {f : Nat → D} {x : D} : (tabD n f).set i [x] = tabD n fun j => if j = i then x else f j := by
  apply List.ext_getElem
  · simp [tabD]
  · intro k h1 h2
    simp only [tabD, List.getElem_set, List.getElem_map, List.getElem_range]
    by_cases e : i = k
    · simp [e]
    · have : ¬ k = i := fun h => e h.symm
      simp [e, this]
theorem tabD_kill {n τ : Nat} {f : Nat → D} : ((tabD n f).map fun e => e.map (D.kill τ)) = tabD n fun j => (f j).kill τ := by simp [tabD]
theorem tabD_frz {n τ : Nat} {f : Nat → D} {ob : Ob} : ((tabD n f).map fun e => e.map (D.frz τ ob)) = tabD n fun j => (f j).frz τ ob := by simp [tabD]
theorem tabD_trim {n m : Nat} {f : Nat → D} : ((tabD n f).map fun e => e.map (D.trim m)) = tabD n fun j => (f j).trim m := by simp [tabD]
theorem iteD_pos {c : Prop} [Decidable c] {a b : D} (h : c) : (if c then a else b) = a := if_pos h
theorem iteD_neg {c : Prop} [Decidable c] {a b : D} (h : ¬ c) : (if c then a else b) = b := if_neg h
theorem dec_iff {a b : Prop} [Decidable a] [Decidable b] (h : a ↔ b) : decide a = decide b := by congr 1; exact propext h
theorem trim_ite {c : Prop} [Decidable c] {a b : D} {m : Nat} : (if c then a else b).trim m = if c then a.trim m else b.trim m := by split <;> rfl
theorem kill_ite {c : Prop} [Decidable c] {a b : D} {m : Nat} : (if c then a else b).kill m = if c then a.kill m else b.kill m := by split <;> rfl
theorem frz_ite {c : Prop} [Decidable c] {a b : D} {m : Nat} {ob : Ob} : (if c then a else b).frz m ob = if c then a.frz m ob else b.frz m ob := by split <;> rfl
set_option linter.defProp false
def vlen := And.intro @List.length_cons.{0} <| And.intro @List.length_nil.{0} <| And.intro @List.length_append.{0} <| And.intro @List.length_map.{0,0} <| And.intro @List.length_replicate.{0} <| And.intro @List.length_take.{0} <| And.intro @List.length_drop.{0} <| And.intro @List.length_set.{0} <| And.intro @tab_length <| And.intro @tabD_len <| And.intro @i64s_len <| And.intro @bls_len <| And.intro @u8s_len <| And.intro @tbl_len @rows_len
def vx0 := And.intro @trim_ite <| And.intro @kill_ite <| And.intro @frz_ite <| And.intro @tabD_len <| And.intro @tabD_get <| And.intro @tabD_set <| And.intro @tabD_kill <| And.intro @tabD_frz <| And.intro @tabD_trim <| And.intro @iteD_pos <| And.intro @iteD_neg <| And.intro @vwR_nil <| And.intro @vwR_cons <| And.intro @vw_v' <| And.intro @vw_nl' <| And.intro @vw_sl' <| And.intro @vw_own <| And.intro @rows_kill <| And.intro @rows_frz <| And.intro @rows_all <| And.intro @List.map_append.{0,0} <| And.intro @List.all_append.{0} <| And.intro @ownC_nil <| And.intro @ownC_cons <| And.intro @nat_add <| And.intro @nat_add1 <| And.intro @nat_add2 <| And.intro @nat_sub <| And.intro @nat_sub1 <| And.intro @i64s_tab_getD <| And.intro @viewO_tab <| And.intro @viewO_i64s <| And.intro @viewO_u8s <| And.intro @viewO_bls <| And.intro @viewO_1 <| And.intro @viewO_2 <| And.intro @viewO_3 <| And.intro @viewO_4 <| And.intro @tab_length (And.intro @tab_getD (And.intro @tab_set (And.intro @i64s_rep @tab_rep)))
def vAq := And.intro va0 <| And.intro va1 <| And.intro va2 va3
def vBq := And.intro vb0 <| And.intro vb1 <| And.intro vb2 <| And.intro vb3 <| And.intro vb4 <| And.intro vb5 <| And.intro vb6 <| And.intro vb7 <| And.intro vb8 <| And.intro vb9 <| And.intro vb10 <| And.intro vz0 <| And.intro vz1 <| And.intro vy0 vx0
end Go.Dm
