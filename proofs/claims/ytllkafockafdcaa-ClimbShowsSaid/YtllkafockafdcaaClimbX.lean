/-
  The shortest expression of a postfix list.
-/
import Derived.Test.YtllkafockafdcaaClimbW
namespace Go.Dm
set_option linter.unusedSimpArgs false
set_option linter.unusedVariables false
def prn (e : List Int) : List Int := -1 :: (e ++ [-2])
def wi (e : List Int) (b : Bool) : List Int := if b then prn e else e
def ndA (ops : List Opr) (la op : Int) : Bool := decide (0 ≤ la) && !bef ops la op
def ndB (ops : List Opr) (lb op : Int) : Bool := decide (0 ≤ lb) && bef ops op lb
/-- What is written for a postfix list, and its last operator. -/
inductive ShR (ops : List Opr) : List Int → List Int → Int → Prop
  | val {v : Int} (h : 100 ≤ v) : ShR ops [v] [v] (-1)
  | bin {pa pb a b : List Int} {la lb op : Int} (ha : ShR ops pa a la) (hb : ShR ops pb b lb) (ho : 0 ≤ op ∧ op < ops.length) : ShR ops (pa ++ pb ++ [op]) (wi a (ndA ops la op) ++ op :: wi b (ndB ops lb op)) op
structure ItO (ops : List Opr) (p e : List Int) (la : Int) : Prop where
  po : PO p
  rd : rdC ops e = some p
  vs : ∀ s, s ∈ e → vS ops s
  tp : TopO ops e la
  ln : e.length + 4 ≤ 5 * p.length
  lb : la = -1 ∨ (0 ≤ la ∧ la < ops.length)
theorem wi_ok {ops : List Opr} (hc : ConsO ops) (hn : ops.length ≤ 100) {e p : List Int} (b : Bool) (hv : ∀ s, s ∈ e → vS ops s) (h : rdC ops e = some p) : rdC ops (wi e b) = some p ∧ (∀ s, s ∈ wi e b → vS ops s) ∧ (b = true → ∀ o, ¬ D0 (wi e b) o) := by
  cases b with
  | false => exact ⟨h, hv, fun h => by cases h⟩
  | true =>
    have hw := rd_we hc hn hv h
    exact ⟨by show rdC ops (prn e) = _; unfold prn; rw [rd_par hc hv hw]; exact h, vS_par hv, fun _ => par_D0 hw⟩
/-- Which of the four ways of writing read right. -/
theorem wi_rd {ops : List Opr} (hc : ConsO ops) (hn : ops.length ≤ 100) {pa pb a b : List Int} {la lb op : Int} (ia : ItO ops pa a la) (ib : ItO ops pb b lb) (ho : 0 ≤ op ∧ op < ops.length) (s t : Bool) :
    WE (wi a s ++ op :: wi b t) ∧ (rdC ops (wi a s ++ op :: wi b t) = some (pa ++ pb ++ [op]) ↔ (s = true ∨ ndA ops la op = false) ∧ (t = true ∨ ndB ops lb op = false)) := by
  obtain ⟨ra, va, da⟩ := wi_ok hc hn s ia.vs ia.rd
  obtain ⟨rb, vb, db⟩ := wi_ok hc hn t ib.vs ib.rd
  obtain ⟨w, h⟩ := rd_all hc hn va vb ho ra rb
  refine ⟨w, ?_⟩
  rw [h]
  have hA : (∀ o, D0 (wi a s) o → bef ops o op = true) ↔ (s = true ∨ ndA ops la op = false) := by
    cases s with
    | true => exact ⟨fun _ => .inl rfl, fun _ o ho => absurd ho (da rfl o)⟩
    | false =>
      show (∀ o, D0 a o → bef ops o op = true) ↔ _
      rw [condA_iff hc ia.vs ho ia.tp]
      unfold ndA
      constructor
      · rintro (h | h)
        · right; rw [decide_eq_false (by omega)]; rfl
        · right; rw [h]; simp
      · rintro (h | h)
        · cases h
        · rw [Bool.and_eq_false_iff] at h
          rcases h with h | h
          · left; have := of_decide_eq_false h; omega
          · right; simpa using h
  have hB : (∀ o, D0 (wi b t) o → bef ops op o = false) ↔ (t = true ∨ ndB ops lb op = false) := by
    cases t with
    | true => exact ⟨fun _ => .inl rfl, fun _ o ho => absurd ho (db rfl o)⟩
    | false =>
      show (∀ o, D0 b o → bef ops op o = false) ↔ _
      rw [condB_iff hc ib.vs ho ib.tp]
      unfold ndB
      constructor
      · rintro (h | h)
        · right; rw [decide_eq_false (by omega)]; rfl
        · right; rw [h]; simp
      · rintro (h | h)
        · cases h
        · rw [Bool.and_eq_false_iff] at h
          rcases h with h | h
          · left; have := of_decide_eq_false h; omega
          · right; exact h
  rw [hA, hB]
theorem wi_len {e : List Int} {b : Bool} : (wi e b).length = e.length + (if b then 2 else 0) := by
  cases b
  · rfl
  · show (prn e).length = _
    unfold prn; simp
theorem shR_it {ops : List Opr} (hc : ConsO ops) (hn : ops.length ≤ 100) {p e : List Int} {la : Int} (h : ShR ops p e la) : ItO ops p e la := by
  induction h with
  | @val v hv =>
    refine ⟨.val hv, rdC_val ⟨rfl, hv⟩, fun s hs => ?_, .inl ⟨rfl, fun o ⟨i, hi, hio, ho, _⟩ => ?_⟩, by simp, .inl rfl⟩
    · rw [List.mem_singleton] at hs; subst hs; exact .inr (.inl hv)
    · have : i = 0 := by simpa using hi
      subst this
      have e2 : v = o := hio
      have := ho.2
      omega
  | @bin pa pb a b la lb op _ _ ho ia ib =>
    have hio : isO op := ⟨ho.1, by omega⟩
    obtain ⟨w, h⟩ := wi_rd hc hn ia ib ho (ndA ops la op) (ndB ops lb op)
    have hr := h.mpr ⟨by cases ndA ops la op <;> simp, by cases ndB ops lb op <;> simp⟩
    have va := (wi_ok hc hn (ndA ops la op) ia.vs ia.rd).2.1
    have vb := (wi_ok hc hn (ndB ops lb op) ib.vs ib.rd).2.1
    have hva := vS_all va vb ho
    refine ⟨.bin ia.po ib.po hio, hr, hva, ?_, ?_, .inr ho⟩
    · obtain ⟨l0, hs⟩ := we_sc hc hva w
      have ht := topO_of hc hva hs
      obtain ⟨_, _, k3⟩ := scC_spec hc hva (Nat.le_refl _) hs
      rcases k3 with ⟨_, hno⟩ | ⟨n, hla, hL⟩
      · exfalso
        have hx := rd_we hc hn va (wi_ok hc hn (ndA ops la op) ia.vs ia.rd).1
        exact hno (wi a (ndA ops la op)).length (by rw [List.length_append, List.length_cons]; omega) (by rw [all_at]; exact hio) (by rw [all_take]; exact (we_dep hx).1)
      · subst hla
        rw [if_neg (by omega), Int.toNat_natCast] at ht
        have h1 : ¬ ((wi a (ndA ops la op) ++ op :: wi b (ndB ops lb op)).length = 1 ∧ 100 ≤ (wi a (ndA ops la op) ++ op :: wi b (ndB ops lb op)).getD 0 0) := fun h => by
          have := we_pos (rd_we hc hn va (wi_ok hc hn (ndA ops la op) ia.vs ia.rd).1)
          have h2 := h.1
          rw [List.length_append, List.length_cons] at h2
          have := we_pos (rd_we hc hn vb (wi_ok hc hn (ndB ops lb op) ib.vs ib.rd).1)
          omega
        have hb := rdC_bin h1 hs rfl hL.lt
        rw [hr] at hb
        cases r1 : rdC ops ((wi a (ndA ops la op) ++ op :: wi b (ndB ops lb op)).take n) with
        | none => rw [r1] at hb; cases hb
        | some p1 =>
          cases r2 : rdC ops ((wi a (ndA ops la op) ++ op :: wi b (ndB ops lb op)).drop (n + 1)) with
          | none => rw [r1, r2] at hb; cases hb
          | some p2 =>
            rw [r1, r2] at hb
            simp only [Option.some.injEq] at hb
            have e := List.append_inj' hb rfl
            have e2 : op = (wi a (ndA ops la op) ++ op :: wi b (ndB ops lb op)).getD n 0 := by simpa using e.2
            rw [← e2] at ht
            exact ht
    · have h3 := ia.ln
      have h4 := ib.ln
      rw [List.length_append, List.length_cons, wi_len, wi_len, List.length_append, List.length_append]
      simp only [List.length_cons, List.length_nil]
      split <;> split <;> omega
theorem shR_po {ops : List Opr} (hn : ops.length ≤ 100) {p e : List Int} {la : Int} (h : ShR ops p e la) : PO p := by
  induction h with
  | val hv => exact .val hv
  | bin _ _ ho iha ihb => exact .bin iha ihb ⟨ho.1, by omega⟩
theorem shR_ex {ops : List Opr} {p : List Int} (h : PO p) : (∀ s, s ∈ p → isO s → s < ops.length) → ∃ e la, ShR ops p e la := by
  induction h with
  | val hv => exact fun _ => ⟨_, _, .val hv⟩
  | @bin a b o _ _ ho iha ihb =>
    intro hv
    obtain ⟨e1, l1, h1⟩ := iha fun s hs => hv s (by simp [hs])
    obtain ⟨e2, l2, h2⟩ := ihb fun s hs => hv s (by simp [hs])
    exact ⟨_, _, .bin h1 h2 ⟨ho.1, hv o (by simp) ho⟩⟩
theorem shR_det {ops : List Opr} (hn : ops.length ≤ 100) {p e : List Int} {la : Int} (h : ShR ops p e la) : ∀ {e' : List Int} {la' : Int}, ShR ops p e' la' → e = e' ∧ la = la' := by
  induction h with
  | @val v hv =>
    intro e' la' h'
    generalize hp : [v] = q at h'
    cases h' with
    | @val v' _ =>
      have : v = v' := by simpa using hp
      subst this; exact ⟨rfl, rfl⟩
    | @bin pa pb a b la lb op ha hb ho =>
      have h1 := congrArg List.length hp
      have h2 := List.length_pos_iff.mpr (po_pos (shR_po hn ha))
      rw [List.length_append, List.length_append] at h1
      simp only [List.length_cons, List.length_nil] at h1
      omega
  | @bin pa pb a b la lb op ha hb ho iha ihb =>
    intro e' la' h'
    generalize hp : pa ++ pb ++ [op] = q at h'
    cases h' with
    | @val v' _ =>
      have h1 := congrArg List.length hp
      have h2 := List.length_pos_iff.mpr (po_pos (shR_po hn ha))
      rw [List.length_append, List.length_append] at h1
      simp only [List.length_cons, List.length_nil] at h1
      omega
    | @bin pa' pb' a' b' la' lb' op' ha' hb' ho' =>
      obtain ⟨rfl, rfl, rfl⟩ := po_uniq hp (shR_po hn hb) (shR_po hn hb')
      obtain ⟨rfl, rfl⟩ := iha ha'
      obtain ⟨rfl, rfl⟩ := ihb hb'
      exact ⟨rfl, rfl⟩
end Go.Dm
