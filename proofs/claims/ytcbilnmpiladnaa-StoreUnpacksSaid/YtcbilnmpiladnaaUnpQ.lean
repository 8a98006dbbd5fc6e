/-
  Thickets out of numbers: they are small.
-/
import Derived.Test.YtcbilnmpiladnaaUnpP
namespace Go.Dm
set_option linter.unusedSimpArgs false
set_option linter.unusedVariables false
def Rg6 (l : List Int) : Prop := ∀ x, x ∈ l → 0 ≤ x ∧ x ≤ 65535
theorem pWays_rg : ∀ {n : Nat} {l : List Int} {y : List (List Int) × List Int}, pWays n l = some y → Rg6 l → y.1.length = n ∧ y.1.length ≤ l.length ∧ (∀ w, w ∈ y.1 → w.length ≤ l.length ∧ Rg6 w) ∧ Rg6 y.2 ∧ y.2.length ≤ l.length
  | 0, l, y, h, hl => by
    simp only [pWays, Option.some.injEq] at h
    subst h
    exact ⟨rfl, Nat.zero_le _, fun w hw => by simp at hw, hl, Nat.le_refl _⟩
  | n + 1, [], y, h, hl => by simp [pWays] at h
  | n + 1, a :: r, y, h, hl => by
    simp only [pWays] at h
    split at h
    · cases h
    · next hlt =>
      have hlr : Rg6 (r.drop a.toNat) := fun x hx => hl x (List.mem_cons_of_mem _ (List.mem_of_mem_drop hx))
      cases e : pWays n (r.drop a.toNat) with
      | none => rw [e] at h; cases h
      | some z =>
        rw [e] at h
        simp only [Option.map_some, Option.some.injEq] at h
        subst h
        obtain ⟨h1, h2, h3, h4, h5⟩ := pWays_rg e hlr
        rw [List.length_drop] at h2 h5 h3
        refine ⟨by simp only [List.length_cons]; omega, by simp only [List.length_cons]; omega, fun w hw => ?_, h4, by simp only [List.length_cons]; omega⟩
        rcases List.mem_cons.mp hw with rfl | hw
        · exact ⟨by rw [List.length_take, List.length_cons]; omega, fun x hx => hl x (List.mem_cons_of_mem _ (List.mem_of_mem_take hx))⟩
        · have := h3 w hw
          exact ⟨by rw [List.length_cons]; omega, this.2⟩
def SpOk (N : Nat) (s : Spot) : Prop := (0 ≤ s.sign ∧ s.sign ≤ 65535) ∧ (0 ≤ s.fr ∧ s.fr ≤ 65535) ∧ (0 ≤ s.to ∧ s.to ≤ 65535) ∧ s.ways.length ≤ N ∧ ∀ w, w ∈ s.ways → w.length ≤ N ∧ Rg6 w
theorem SpOk.mono {N M : Nat} {s : Spot} (h : SpOk N s) (hm : N ≤ M) : SpOk M s := ⟨h.1, h.2.1, h.2.2.1, by have := h.2.2.2.1; omega, fun w hw => ⟨by have := (h.2.2.2.2 w hw).1; omega, (h.2.2.2.2 w hw).2⟩⟩
theorem pSpots_rg : ∀ {n : Nat} {l : List Int} {y : List Spot × List Int}, pSpots n l = some y → Rg6 l → y.1.length = n ∧ y.1.length ≤ l.length ∧ (∀ s, s ∈ y.1 → SpOk l.length s) ∧ y.2.length ≤ l.length
  | 0, l, y, h, hl => by
    simp only [pSpots, Option.some.injEq] at h
    subst h
    exact ⟨rfl, Nat.zero_le _, fun w hw => by simp at hw, Nat.le_refl _⟩
  | n + 1, a :: b :: c :: d :: r, y, h, hl => by
    simp only [pSpots] at h
    have hr : Rg6 r := fun x hx => hl x (by simp [hx])
    cases e : pWays d.toNat r with
    | none => rw [e] at h; cases h
    | some z =>
      rw [e] at h
      obtain ⟨h1, h2, h3, h4, h5⟩ := pWays_rg e hr
      cases e2 : pSpots n z.2 with
      | none => simp only [e2] at h; cases h
      | some u =>
        simp only [e2, Option.map_some, Option.some.injEq] at h
        subst h
        obtain ⟨k1, k2, k3, k4⟩ := pSpots_rg e2 h4
        refine ⟨by simp only [List.length_cons]; omega, by simp only [List.length_cons]; omega, fun s hs => ?_, by simp only [List.length_cons]; omega⟩
        rcases List.mem_cons.mp hs with rfl | hs
        · exact ⟨hl a (by simp), hl b (by simp), hl c (by simp), by simp only [List.length_cons]; omega, fun w hw => ⟨by have := (h3 w hw).1; simp only [List.length_cons]; omega, (h3 w hw).2⟩⟩
        · exact (k3 s hs).mono (by simp only [List.length_cons]; omega)
  | n + 1, [], y, h, hl => by simp [pSpots] at h
  | n + 1, [_], y, h, hl => by simp [pSpots] at h
  | n + 1, [_, _], y, h, hl => by simp [pSpots] at h
  | n + 1, [_, _, _], y, h, hl => by simp [pSpots] at h
/-- All of it. -/
def pAll : List Int → Option (Thicket × List Int)
  | a :: m :: r => (pSpots m.toNat r).map fun x => (⟨x.1, a⟩, x.2)
  | _ => none
theorem pAll_ok {l : List Int} {y : Thicket × List Int} (h : pAll l = some y) (hl : Rg6 l) (hn : l.length ≤ 4000) : y.1.ok ∧ y.1.spots.length ≤ 4000 ∧ ∀ s, s ∈ y.1.spots → SpOk 4000 s := by
  match l, h with
  | a :: m :: r, h =>
    simp only [pAll] at h
    have hr : Rg6 r := fun x hx => hl x (by simp [hx])
    cases e : pSpots m.toNat r with
    | none => rw [e] at h; cases h
    | some z =>
      rw [e] at h
      simp only [Option.map_some, Option.some.injEq] at h
      subst h
      obtain ⟨k1, k2, k3, k4⟩ := pSpots_rg e hr
      have ha := hl a (by simp)
      simp only [List.length_cons] at hn
      have hs : ∀ s, s ∈ z.1 → SpOk 4000 s := fun s hs => (k3 s hs).mono (by omega)
      have o64 : ∀ x : Int, 0 ≤ x ∧ x ≤ 65535 → ok64 x := fun x hx => by unfold ok64; omega
      have om : ∀ n : Nat, n ≤ 4000 → n ≤ maxLen := fun n hn => by unfold maxLen; omega
      refine ⟨⟨⟨om _ (show z.1.length ≤ 4000 by omega), fun s hs' => ?_⟩, o64 a ha⟩, (show z.1.length ≤ 4000 by omega), hs⟩
      obtain ⟨s1, s2, s3, s4, s5⟩ := hs s hs'
      exact ⟨o64 _ s1, o64 _ s2, o64 _ s3, om _ s4, fun w hw => ⟨om _ (s5 w hw).1, fun x hx => o64 x ((s5 w hw).2 x hx)⟩⟩
theorem pAll_start (c : List UInt8) : ∃ F, pAll (ns c) = F.map (fun x => (⟨x.1, (nx c : Int)⟩, x.2)) ∧ ((sh c || sh (rsd c)) = false → F = kS [] (pSpots (nx (rsd c)) (ns (rsd (rsd c))))) ∧ ((sh c || sh (rsd c)) = true → F = none) := by
  cases e0 : sh c with
  | true => exact ⟨none, by rw [(ns_sh e0).1]; rfl, fun h => by simp at h, fun _ => rfl⟩
  | false =>
    rw [(ns_go e0).1]
    cases e1 : sh (rsd c) with
    | true => exact ⟨none, by rw [(ns_sh e1).1]; rfl, fun h => by simp at h, fun _ => rfl⟩
    | false =>
      rw [(ns_go e1).1]
      refine ⟨pSpots (nx (rsd c)) (ns (rsd (rsd c))), ?_, fun _ => ?_, fun h => by simp at h⟩
      · show (pSpots ((nx (rsd c) : Nat) : Int).toNat _).map _ = _
        rw [Int.toNat_natCast]
      · cases pSpots (nx (rsd c)) (ns (rsd (rsd c))) with
        | none => rfl
        | some x => rfl
end Go.Dm
