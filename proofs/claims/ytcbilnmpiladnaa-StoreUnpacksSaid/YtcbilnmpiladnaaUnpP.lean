/-
  Numbers out of bytes; thickets out of numbers.
-/
import Derived.Test.YtcbilnmpiladnaaThick
namespace Go.Dm
set_option linter.unusedSimpArgs false
set_option linter.unusedVariables false
def ns : List UInt8 → List Int
  | a :: c :: r => ((a.toNat + 256 * c.toNat : Nat) : Int) :: ns r
  | _ => []
/-- The next number; what is behind it; is there none? -/
def sh (R : List UInt8) : Bool := decide (R.length < 2)
def nx (R : List UInt8) : Nat := if R.length < 2 then 0 else (R.getD 0 0).toNat + 256 * (R.getD 1 0).toNat
def rsd (R : List UInt8) : List UInt8 := if R.length < 2 then R else R.drop 2
theorem ns_sh {R : List UInt8} (h : sh R = true) : ns R = [] ∧ rsd R = R := by
  have h := of_decide_eq_true h
  refine ⟨?_, if_pos h⟩
  match R, h with
  | [], _ => rfl
  | [a], _ => rfl
theorem ns_go {R : List UInt8} (h : sh R = false) : ns R = (nx R : Int) :: ns (rsd R) ∧ R.length = (rsd R).length + 2 := by
  have h := of_decide_eq_false h
  match R, h with
  | a :: c :: r, _ => exact ⟨rfl, rfl⟩
  | [], h => simp at h
  | [a], h => simp at h
theorem byte_le (a : UInt8) : a.toNat ≤ 255 := by have := a.toNat_lt; omega
theorem nx_le {R : List UInt8} : nx R ≤ 65535 := by
  unfold nx
  split
  · omega
  · have := byte_le (R.getD 0 0); have := byte_le (R.getD 1 0); omega
theorem rsd_le {R : List UInt8} : (rsd R).length ≤ R.length := by
  unfold rsd; split
  · exact Nat.le_refl _
  · rw [List.length_drop]; omega
theorem rsd_par {R : List UInt8} : (rsd R).length % 2 = R.length % 2 := by
  unfold rsd; split
  · rfl
  · rw [List.length_drop]; omega
theorem ns_len : ∀ (R : List UInt8), (ns R).length = R.length / 2
  | [] => rfl
  | [a] => by simp [ns]
  | a :: c :: r => by
    have := ns_len r
    simp only [ns, List.length_cons, this]; omega
theorem ns_get : ∀ (R : List UInt8) (p : Nat), p < R.length / 2 → (ns R).getD p 0 = (((R.getD (2 * p) 0).toNat + 256 * (R.getD (2 * p + 1) 0).toNat : Nat) : Int)
  | [], p, h => by simp at h
  | [a], p, h => by simp at h
  | a :: c :: r, 0, h => rfl
  | a :: c :: r, p + 1, h => by
    have := ns_get r p (by simp only [List.length_cons] at h; omega)
    rw [show 2 * (p + 1) = 2 * p + 1 + 1 by omega]
    simp only [ns, List.getD_cons_succ]
    exact this
theorem ns_rg : ∀ (R : List UInt8) (x : Int), x ∈ ns R → 0 ≤ x ∧ x ≤ 65535
  | a :: c :: r, x, h => by
    rcases List.mem_cons.mp (show x ∈ ((a.toNat + 256 * c.toNat : Nat) : Int) :: ns r from h) with rfl | h
    · have := byte_le a; have := byte_le c; omega
    · exact ns_rg r x h
def pWays : Nat → List Int → Option (List (List Int) × List Int)
  | 0, l => some ([], l)
  | _ + 1, [] => none
  | n + 1, h :: r => if r.length < h.toNat then none else (pWays n (r.drop h.toNat)).map fun x => (r.take h.toNat :: x.1, x.2)
def pSpots : Nat → List Int → Option (List Spot × List Int)
  | 0, l => some ([], l)
  | n + 1, a :: b :: c :: d :: r => match pWays d.toNat r with
    | none => none
    | some y => (pSpots n y.2).map fun x => (⟨a, b, c, y.1⟩ :: x.1, x.2)
  | _ + 1, _ => none
def kS (S : List Spot) (o : Option (List Spot × List Int)) : Option (List Spot × List Int) := o.map fun x => (S ++ x.1, x.2)
def kW (a b c : Int) (W : List (List Int)) (m : Nat) (S : List Spot) : Option (List (List Int) × List Int) → Option (List Spot × List Int)
  | none => none
  | some y => kS S ((pSpots m y.2).map fun x => (⟨a, b, c, W ++ y.1⟩ :: x.1, x.2))
def kJ (a b c : Int) (W : List (List Int)) (m : Nat) (S : List Spot) (w : List Int) (k j : Nat) (l : List Int) : Option (List Spot × List Int) :=
  if l.length < j then none else kW a b c W m S ((pWays k (l.drop j)).map fun x => ((w ++ l.take j) :: x.1, x.2))
theorem kS_snoc {S : List Spot} {s : Spot} {o : Option (List Spot × List Int)} : kS S (o.map fun x => (s :: x.1, x.2)) = kS (S ++ [s]) o := by
  cases o with
  | none => rfl
  | some x => simp [kS]
theorem kW_done {a b c : Int} {W : List (List Int)} {m : Nat} {S : List Spot} {l : List Int} : kW a b c W m S (pWays 0 l) = kS (S ++ [⟨a, b, c, W⟩]) (pSpots m l) := by
  rw [← kS_snoc]; simp [pWays, kW]
theorem kW_snoc {a b c : Int} {W : List (List Int)} {m : Nat} {S : List Spot} {w : List Int} {o : Option (List (List Int) × List Int)} : kW a b c W m S (o.map fun x => (w :: x.1, x.2)) = kW a b c (W ++ [w]) m S o := by
  cases o with
  | none => rfl
  | some x => simp [kW]
theorem kJ_done {a b c : Int} {W : List (List Int)} {m : Nat} {S : List Spot} {w : List Int} {k : Nat} {l : List Int} : kJ a b c W m S w k 0 l = kW a b c (W ++ [w]) m S (pWays k l) := by
  rw [← kW_snoc]; simp [kJ]
/-- A way is begun. -/
theorem kW_way {a b c : Int} {W : List (List Int)} {m : Nat} {S : List Spot} {k : Nat} {R : List UInt8} :
    (sh R = true → kW a b c W m S (pWays (k + 1) (ns R)) = none) ∧ (sh R = false → kW a b c W m S (pWays (k + 1) (ns R)) = kJ a b c W m S [] k (nx R) (ns (rsd R))) := by
  refine ⟨fun h => by rw [(ns_sh h).1]; rfl, fun h => ?_⟩
  rw [(ns_go h).1]
  unfold kJ
  show kW a b c W m S (if (ns (rsd R)).length < ((nx R : Nat) : Int).toNat then none else _) = _
  rw [Int.toNat_natCast]
  split
  · rfl
  · rfl
/-- A number of a way is read. -/
theorem kJ_num {a b c : Int} {W : List (List Int)} {m : Nat} {S : List Spot} {w : List Int} {k j : Nat} {R : List UInt8} :
    (sh R = true → kJ a b c W m S w k (j + 1) (ns R) = none) ∧ (sh R = false → kJ a b c W m S w k (j + 1) (ns R) = kJ a b c W m S (w ++ [(nx R : Int)]) k j (ns (rsd R))) := by
  refine ⟨fun h => by rw [(ns_sh h).1]; rfl, fun h => ?_⟩
  rw [(ns_go h).1]
  unfold kJ
  rw [List.length_cons]
  by_cases e : (ns (rsd R)).length < j
  · rw [if_pos e, if_pos (by omega)]
  · rw [if_neg e, if_neg (by omega), List.drop_succ_cons, List.take_succ_cons, List.append_assoc]; rfl
/-- A spot is begun. -/
theorem kS_spot {S : List Spot} {m : Nat} {R R1 R2 R3 : List UInt8} (h1 : rsd R = R1) (h2 : rsd R1 = R2) (h3 : rsd R2 = R3) :
    ((sh R || sh R1 || sh R2 || sh R3) = true → kS S (pSpots (m + 1) (ns R)) = none) ∧
    ((sh R || sh R1 || sh R2 || sh R3) = false → kS S (pSpots (m + 1) (ns R)) = kW (nx R) (nx R1) (nx R2) [] m S (pWays (nx R3) (ns (rsd R3)))) := by
  cases e0 : sh R with
  | true => exact ⟨fun _ => by rw [(ns_sh e0).1]; rfl, fun h => by simp at h⟩
  | false =>
    rw [(ns_go e0).1, h1]
    cases e1 : sh R1 with
    | true => exact ⟨fun _ => by rw [(ns_sh e1).1]; rfl, fun h => by simp at h⟩
    | false =>
      rw [(ns_go e1).1, h2]
      cases e2 : sh R2 with
      | true => exact ⟨fun _ => by rw [(ns_sh e2).1]; rfl, fun h => by simp at h⟩
      | false =>
        rw [(ns_go e2).1, h3]
        cases e3 : sh R3 with
        | true => exact ⟨fun _ => by rw [(ns_sh e3).1]; rfl, fun h => by simp at h⟩
        | false =>
          refine ⟨fun h => by simp at h, fun _ => ?_⟩
          rw [(ns_go e3).1]
          show kS S (match pWays ((nx R3 : Nat) : Int).toNat (ns (rsd R3)) with
            | none => none
            | some y => (pSpots m y.2).map fun x => (⟨(nx R : Int), (nx R1 : Int), (nx R2 : Int), y.1⟩ :: x.1, x.2)) = _
          rw [Int.toNat_natCast]
          cases pWays (nx R3) (ns (rsd R3)) with
          | none => rfl
          | some y => rfl
end Go.Dm
