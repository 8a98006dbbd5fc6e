/-
  How long a list of numbers is that is handed over: no more bytes than addresses.
-/
import Derived.Test.YtmhpfgklfpgniaaDmZ
import Derived.Test.YtmhpfgklfpgniaaDmX
import Derived.SizedLaws
namespace Go.Dm
open Go.RowKit
set_option linter.unusedVariables false
theorem len_of_cr {w : World} {A : Nat → Prop} {sz n c : Nat} {es : List (List D)} {b : Option Addr} (h : CR w A (.sl sz es) (.slice b n c)) : es.length = n := by
  cases h with
  | sl0 => rfl
  | sl _ _ _ _ _ _ _ _ hn => exact hn
theorem sized_ints {P : Program} {H : Type} {enc : TypeId × Value → H} {w : World} {spare : Nat → Bool} {held : Bool} {A : Nat → Prop} {t e : TypeId} (ht : P.underlying t = some (.slice e)) (hb : P.bytesOf e = 8) {v : Value} {d : DataW H} {ps : List MemPlace} (hd : DataW.Trod enc P w 0 spare held t v d ps)
    (hz : ∀ elems sp, d = .slice elems sp → (elems.length + sp.length) * P.bytesOf e ≤ reachBytes) {l : List Int} (hc : CR w A (.sl 1 (i64s l)) v) : l.length * 8 ≤ 140737488351232 := by
  have hl : (i64s l).length = l.length := by simp [i64s]
  obtain ⟨b, n, c, rfl⟩ : ∃ b n c, v = .slice b n c := by
    generalize hes : i64s l = es at hc
    cases hc with
    | sl0 => exact ⟨_, _, _, rfl⟩
    | sl => exact ⟨_, _, _, rfl⟩
  have hn := len_of_cr hc
  obtain ⟨fuel, hf⟩ := hd
  rcases DataW.trod_slice ht hf with ⟨h1, _⟩ | ⟨a, len, cap, elems, rest, m, _, h2, h3, _, h4, _, h5, _⟩
  · have h1 : [Value.slice b n c] = [.slice none 0 0] := h1
    injection h1 with h1
    injection h1 with _ h1
    omega
  · have h2 : [Value.slice b n c] = [.slice (some a) len cap] := h2
    injection h2 with h2
    injection h2 with _ h2
    have h6 := hz (elems.map (·.1)) (rest.map (·.1)) (congrArg Prod.fst h3)
    rw [hb, List.length_map, List.length_map] at h6
    have h7 : reachBytes = 140737488351232 := rfl
    have h8 := Nat.le_mul_of_pos_right rest.length (show 0 < 8 by omega)
    rw [Nat.add_mul, h7] at h6
    omega
end Go.Dm
