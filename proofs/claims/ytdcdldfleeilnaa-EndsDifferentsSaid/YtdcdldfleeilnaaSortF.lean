/-
  ends.order: how two ends are compared; slices.SortFunc on an object of ints.
-/
import Derived.Test.YtdcdldfleeilnaaOrdP
import Derived.Test.YtdcdldfleeilnaaSortL
import Derived.Test.YtdcdldfleeilnaaOpen
import Derived.WalkKit
import Derived.Deep.QuietTactic
import Derived.BigQuiet
namespace Go.Proofs.Ytdcdldfleeilnaa
open Go.RowKit Go.Dm
set_option linter.unusedSimpArgs false
set_option linter.unnecessarySimpa false
set_option linter.unusedVariables false
theorem cr_drop {w : World} {A : Nat → Prop} {u : List UInt8} {b off n x m k : Nat} (hn : u.length = n) (hc : ∀ j, j < n → w.cell? ⟨b, off + j, none⟩ = some (.int .u8 ((u.getD j 0).toNat : Int))) (hA : A b) (hx : x ≤ n) (hm : m = n - x) (hk : m ≤ k) : CR w A (.sl 1 (u8s (u.drop x))) (.slice (some ⟨b, off + x, none⟩) m k) := by
  refine .sl 1 _ b (off + x) m k (fun i _ => .int .u8 ((u.getD (x + i) 0).toNat : Int)) hA (by rw [u8s_len, List.length_drop]; omega) hk (fun i hi => ?_) (fun i j hi hj => ?_) (fun i j hi hj => ?_)
  · rw [u8s_len] at hi
    rw [u8s_get hi]; rfl
  · rw [u8s_len, List.length_drop] at hi
    refine ⟨?_, rfl⟩
    have := hc (x + i) (by omega)
    rw [← this]; congr 2; omega
  · rw [u8s_len] at hi
    have hj0 : j = 0 := by omega
    subst hj0
    rw [u8s_get hi]
    rw [List.length_drop] at hi
    have e : (u.drop x).getD i 0 = u.getD (x + i) 0 := by simp [List.getD, List.getElem?_drop]
    rw [e]
    exact .v _
theorem cr_dropI {w : World} {A : Nat → Prop} {u : List UInt8} {b off n x c : Nat} (hn : u.length = n) (hc : ∀ j, j < n → w.cell? ⟨b, off + j, none⟩ = some (.int .u8 ((u.getD j 0).toNat : Int))) (hA : A b) (hx : x ≤ n) (hk : n ≤ c) : CR w A (.sl 1 (u8s (u.drop x))) (.slice (if c = x then some ⟨b, off, none⟩ else some ⟨b, off + x, none⟩) (n - x) (c - x)) := by
  by_cases e : c = x
  · rw [if_pos e, List.drop_of_length_le (by omega), show n - x = 0 by omega]
    exact .sl0 1 _ _
  · rw [if_neg e]
    exact cr_drop hn hc hA hx rfl (by omega)
set_option maxHeartbeats 2000000 in
set_option maxRecDepth 100000 in
theorem ends_cmp (u : List UInt8) (x y : Nat) (hx : x ≤ u.length) (hy : y ≤ u.length) (hb60 : u.length ≤ 60) (W : World) (A : Nat → Prop) (bb b off n c : Nat) (hA : A b) (hn : u.length = n) (hnc : n ≤ c) (hc : ∀ j, j < n → W.cell? ⟨b, off + j, none⟩ = some (.int .u8 ((u.getD j 0).toNat : Int))) (hbb : W.cell? ⟨bb, 0, none⟩ = some (.slice (some ⟨b, off, none⟩) n c)) :
    Calls Try.prog 31 #[.int .i64 (x : Int), .int .i64 (y : Int), .pointer (some ⟨bb, 0, none⟩)] W fun e w' => e = .returned (.int .i64 (bcmp (u.drop x) (u.drop y))) ∧ ∃ q, w' = W.drewN q := by
  have h1 := cr_dropI (w := W) (A := A) (x := x) (c := c) hn hc hA (by omega) hnc
  have h2 := cr_dropI (w := W) (A := A) (x := y) (c := c) hn hc hA (by omega) hnc
  have hcon : ∀ k, Calls Try.prog 32 #[.slice (if c = x then some ⟨b, off, none⟩ else some ⟨b, off + x, none⟩) (n - x) (c - x), .slice (if c = y then some ⟨b, off, none⟩ else some ⟨b, off + y, none⟩) (n - y) (c - y)] (W.drewN k) fun e w' => e = .returned (.int .i64 (bcmp (u.drop x) (u.drop y))) ∧ w' = W.drewN k := fun k => by
    rw [← cmp_eq]
    exact bytes_Compare _ _ _ _ _ (bytesOf_bytes (A := A) (h1.mono (fun _ _ => rfl) (fun _ h => h))) (bytesOf_bytes (A := A) (h2.mono (fun _ _ => rfl) (fun _ h => h)))
  clear h1 h2
  rw [hn] at hx hy hb60
  generalize bcmp (u.drop x) (u.drop y) = r at hcon ⊢
  have hx1 : (0 : Int) ≤ (x : Int) := by omega
  have hx2 : (x : Int) ≤ (n : Int) := by omega
  have hy1 : (0 : Int) ≤ (y : Int) := by omega
  have hy2 : (y : Int) ≤ (n : Int) := by omega
  go_enter Try.func31, Try.ntmps31
  go_wp2
  go_quiet (first | (go_at_call 32; refine Calls.quiet_of_same (hcon _)))
  go_wp2
  all_goals first
    | (go_ret; exact ⟨rfl, _, rfl⟩)
    | (go_end0; exact ⟨rfl, _, rfl⟩)
end Go.Proofs.Ytdcdldfleeilnaa
