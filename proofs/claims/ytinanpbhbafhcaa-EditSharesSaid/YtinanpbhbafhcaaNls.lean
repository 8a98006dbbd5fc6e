/-
  A list of bytes that may be nil: a description that is not looked into.
-/
import Derived.Test.YtinanpbhbafhcaaDmX
namespace Go.Proofs.Ytinanpbhbafhcaa
open Go.Dm
set_option linter.unusedSimpArgs false
set_option linter.defProp false

def nls (b : Bool) (l : List UInt8) : D := if b then .sl 1 (u8s l) else .nl
section
variable {b : Bool} {l : List UInt8} {s : S} {τ m : Nat} {ob : Ob} {f : Nat → Nat} {ι : List Nat}
theorem nls_view : s.view (nls b l) = nls b l := by cases b <;> simp [nls, view_nl, view_sl]
theorem nls_owned : (nls b l).owned = false := by cases b <;> simp [nls, owned_nl, owned_sl]
theorem nls_cl : (nls b l).cl = true := by cases b <;> simp [nls, cl_nl, cl_sl]
theorem nls_clo : (nls b l).clo' = true := by cases b <;> simp [nls, clo'_nl, clo'_sl]
theorem nls_kOwn {i o : Nat} {k : S → D → Prop} : kOwn s τ i o ob k (nls b l) = k s (nls b l) := by cases b <;> rfl
theorem nls_one : (nls b l).one = true := by cases b <;> rfl
theorem nls_cells : (nls b l).cells = [nls b l] := by cases b <;> rfl
theorem nls_kill : (nls b l).kill τ = nls b l := by cases b <;> simp [nls, kill_nl, kill_sl]
theorem nls_trim : (nls b l).trim m = nls b l := by cases b <;> simp [nls, trim_nl, trim_sl]
theorem nls_frz : (nls b l).frz τ ob = nls b l := by cases b <;> simp [nls, frz_nl, frz_sl]
theorem nls_keep : (nls b l).keep s = nls b l := by cases b <;> simp [nls, keep_nl, keep_sl]
theorem nls_ren : (nls b l).ren f = nls b l := by cases b <;> simp [nls, ren_nl, ren_sl]
theorem nls_lent : (nls b l).lent s ι = nls b l := by cases b <;> simp [nls, lent_nl, lent_sl]
end
theorem nls_le {b : Bool} {l : List UInt8} (h : b = false → l = []) : (nls b l).Le (.sl 1 (u8s l)) := by
  cases b with
  | true => exact Le_refl _
  | false => rw [h rfl]; exact Le_nl 1
theorem tabD_all1 {n : Nat} {f : Nat → D} (h : ∀ j, j < n → (f j).clo' = true) : (tabD n f).all (fun e => e.all D.clo') = true := tabD_all h
/-- Rows of one cell. -/
theorem Le_rows1 {ds ds' : List D} (hl : ds.length = ds'.length) (h : ∀ i, i < ds.length → (ds.getD i .junk).Le (ds'.getD i .junk)) : (D.sl 1 (ds.map fun d => [d])).Le (.sl 1 (ds'.map fun d => [d])) := fun w A x hx => by
  generalize he : (ds.map fun d => [d]) = es0 at hx
  cases hx with
  | sl0 sz b c =>
    have : ds = [] := by cases ds <;> simp_all
    subst this
    have : ds' = [] := by cases ds' <;> simp_all
    subst this
    exact .sl0 1 _ _
  | sl sz es b off n c us hA hn hcap hsz hc hr =>
    subst he
    have row : ∀ {l : List D} {i : Nat}, i < l.length → (l.map fun d => [d]).getD i [] = [l.getD i .junk] := fun hi => map_getD' (fun d => [d]) _ _ [] .junk hi
    refine .sl 1 _ b off n c us hA (by simpa [← hl] using hn) hcap (fun i hi => ?_) (fun i j hi hj => hc i j (by simpa [hl] using hi) hj) (fun i j hi hj => ?_)
    · rw [row (by simpa using hi)]; rfl
    · have hi' : i < ds'.length := by simpa using hi
      have := hr i j (by simpa [hl] using hi') hj
      rw [row (by omega)] at this
      rw [row hi']
      have hj0 : j = 0 := by omega
      subst hj0
      exact h i (by omega) _ _ _ (by simpa using this)
theorem Le_rows2 {a b a' b' : D} (h : a.Le a') (k : b.Le b') : (D.sl 1 [[a], [b]]).Le (.sl 1 [[a'], [b']]) := Le_rows1 (ds := [a, b]) (ds' := [a', b']) rfl fun i hi => by
  match i, hi with
  | 0, _ => exact h
  | 1, _ => exact k
def vn0 := And.intro @nls_kOwn <| And.intro @Int.add_sub_cancel <| And.intro @nls_view <| And.intro @nls_owned <| And.intro @nls_cl <| And.intro @nls_clo <| And.intro @nls_one <| And.intro @nls_cells <| And.intro @nls_kill <| And.intro @nls_trim <| And.intro @nls_frz <| And.intro @nls_keep <| And.intro @nls_ren @nls_lent
end Go.Proofs.Ytinanpbhbafhcaa
