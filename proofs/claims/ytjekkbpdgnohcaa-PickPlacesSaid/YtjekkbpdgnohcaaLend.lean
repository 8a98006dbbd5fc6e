/-
  Calls that are lent objects, in a form that is evaluated.
-/
import Derived.Test.YtjekkbpdgnohcaaDmX
namespace Go.Dm
set_option linter.unusedSimpArgs false
set_option linter.defProp false
def ltAll : List Nat → Nat → Prop
  | [], _ => True
  | x :: r, N => x < N ∧ ltAll r N
theorem ltAll_nil {N : Nat} : ltAll [] N = True := (rfl)
theorem ltAll_cons {x N : Nat} {r : List Nat} : ltAll (x :: r) N = (x < N ∧ ltAll r N) := (rfl)
theorem ltAll_spec {N : Nat} : ∀ {l : List Nat}, ltAll l N → ∀ x, x ∈ l → x < N
  | y :: r, h, x, hx => by
    rcases List.mem_cons.1 hx with rfl | hx
    · exact h.1
    · exact ltAll_spec h.2 x hx
def lentM (s : S) (ι : List Nat) : List Nat → List Ob → Prop
  | [], _ => True
  | _, [] => True
  | x :: r, ob :: q => s.M x = some (ob.ren (iotaO ι s.N)) ∧ lentM s ι r q
theorem lentM_nil {s : S} {ι : List Nat} {q : List Ob} : lentM s ι [] q = True := (rfl)
theorem lentM_cons {s : S} {ι : List Nat} {x : Nat} {r : List Nat} {ob : Ob} {q : List Ob} : lentM s ι (x :: r) (ob :: q) = (s.M x = some (ob.ren (iotaO ι s.N)) ∧ lentM s ι r q) := (rfl)
theorem lentM_spec {s : S} {ι : List Nat} : ∀ {l : List Nat} {q : List Ob}, l.length = q.length → lentM s ι l q → ∀ k ob, q[k]? = some ob → s.M (l.getD k 0) = some (ob.ren (iotaO ι s.N))
  | [], [], _, _, k, ob, h => by simp at h
  | [], _ :: _, hl, _, _, _, _ => by simp at hl
  | _ :: _, [], hl, _, _, _, _ => by simp at hl
  | x :: r, o :: q, hl, hm, k, ob, h => by
    cases k with
    | zero => simp at h; subst h; exact hm.1
    | succ k => simpa using lentM_spec (by simpa using hl) hm.2 k ob (by simpa using h)
theorem CallVC.lendE {P : Program} {f : FuncId} {views raws : List D} {own : Bool} {s : S} {d : Option Nat} {K : S → Prop} (ι : List Nat) (ds : List D) (obs : List Ob) {R : D → List (Option Ob) → Prop} (h : SpecH P f ds obs R) (hn : ι.Nodup) (hl : ι.length = obs.length)
    (hq : ltAll ι s.N ∧ raws = ds.map (D.ren (iotaO ι s.N)) ∧ lentM s ι ι obs) (hk : ∀ r l, R r l → K ((s.after ι l).put d (r.ren (iotaO ι s.N)))) : CallV P f views own raws s d K :=
  CallVC.lend ι ds obs h hn (ltAll_spec hq.1) hl hq.2.1 (lentM_spec hl hq.2.2) hk
def vle0 := And.intro @ltAll_nil <| And.intro @ltAll_cons <| And.intro @lentM_nil @lentM_cons
end Go.Dm
