/-
  More words for proofs: structs inside structs.
-/
import Derived.Test.YtjekkbpdgnohcaaDmX
namespace Go.Dm
set_option linter.unusedSimpArgs false
set_option linter.defProp false
theorem kBldS_ii {cells : List D} {off : Nat} {k k' : IntKind} {a b : Int} {go : List D → Prop} : kBldS off 2 cells go [.v (.int k a), .v (.int k' b)] = ChkD (off + 2 ≤ cells.length) (splice cells off [.v (.int k a), .v (.int k' b)]) go := by
  rw [kBldS_n]; unfold ChkD; simp [D.one, Value.one]
theorem kBldS_is {cells : List D} {off : Nat} {k : IntKind} {a : Int} {sz : Nat} {es : List (List D)} {go : List D → Prop} : kBldS off 2 cells go [.v (.int k a), .sl sz es] = ChkD (off + 2 ≤ cells.length) (splice cells off [.v (.int k a), .sl sz es]) go := by
  rw [kBldS_n]; unfold ChkD; simp [D.one, Value.one]
theorem kBldS_iiis {cells : List D} {off : Nat} {k k' k'' : IntKind} {a b c : Int} {sz : Nat} {es : List (List D)} {go : List D → Prop} : kBldS off 4 cells go [.v (.int k a), .v (.int k' b), .v (.int k'' c), .sl sz es] = ChkD (off + 4 ≤ cells.length) (splice cells off [.v (.int k a), .v (.int k' b), .v (.int k'' c), .sl sz es]) go := by
  rw [kBldS_n]; unfold ChkD; simp [D.one, Value.one]
section
variable {P : Program} {s : S}
theorem fold_kill {σ τ i o : Nat} {fl : Bool} {K : S → Prop} (h : kFold σ τ i o fl K s) : ∃ s', Gho s (D.kill σ) s' ∧ K s' := by
  unfold kFold kM at h
  split at h
  · next ob hM =>
    unfold kFoldA kM at h
    split at h
    · next ob' hM' =>
      obtain ⟨⟨h1, h1', h2, h3, h4, h5, h6, h7⟩, hk⟩ := h
      unfold kFoldC at hk
      split at hk
      · next υ sz off n hc =>
        obtain ⟨rfl, rfl, rfl, k4, k5, k6⟩ := hk
        exact ⟨_, .fold s υ τ i o n fl ob ob' ⟨h1, h1'⟩ hM hM' h2 h3 h4 h5 h6 h7 hc k4 k5, k6⟩
      · exact hk.elim
    · exact h.elim
  · exact h.elim
def callFd (P : Program) (f : FuncId) (d : Option Nat) (K : S → Prop) (σ : Nat) (raws : List D) (s' : S) : Prop := CallVC P f d K (raws.map (D.kill σ)) s'
theorem callFd_eq {f : FuncId} {d : Option Nat} {K : S → Prop} {σ : Nat} {raws : List D} : callFd P f d K σ raws s = kD (raws.map (D.kill σ)) (kCallw P f d K s) := (rfl)
theorem nlo_id {τ i o z : Nat} {K : S → Prop} (h : kNlo τ i o z K s) : ∃ s', Gho s (fun d => d) s' ∧ K s' := by
  unfold kNlo kM at h
  split at h
  · next ob hM =>
    obtain ⟨⟨h1, h2, h3, h4⟩, hk⟩ := h
    exact ⟨_, .nlo s τ i o z ob h1 hM h2 h3 h4, hk⟩
  · exact h.elim
def callNd (P : Program) (f : FuncId) (d : Option Nat) (K : S → Prop) (raws : List D) (s' : S) : Prop := CallVC P f d K (raws.map fun d => d) s'
theorem callNd_eq {f : FuncId} {d : Option Nat} {K : S → Prop} {raws : List D} : callNd P f d K raws s = kD raws (kCallw P f d K s) := by
  unfold callNd; rw [List.map_id']; rfl
theorem CallVC.nlo {f : FuncId} {d : Option Nat} {K : S → Prop} {raws views : List D} {own : Bool} (τ i o z : Nat) (h : kNlo τ i o z (callNd P f d K raws) s) : CallV P f views own raws s d K := fun _ _ => by
  obtain ⟨s', hg, hk⟩ := nlo_id h
  exact .ghost raws s _ _ hg hk
theorem CallVC.fold {f : FuncId} {d : Option Nat} {K : S → Prop} {raws views : List D} {own : Bool} (σ τ i o : Nat) (fl : Bool) (h : kFold σ τ i o fl (callFd P f d K σ raws) s) : CallV P f views own raws s d K := fun _ _ => by
  obtain ⟨s', hg, hk⟩ := fold_kill h
  exact .ghost raws s _ _ hg hk
def finHx (n0 : Nat) (R : D → List (Option Ob) → Prop) (d : D) (s' : S) : Prop := FinH n0 R s' d
theorem finHx_eq {n0 : Nat} {R : D → List (Option Ob) → Prop} {d : D} : finHx n0 R d s = FinH n0 R s d := (rfl)
theorem FinH.fold {n0 : Nat} {R : D → List (Option Ob) → Prop} {d : D} (σ τ i o : Nat) (fl : Bool) (hd : d.kill σ = d) (h : kFold σ τ i o fl (finHx n0 R d) s) : FinH n0 R s d := by
  obtain ⟨s', hg, s'', g, l, h1, h2, h3, h4, h5⟩ := fold_kill h
  refine ⟨s'', _, l, .step _ _ _ _ _ hg h1, h2, h3, h4, ?_⟩
  show R ((g (d.kill σ)).trim l.length) l
  rw [hd]; exact h5
end
def vmr := And.intro @callFd_eq <| And.intro @callNd_eq <| And.intro @finHx_eq <| And.intro @kBldS_ii <| And.intro @kBldS_is @kBldS_iiis
end Go.Dm
