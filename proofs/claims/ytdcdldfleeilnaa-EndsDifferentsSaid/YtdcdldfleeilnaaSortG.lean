/-
  slices.SortFunc on the ends of a word: a contract on descriptions.
-/
import Derived.Test.YtdcdldfleeilnaaSortF
namespace Go.Proofs.Ytdcdldfleeilnaa
open Go.RowKit Go.Dm Go.Lib
set_option linter.unusedSimpArgs false
set_option linter.unnecessarySimpa false
set_option linter.unusedVariables false
theorem HR.resetW {G : Gw} {w : World} {A : Nat → Prop} {β : Nat → Option Nat} {γ : Nat → Option (Nat × List Nat)} {N : Nat} {M : Nat → Option Ob} (g : HR G w A β γ N M) {τ b : Nat} {ob ob' : Ob} (hτ : τ < N) (hM : M τ = some ob) (hkd : ob'.kd = ob.kd) (hk : ob.kd.isMap = false) (hβ : β τ = some b) {arr arr' : Array Value} {T : TypeId} (hh : w.heap[b]? = some (.cells arr T (0, 0))) (hs : arr'.size = arr.size)
    (hl : ob'.es.length * ob'.sz ≤ arr.size) (he : ∀ i, i < ob'.es.length → (ob'.es.getD i []).length = ob'.sz) (how : ob'.ow = false → ∀ i j, i < ob'.es.length → j < ob'.sz → ((ob'.es.getD i []).getD j .junk).isOwn = false)
    (hr : ∀ i j, i < ob'.es.length → j < ob'.sz → CDR ob'.flat w A β γ N τ [i * ob'.sz + j] ((ob'.es.getD i []).getD j .junk) (arr'.getD (i * ob'.sz + j) undef)) : HR G (w.setRow b arr') A β γ N (fun σ => if σ = τ then some ob' else M σ) := by
  have hMn : M τ ≠ none := by rw [hM]; simp
  have hroot := g.root τ b hτ hMn hβ
  obtain ⟨_, hbA, hbO, _⟩ := g.own b τ [] hroot hτ hMn
  have hvis : Vis w (w.setRow b arr') := Vis.cells hh (setRow_heap w b arr arr' T (0, 0) hh) (fun c e => setRow_other w b c arr' e)
  have hA : ∀ c, A c → (w.setRow b arr').heap[c]? = w.heap[c]? := fun c hc => setRow_other w b c arr' (fun e => hbA (e ▸ hc))
  have hsh := Shp.setRow hh hs
  have hMs : ∀ σ, (fun σ => if σ = τ then some ob' else M σ) σ = if σ = τ then some ob' else M σ := fun _ => rfl
  have live : ∀ σ, (fun σ => if σ = τ then some ob' else M σ) σ ≠ none → M σ ≠ none := fun σ h => by
    rw [hMs] at h
    by_cases e : σ = τ
    · rw [e]; exact hMn
    · rwa [if_neg e] at h
  have hown : ∀ σ c π, π ≠ [] → γ c = some (σ, π) → (w.setRow b arr').heap[c]? = w.heap[c]? ∧ γ c = some (σ, π) := fun σ c π hp hc => ⟨setRow_other w b c arr' (fun e => by
    rw [e, hroot] at hc; simp only [Option.some.injEq, Prod.mk.injEq] at hc; exact hp hc.2.symm), hc⟩
  refine ⟨Bel.setRow g.below hbO arr' hsh, g.sub, g.up, fun c hc => by rw [setRow_size]; exact g.low c hc, fun σ ob hσ hm => ?_, fun c σ π h1 h2 h3 => let q := g.own c σ π h1 h2 (live σ h3); ⟨by rw [setRow_size]; exact q.1, q.2.1, q.2.2.1, hvis.noth q.1 q.2.2.2⟩, fun σ c h1 h2 h3 => g.root σ c h1 (live σ h2) h3, g.ge, g.flt, fun σ hF => ⟨(g.fixd σ hF).1, fun ob hm => ?_⟩⟩
  · (try rw [hMs] at hm)
    by_cases e : σ = τ
    · subst e
      rw [if_pos rfl] at hm; cases hm
      refine ⟨he, how, .inr ⟨b, _, fun i j => arr'.getD (i * ob'.sz + j) undef, hβ, setRow_heap w b arr arr' T (0, 0) hh, ?_, fun i j hi hj => (hr i j hi hj).mono (by simp) hA (fun _ h => h) hsh (Nat.le_refl _) (fun _ _ => rfl) (hown σ)⟩⟩
      rw [hkd]
      cases hkd2 : ob.kd with
      | map k ka va => rw [hkd2] at hk; cases hk
      | arr => exact ⟨arr', T, rfl, by omega, fun _ _ _ _ => rfl⟩
      | fix => exact ⟨arr', T, rfl, by omega, fun _ _ _ _ => rfl⟩
    · rw [if_neg e] at hm
      refine (g.objs σ ob hσ hm).mono hσ hA (fun _ h => h) hsh (Nat.le_refl _) (fun _ _ => rfl) (hown σ) (fun c hc => setRow_other w b c arr' ?_)
      rintro rfl
      have := g.root σ c hσ (by rw [hm]; simp) hc
      rw [hroot] at this; simp only [Option.some.injEq, Prod.mk.injEq] at this
      exact e this.1.symm
  · (try rw [hMs] at hm)
    by_cases e : σ = τ
    · subst e; rw [if_pos rfl] at hm; cases hm
      rw [hkd]; exact (g.fixd σ hF).2 _ hM
    · rw [if_neg e] at hm; exact (g.fixd σ hF).2 ob hm
theorem swo_ends (u : List UInt8) : Go.Sort.SWO (ltOf fun x y : Nat => bcmp (u.drop x) (u.drop y)) where
  irrefl x := by unfold ltOf; show decide (bcmp (u.drop x) (u.drop x) < 0) = false; rw [bcmp_self]; rfl
  trans x y z h1 h2 := by
    unfold ltOf at *
    exact decide_eq_true (bcmp_lt_trans (of_decide_eq_true h1) (of_decide_eq_true h2))
  ntrans x y z h1 h2 := by
    unfold ltOf at *
    exact decide_eq_false (bcmp_ge_trans (of_decide_eq_false h1) (of_decide_eq_false h2))
theorem drop_min {u : List UInt8} {x n : Nat} (h : u.length = n) : u.drop (min x n) = u.drop x := by
  by_cases e : x ≤ n
  · rw [Nat.min_eq_left e]
  · rw [Nat.min_eq_right (by omega), List.drop_of_length_le (by omega), List.drop_of_length_le (by omega)]
def natI (l : List Nat) : List Int := l.map fun i : Nat => (i : Int)
theorem natI_len {l : List Nat} : (natI l).length = l.length := by simp [natI]
theorem natI_get {l : List Nat} {i : Nat} (h : i < l.length) : (natI l).getD i 0 = ((l.getD i 0 : Nat) : Int) := by simp [natI, List.getD, h]
theorem ordOk_of {u : List UInt8} {d' : Array Nat} (hp : Go.Sort.PermIn 0 (List.range u.length).toArray.size (List.range u.length).toArray d') (hs : Go.Sort.SortedIn (ltOf fun x y : Nat => bcmp (u.drop x) (u.drop y)) 0 (List.range u.length).toArray.size d') : OrdOk u d'.toList := by
  obtain ⟨h1, _, h3⟩ := hp
  have e1 : d'.extract 0 (List.range u.length).toArray.size = d' := by rw [← h1]; simp
  rw [e1] at h3
  have h4 : d'.toList.Perm (List.range u.length) := by simpa using h3
  refine ⟨h4, fun i j hij hj => ?_⟩
  have := hs i j (Nat.zero_le _) hij (by rw [← h1]; simpa using hj)
  have hj' : j < d'.size := by simpa using hj
  have hi' : i < d'.size := by omega
  rw [getElem!_pos d' j hj', getElem!_pos d' i hi'] at this
  have e2 : d'.toList.getD j 0 = d'[j] := by simp [List.getD, hj']
  have e3 : d'.toList.getD i 0 = d'[i] := by simp [List.getD, hi']
  rw [e2, e3]
  exact this
end Go.Proofs.Ytdcdldfleeilnaa
