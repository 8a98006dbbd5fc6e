/-
  A logic for Go functions over plain data, part H: names that are turned; an object that is laid anew; what a call or a copy reads.
-/
import Derived.Test.YtdncgpgfnclifaaMg4
set_option linter.unusedSimpArgs false
set_option linter.unusedVariables false
namespace Go.Dm
open Go.RowKit
section
variable {P : Program} {G : Gh} {s : S} {a : Act} {w : World} {A : Nat → Prop} {β : Nat → Option Nat} {γ : Nat → Option (Nat × List Nat)} {o : Oper}
structure NF (f : D → D) (N N' : Nat) (β β' : Nat → Option Nat) : Prop where
  cl : ∀ d, clJ d = true → f d = d
  own : ∀ ow sz es, f (.own ow sz es) = .own ow sz es
  omp : ∀ kd sz es, f (.omp kd sz es) = .omp kd sz es
  ref : ∀ τ sz off n, f (.ref τ sz off n) = .junk ∨ ∃ τ', f (.ref τ sz off n) = .ref τ' sz off n ∧ (τ < N → τ' < N' ∧ β' τ' = β τ)
  ptr : ∀ τ sz i o, f (.ptr τ sz i o) = .junk ∨ ∃ τ', f (.ptr τ sz i o) = .ptr τ' sz i o ∧ (τ < N → τ' < N' ∧ β' τ' = β τ)
  mp : ∀ τ, f (.mp τ) = .junk ∨ ∃ τ', f (.mp τ) = .mp τ' ∧ (τ < N → τ' < N' ∧ β' τ' = β τ)
def ShF (f : D → D) (N : Nat) (β : Nat → Option Nat) (w w' : World) : Prop := ∀ τ sz off n, τ < N → f (.ref τ sz off n) ≠ .junk → ∀ b, β τ = some b → ∀ arr T, w.heap[b]? = some (.cells arr T (0, 0)) → ∃ arr', w'.heap[b]? = some (.cells arr' T (0, 0)) ∧ arr'.size = arr.size
theorem Shp.f {f : D → D} {N : Nat} {w w' : World} (h : Shp w w') : ShF f N β w w' := fun _ _ _ _ _ _ b _ arr T e => h b arr T e
theorem NF.dr {f : D → D} {N N' : Nat} {β β' : Nat → Option Nat} (hf : NF f N N' β β') {w' : World} {A' : Nat → Prop} (hw : ∀ b, A b → w'.heap[b]? = w.heap[b]?) (hA : ∀ b, A b → A' b) (hs : ShF f N β w w') {d : D} {x : Value} (h : DR w A β N d x) : DR w' A' β' N' (d.lf f) x := by
  refine h.lfD (fun d x hd h => ?_)
  cases h with
  | cl d x h =>
    have e : f d = d := hf.cl d (by cases h <;> first | rfl | (simp [D.leaf] at hd))
    rw [e]; exact .cl _ _ (h.mono hw hA)
  | ref τ sz off n c b arr T h1 hb hc hh hr =>
    rcases hf.ref τ sz off n with e | ⟨τ', e, h2⟩
    · rw [e]; exact DR.junk
    · obtain ⟨arr', h1', h2'⟩ := hs τ sz off n h1 (by rw [e]; simp) b hb arr T hh
      rw [e]; exact .ref τ' sz off n c b arr' T (h2 h1).1 (by rw [(h2 h1).2]; exact hb) hc h1' (by rw [h2']; exact hr)
  | refz τ sz off b h1 =>
    rcases hf.ref τ sz off 0 with e | ⟨τ', e, h2⟩
    · rw [e]; exact DR.junk
    · rw [e]; exact .refz τ' sz off b (h2 h1).1
  | ptr τ sz i o b h1 hb =>
    rcases hf.ptr τ sz i o with e | ⟨τ', e, h2⟩
    · rw [e]; exact DR.junk
    · rw [e]; exact .ptr τ' sz i o b (h2 h1).1 (by rw [(h2 h1).2]; exact hb)
  | mp τ b h1 hb =>
    rcases hf.mp τ with e | ⟨τ', e, h2⟩
    · rw [e]; exact DR.junk
    · rw [e]; exact .mp τ' b (h2 h1).1 (by rw [(h2 h1).2]; exact hb)
  | ag | tu | clo => simp [D.leaf] at hd
theorem NF.isOwn {f : D → D} {N N' : Nat} {β β' : Nat → Option Nat} (hf : NF f N N' β β') (d : D) : (d.lf f).isOwn = d.isOwn := by
  cases d with
  | ag ds => rw [lf_ag]; rfl
  | tu ds => rw [lf_tu]; rfl
  | clo g ds => rw [lf_clo]; rfl
  | own ow sz es => rw [lf_leaf rfl, hf.own]
  | omp kd sz es => rw [lf_leaf rfl, hf.omp]
  | v x => rw [lf_leaf rfl, hf.cl _ rfl]
  | nl => rw [lf_leaf rfl, hf.cl _ rfl]
  | sl sz es => rw [lf_leaf rfl, hf.cl _ rfl]
  | ip e o => rw [lf_leaf rfl, hf.cl _ rfl]
  | junk => rw [lf_leaf rfl, hf.cl _ rfl]
  | ref τ sz off n =>
    rw [lf_leaf rfl]
    rcases hf.ref τ sz off n with e | ⟨τ', e, _⟩ <;> rw [e] <;> rfl
  | ptr τ sz i o =>
    rw [lf_leaf rfl]
    rcases hf.ptr τ sz i o with e | ⟨τ', e, _⟩ <;> rw [e] <;> rfl
  | mp τ =>
    rw [lf_leaf rfl]
    rcases hf.mp τ with e | ⟨τ', e, _⟩ <;> rw [e] <;> rfl
theorem NF.own_lf {f : D → D} {N N' : Nat} {β β' : Nat → Option Nat} (hf : NF f N N' β β') {d : D} (h : d.isOwn = true) : d.lf f = d := by
  cases d <;> first | (rw [lf_leaf rfl, hf.own]) | (rw [lf_leaf rfl, hf.omp]) | (simp [D.isOwn] at h)
theorem mapc_row {f : D → D} {ob : Ob} (hf : ob.flat = false) {i : Nat} (hi : i < ob.es.length) : (ob.mapc f).es.getD i [] = (ob.es.getD i []).map f := by
  simp only [Ob.mapc, hf, Bool.false_eq_true, if_false]
  exact map_getD' _ ob.es i [] [] hi
theorem mapc_flat {f : D → D} {ob : Ob} (hf : ob.flat = true) : ob.mapc f = ob := by simp [Ob.mapc, hf]
theorem mapc_len {f : D → D} {ob : Ob} : (ob.mapc f).es.length = ob.es.length := by unfold Ob.mapc; split <;> simp
theorem mapc_sz {f : D → D} {ob : Ob} : (ob.mapc f).sz = ob.sz := by unfold Ob.mapc; split <;> rfl
theorem mapc_fl {f : D → D} {ob : Ob} : (ob.mapc f).flat = ob.flat := by unfold Ob.mapc; split <;> rfl
theorem mapc_ow {f : D → D} {ob : Ob} : (ob.mapc f).ow = ob.ow := by unfold Ob.mapc; split <;> rfl
theorem mapc_kd {f : D → D} {ob : Ob} : (ob.mapc f).kd = ob.kd := by unfold Ob.mapc; split <;> rfl
theorem lf_orOf {f : D → D} {N N' : Nat} {β β' : Nat → Option Nat} {w' : World} {A' : Nat → Prop} {γ' : Nat → Option (Nat × List Nat)} {τ τ' : Nat} {ob : Ob} (hlen : ∀ i, i < ob.es.length → (ob.es.getD i []).length = ob.sz)
    (how : ob.ow = false → ∀ i j, i < ob.es.length → j < ob.sz → ((ob.es.getD i []).getD j .junk).isOwn = false) {b : Nat} {o : Obj} {us : Nat → Nat → Value} (hτ : β' τ' = some b) (hh : w'.heap[b]? = some o) (hH : Holds ob.kd ob.sz ob.es.length o us)
    (hc : ∀ i j, i < ob.es.length → j < ob.sz → CDR ob.flat w A β γ N τ [i * ob.sz + j] ((ob.es.getD i []).getD j .junk) (us i j))
    (hw : ∀ b, A b → w'.heap[b]? = w.heap[b]?) (hA : ∀ b, A b → A' b) (hb : ∀ b π, π ≠ [] → γ b = some (τ, π) → w'.heap[b]? = w.heap[b]? ∧ γ' b = some (τ', π))
    (hdr : ∀ d x, DR w A β N d x → DR w' A' β' N' (d.lf f) x) (hio : ∀ d : D, (d.lf f).isOwn = d.isOwn) (hol : ∀ d : D, d.isOwn = true → d.lf f = d) : OR w' A' β' γ' N' (ob.mapc (D.lf f)) τ' := by
  have oc : ∀ {π : List Nat} {d : D} {x : Value}, π ≠ [] → OC w A γ τ π d x → OC w' A' γ' τ' π d x := fun hp h => OC.move (g := fun π => π) (fun π => π ≠ []) (fun _ _ _ => by simp) (fun _ _ _ => rfl) hb hw hA h hp
  refine ⟨fun i hi => ?_, fun how' i j hi hj => ?_, .inr ⟨b, o, us, hτ, hh, by rw [mapc_kd, mapc_sz, mapc_len]; exact hH, fun i j hi hj => ?_⟩⟩
  · rw [mapc_len] at hi
    rw [mapc_sz]
    cases hfl : ob.flat with
    | true => rw [mapc_flat hfl]; exact hlen i hi
    | false => rw [mapc_row hfl hi, List.length_map]; exact hlen i hi
  · rw [mapc_len] at hi
    rw [mapc_sz] at hj
    rw [mapc_ow] at how'
    cases hfl : ob.flat with
    | true => rw [mapc_flat hfl]; exact how how' i j hi hj
    | false =>
      rw [mapc_row hfl hi, map_getD' _ _ j D.junk D.junk (by rw [hlen i hi]; exact hj), hio]; exact how how' i j hi hj
  · rw [mapc_len] at hi
    rw [mapc_sz] at hj
    obtain ⟨q1, q2, q3⟩ := hc i j hi hj
    rw [mapc_sz]
    cases hfl : ob.flat with
    | true =>
      rw [mapc_flat hfl, hfl]
      have q2' := q2 (.inl hfl)
      exact ⟨fun hno => .cl _ _ ((q2'.toCR hno).mono hw hA), fun _ => oc (by simp) q2', q3⟩
    | false =>
      have e : ((ob.mapc (D.lf f)).es.getD i []).getD j .junk = ((ob.es.getD i []).getD j .junk).lf f := by
        rw [mapc_row hfl hi]; exact map_getD' _ _ j D.junk D.junk (by rw [hlen i hi]; exact hj)
      rw [mapc_fl, hfl, e]
      refine ⟨fun hno => hdr _ _ (q1 (by rw [← hio]; exact hno)), fun hor => ?_, q3⟩
      rcases hor with h' | h'
      · cases h'
      · rw [hio] at h'
        rw [hol _ h']; exact oc (by simp) (q2 (.inr h'))
theorem NF.orOf {f : D → D} {N N' : Nat} {β β' : Nat → Option Nat} (hf : NF f N N' β β') {w' : World} {A' : Nat → Prop} {γ' : Nat → Option (Nat × List Nat)} {τ τ' : Nat} {ob : Ob} (hlen : ∀ i, i < ob.es.length → (ob.es.getD i []).length = ob.sz)
    (how : ob.ow = false → ∀ i j, i < ob.es.length → j < ob.sz → ((ob.es.getD i []).getD j .junk).isOwn = false) {b : Nat} {o : Obj} {us : Nat → Nat → Value} (hτ : β' τ' = some b) (hh : w'.heap[b]? = some o) (hH : Holds ob.kd ob.sz ob.es.length o us)
    (hc : ∀ i j, i < ob.es.length → j < ob.sz → CDR ob.flat w A β γ N τ [i * ob.sz + j] ((ob.es.getD i []).getD j .junk) (us i j))
    (hw : ∀ b, A b → w'.heap[b]? = w.heap[b]?) (hA : ∀ b, A b → A' b) (hs : ShF f N β w w') (hb : ∀ b π, π ≠ [] → γ b = some (τ, π) → w'.heap[b]? = w.heap[b]? ∧ γ' b = some (τ', π)) : OR w' A' β' γ' N' (ob.mapc (D.lf f)) τ' :=
  lf_orOf hlen how hτ hh hH hc hw hA hb (fun _ _ h => hf.dr hw hA hs h) hf.isOwn (fun _ h => hf.own_lf h)
theorem NF.or {f : D → D} {N N' : Nat} {β β' : Nat → Option Nat} (hf : NF f N N' β β') {w' : World} {A' : Nat → Prop} {γ' : Nat → Option (Nat × List Nat)} {τ τ' : Nat} {ob : Ob} (h : OR w A β γ N ob τ) (hτ : β' τ' = β τ)
    (hw : ∀ b, A b → w'.heap[b]? = w.heap[b]?) (hA : ∀ b, A b → A' b) (hs : ShF f N β w w') (hb : ∀ b π, π ≠ [] → γ b = some (τ, π) → w'.heap[b]? = w.heap[b]? ∧ γ' b = some (τ', π))
    (hr : ∀ b, β τ = some b → w'.heap[b]? = w.heap[b]?) : OR w' A' β' γ' N' (ob.mapc (D.lf f)) τ' := by
  rcases h.2.2 with ⟨k1, k2, k3⟩ | ⟨b, o, us, k1, k2, k3, k4⟩
  · have h0 : (ob.mapc (D.lf f)).es = [] := List.eq_nil_of_length_eq_zero (by rw [mapc_len, k2]; rfl)
    exact ⟨fun i hi => by rw [h0] at hi; simp at hi, fun _ i j hi => by rw [h0] at hi; simp at hi, .inl ⟨by rw [hτ]; exact k1, h0, by rw [mapc_kd]; exact k3⟩⟩
  · exact hf.orOf h.1 h.2.1 (by rw [hτ]; exact k1) (by rw [hr b k1]; exact k2) k3 k4 hw hA hs hb
theorem nf_kill {N τ : Nat} {β' : Nat → Option Nat} (hβ : ∀ σ, σ < N → σ ≠ τ → β' σ = β σ) : NF (killL τ) N N β β' := by
  refine ⟨fun d h => by cases d <;> first | rfl | (simp [clJ] at h), fun _ _ _ => rfl, fun _ _ _ => rfl, fun σ sz off n => ?_, fun σ sz i o => ?_, fun σ => ?_⟩
  all_goals
    by_cases e : σ = τ
    · left; simp only [killL, if_pos e]
    · right; exact ⟨σ, by simp only [killL, if_neg e], fun h => ⟨h, hβ σ h e⟩⟩
theorem nf_trim {N m : Nat} : NF (trimL m) N m β β := by
  refine ⟨fun d h => by cases d <;> first | rfl | (simp [clJ] at h), fun _ _ _ => rfl, fun _ _ _ => rfl, fun σ sz off n => ?_, fun σ sz i o => ?_, fun σ => ?_⟩
  all_goals
    by_cases e : σ < m
    · right; exact ⟨σ, by simp only [trimL, if_pos e], fun _ => ⟨e, rfl⟩⟩
    · left; simp only [trimL, if_neg e]
theorem DR.kill {w' : World} {A' : Nat → Prop} {β' : Nat → Option Nat} {N τ : Nat} {d : D} {x : Value} (h : DR w A β N d x) (hw : ∀ b, A b → w'.heap[b]? = w.heap[b]?) (hA : ∀ b, A b → A' b) (hs : Shp w w')
    (hβ : ∀ σ, σ < N → σ ≠ τ → β' σ = β σ) : DR w' A' β' N (d.kill τ) x := (nf_kill hβ).dr hw hA hs.f h
theorem GR.regrow (g : GR G s a w A β γ) {τ : Nat} {ob0 ob' : Ob} (hτ : τ < s.N) (hM : s.M τ = some ob0) (hk0 : ob0.kd.isArr = true) {w' : World} {β' : Nat → Option Nat} {γ' : Nat → Option (Nat × List Nat)}
    (h1 : Bel G.g.O0 G.g.w0 w') (h2 : ∀ b, A b → w'.heap[b]? = w.heap[b]?) (h3 : Shp w w') (h4 : ∀ b σ π, γ b = some (σ, π) → (σ ≠ τ ∨ π ≠ []) → σ < s.N → s.M σ ≠ none → w'.heap[b]? = w.heap[b]?) (h5 : ∀ σ, σ ≠ τ → β' σ = β σ)
    (hγ : ∀ b σ π, γ b = some (σ, π) → σ < s.N → s.M σ ≠ none → γ' b = some (σ, π))
    (hγ' : ∀ b σ π, γ' b = some (σ, π) → γ b = some (σ, π) ∨ (σ = τ ∧ b < w'.heap.size ∧ ¬ A b ∧ (G.g.w0.heap.size ≤ b ∨ G.g.O0 b) ∧ nOth w' b)) (hroot : ∀ b, β' τ = some b → γ' b = some (τ, []))
    (h6 : OR w' A β' γ' s.N ob' τ) (h8 : w.heap.size ≤ w'.heap.size) (hv : Vis w w') : GR G ((s.kill τ).setM τ ob') a w' A β' γ' := by
  have hMn : s.M τ ≠ none := by rw [hM]; simp
  have hβ : ∀ σ, σ < s.N → σ ≠ τ → β' σ = β σ := fun σ _ h => h5 σ h
  have hM' : ∀ σ, ((s.kill τ).setM τ ob').M σ = if σ = τ then some ob' else (s.M σ).map (Ob.mapc (D.kill τ)) := fun σ => rfl
  have live : ∀ σ, ((s.kill τ).setM τ ob').M σ ≠ none → s.M σ ≠ none := fun σ h => by
    rw [hM'] at h
    by_cases e : σ = τ
    · rw [e]; exact hMn
    · rw [if_neg e] at h
      intro e2; rw [e2] at h; exact h rfl
  have hF : ∀ σ, G.g.F σ → σ ≠ τ := by
    rintro σ hF rfl
    have := (g.hr.fixd σ hF).2 ob0 hM
    rw [hk0] at this; cases this
  refine ⟨g.size, Mz.vis g.defers hv, ⟨h1, g.hr.sub, g.hr.up, fun b hb => Nat.lt_of_lt_of_le (g.hr.low b hb) h8, fun σ ob hσ hm => ?_, fun b σ π e1 e2 e3 => ?_, fun σ b e1 e2 e3 => ?_, g.hr.ge, g.hr.flt, fun σ hF' => ?_⟩, fun t => (g.slots t).kill h2 (fun _ h => h) h3 hβ, fun t d ht => (g.keep t d ht).mono h2 (fun _ h => h) (fun τ h => ⟨h, rfl⟩)⟩
  · rw [hM'] at hm
    by_cases e : σ = τ
    · subst e; rw [if_pos rfl] at hm; cases hm; exact h6
    · rw [if_neg e] at hm
      cases hs : s.M σ with
      | none => rw [hs] at hm; cases hm
      | some ob1 =>
        rw [hs] at hm
        simp only [Option.map_some, Option.some.injEq] at hm
        subst hm
        have hl : s.M σ ≠ none := by rw [hs]; simp
        exact (nf_kill hβ).or (g.hr.objs σ ob1 hσ hs) (h5 σ e) h2 (fun _ h => h) h3.f (fun b π hp hb => ⟨h4 b σ π hb (.inl e) hσ hl, hγ b σ π hb hσ hl⟩) (fun b hb => h4 b σ [] (g.hr.root σ b hσ hl hb) (.inl e) hσ hl)
  · rcases hγ' b σ π e1 with h | ⟨rfl, q1, q2, q3⟩
    · obtain ⟨q1, q2, q3, q4⟩ := g.hr.own b σ π h e2 (live σ e3)
      exact ⟨Nat.lt_of_lt_of_le q1 h8, q2, q3, hv.noth q1 q4⟩
    · exact ⟨q1, q2, q3⟩
  · by_cases e : σ = τ
    · subst e; exact hroot b e3
    · rw [h5 σ e] at e3
      exact hγ b σ [] (g.hr.root σ b e1 (live σ e2) e3) e1 (live σ e2)
  · have hne := hF σ hF'
    refine ⟨by rw [h5 σ hne]; exact (g.hr.fixd σ hF').1, fun ob hm => ?_⟩
    rw [hM', if_neg hne] at hm
    cases hs : s.M σ with
    | none => rw [hs] at hm; cases hm
    | some ob1 =>
      rw [hs] at hm
      simp only [Option.map_some, Option.some.injEq] at hm
      subst hm
      rw [mapc_kd]; exact (g.hr.fixd σ hF').2 ob1 hs
theorem un_dr {fl : Bool} {N τ : Nat} {π : List Nat} {d : D} {x : Value} (h : CDR fl w A β γ N τ π d x) : DR w A β N d.un x := by
  cases ho : d.isOwn with
  | true =>
    have : d.un = .junk := by cases d <;> first | rfl | (simp [D.isOwn] at ho)
    rw [this]; exact DR.junk
  | false =>
    have : d.un = d := by cases d <;> first | rfl | (simp [D.isOwn] at ho)
    rw [this]; exact h.1 ho
theorem un_cr {N τ : Nat} {π : List Nat} {d : D} {x : Value} (h : CDR true w A β γ N τ π d x) : CR w A d.un x := by
  cases ho : d.isOwn with
  | true =>
    have : d.un = .junk := by cases d <;> first | rfl | (simp [D.isOwn] at ho)
    rw [this]; exact .junk _
  | false =>
    have : d.un = d := by cases d <;> first | rfl | (simp [D.isOwn] at ho)
    rw [this]
    exact (h.2.1 (.inl rfl)).toCR ho
theorem src_rows (g : GR G s a w A β γ) {y : D} {v : Value} (ev : DR w A β s.N y v) {z : Nat} {ys : List (List D)} {fy : Bool} (hv : s.src y = (.sl z ys, fy)) :
    ∃ (b : Option Addr) (c : Nat) (news : Array Value), v = .slice b ys.length c ∧ news.size = ys.length * z ∧ (∀ w', Same w w' → (Builtin.firstCells z ys.length v).run P w' = .ok news w') ∧
      (∀ i, i < ys.length → (ys.getD i []).length = z) ∧ ∀ i j, i < ys.length → j < z → DR w A β s.N ((ys.getD i []).getD j .junk) (news.getD (i * z + j) undef) ∧ (fy = true → CR w A ((ys.getD i []).getD j .junk) (news.getD (i * z + j) undef)) ∧ (news.getD (i * z + j) undef).oneCell' = true := by
  have mk : ∀ (b off c : Nat) (us : Nat → Value), v = .slice (some ⟨b, off, none⟩) ys.length c → (0 < ys.length * z → b < w.heap.size) → (∀ m, m < ys.length * z → w.cell? ⟨b, off + m, none⟩ = some (us m)) →
      ∀ w', Same w w' → (Builtin.firstCells z ys.length v).run P w' = .ok ((List.range (ys.length * z)).map us).toArray w' := by
    intro b off c us e hb hc w' hs
    subst e
    exact run_loadCells (P := P) w' ⟨b, off, none⟩ (ys.length * z) us (fun j hj => by rw [addr_add, hs.cell (hb (by omega))]; exact hc j hj)
  have get : ∀ (us : Nat → Value) (m : Nat), m < ys.length * z → ((List.range (ys.length * z)).map us).toArray.getD m undef = us m := fun us m hm => by simp [hm]
  have nilcase : ∀ (b : Option Addr) (c : Nat), ys = [] → v = .slice b 0 c → ∃ (b : Option Addr) (c : Nat) (news : Array Value), v = .slice b ys.length c ∧ news.size = ys.length * z ∧ (∀ w', Same w w' → (Builtin.firstCells z ys.length v).run P w' = .ok news w') ∧
      (∀ i, i < ys.length → (ys.getD i []).length = z) ∧ ∀ i j, i < ys.length → j < z → DR w A β s.N ((ys.getD i []).getD j .junk) (news.getD (i * z + j) undef) ∧ (fy = true → CR w A ((ys.getD i []).getD j .junk) (news.getD (i * z + j) undef)) ∧ (news.getD (i * z + j) undef).oneCell' = true := by
    intro b c h1 h2
    subst h1; subst h2
    refine ⟨b, c, #[], rfl, by simp, fun w' _ => ?_, fun i hi => by simp at hi, fun i j hi => by simp at hi⟩
    cases b <;> simp [Builtin.firstCells, loadCells, loadCellsFrom]
  have flat : ∀ m, m < ys.length * z → z ≠ 0 ∧ m / z < ys.length ∧ m % z < z ∧ m / z * z + m % z = m := by
    intro m hm
    have hz : 0 < z := by
      rcases Nat.eq_zero_or_pos z with h | h
      · subst h; simp at hm
      · exact h
    exact ⟨by omega, (Nat.div_lt_iff_lt_mul hz).2 hm, Nat.mod_lt _ hz, by rw [Nat.mul_comm]; exact Nat.div_add_mod m z⟩
  cases y with
  | sl z0 es =>
    simp only [S.src, Prod.mk.injEq, D.sl.injEq] at hv
    obtain ⟨⟨rfl, rfl⟩, rfl⟩ := hv
    cases ev with
    | cl d x h' =>
      cases h' with
      | sl0 sz b c => exact nilcase b c rfl rfl
      | sl sz es b off n c us hA hn hcap hs hc hr =>
        subst hn
        refine ⟨_, c, _, rfl, by simp, mk b off c (fun m => us (m / z0) (m % z0)) rfl (fun _ => g.hr.low b hA) (fun m hm => ?_), hs, fun i j hi hj => ?_⟩
        · obtain ⟨f1, f2, f3, f4⟩ := flat m hm
          have := (hc (m / z0) (m % z0) f2 f3).1
          rw [f4] at this; exact this
        · rw [get _ _ (in_row hi hj)]
          have e1 : (i * z0 + j) / z0 = i := by rw [Nat.mul_comm, Nat.mul_add_div (by omega), Nat.div_eq_of_lt hj, Nat.add_zero]
          have e2 : (i * z0 + j) % z0 = j := by rw [Nat.mul_comm, Nat.mul_add_mod]; exact Nat.mod_eq_of_lt hj
          rw [e1, e2]; exact ⟨.cl _ _ (hr i j hi hj), fun _ => hr i j hi hj, (hc i j hi hj).2⟩
  | ref τ sz off n =>
    simp only [S.src, srcO] at hv
    split at hv
    · next ob hM =>
      split at hv
      · next hc =>
        obtain ⟨hkm, rfl, hle⟩ := hc
        simp only [Prod.mk.injEq, D.sl.injEq] at hv
        obtain ⟨⟨rfl, rfl⟩, rfl⟩ := hv
        have hel : (if ob.ow = true then ob.es.map fun e => e.map D.un else ob.es).length = ob.es.length := by split <;> simp
        have hyl : (((if ob.ow = true then ob.es.map fun e => e.map D.un else ob.es).drop off).take n).length = n := by rw [List.length_take, List.length_drop, hel]; omega
        cases ev with
        | cl d x h' => cases h'
        | ref τ sz off n c b arr T hN hb hc hh hr =>
          obtain ⟨arr', T', hh', hl, hro⟩ := g.hr.cells hN hM hkm hb
          have he := (g.hr.objs τ ob hN hM).1
          have how := (g.hr.objs τ ob hN hM).2.1
          rw [hh] at hh'; cases hh'
          have hmul : (off + n) * ob.sz ≤ ob.es.length * ob.sz := Nat.mul_le_mul_right _ hle
          rw [Nat.add_mul] at hmul
          have hgetys : ∀ i, i < n → ((((if ob.ow = true then ob.es.map fun e => e.map D.un else ob.es).drop off).take n).getD i []) = if ob.ow = true then (ob.es.getD (off + i) []).map D.un else ob.es.getD (off + i) [] := by
            intro i hi
            simp only [List.getD_eq_getElem?_getD, List.getElem?_take, hi, if_true, List.getElem?_drop]
            split
            · have : off + i < ob.es.length := by omega
              simp [this]
            · rfl
          obtain ⟨hbl, _⟩ := Array.getElem?_eq_some_iff.1 hh
          refine ⟨some ⟨b, off * ob.sz, none⟩, c, _, by rw [hyl], by simp, mk b (off * ob.sz) c (fun m => arr.getD (off * ob.sz + m) undef) (by rw [hyl]) (fun _ => hbl) (fun m hm => ?_), fun i hi => ?_, fun i j hi hj => ?_⟩
          · rw [hyl] at hm
            have hlt : off * ob.sz + m < arr.size := by omega
            simp only [World.cell?, hh]
            simp [hlt]
          · rw [hyl] at hi; rw [hgetys i hi]
            split
            · rw [List.length_map]; exact he _ (by omega)
            · exact he _ (by omega)
          · rw [hyl] at hi
            have hir : i * ob.sz + j < (((if ob.ow = true then ob.es.map fun e => e.map D.un else ob.es).drop off).take n).length * ob.sz := by rw [hyl]; exact in_row hi hj
            rw [get _ _ hir, hgetys i hi]
            have hq := hro (off + i) j (by omega) hj
            rw [Nat.add_mul, Nat.add_assoc] at hq
            split
            · next hw =>
              rw [map_getD' D.un _ j .junk .junk (by rw [he _ (by omega)]; exact hj)]
              exact ⟨un_dr hq, fun hf => by rw [hf] at hq; exact un_cr hq, hq.2.2⟩
            · next hw =>
              have hno := how (by simpa using hw) (off + i) j (by omega) hj
              refine ⟨hq.1 hno, fun hf => ?_, hq.2.2⟩
              rw [hf] at hq
              have := un_cr hq
              have e : ((ob.es.getD (off + i) []).getD j .junk).un = (ob.es.getD (off + i) []).getD j .junk := by
                generalize (ob.es.getD (off + i) []).getD j .junk = d at hno
                cases d <;> first | rfl | (simp [D.isOwn] at hno)
              rw [e] at this; exact this
        | refz τ sz off b hN => exact nilcase b 0 (by simp) rfl
      · cases hv
    · cases hv
  | v | nl | ip | junk | ag | ptr | tu | clo | mp | own | omp => simp [S.src] at hv
end
end Go.Dm
