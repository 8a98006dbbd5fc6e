/-
  Kinds of words: what is reached; the least machine does as the machine does (plain).
-/
import Derived.Test.YtbbpmodfbdibcaaDoes
import Derived.Test.YtbbpmodfbdibcaaChain
namespace Go.Proofs.Ytbbpmodfbdibcaa
open Go.Dm
set_option linter.unusedSimpArgs false
set_option linter.unnecessarySimpa false
set_option linter.unusedVariables false

/-- What some word leads to. -/
inductive Rch (m : Dm.Machine) (K t0 : Nat) : Nat → Prop
  | start : Rch m K t0 t0
  | step {i s : Nat} (h : Rch m K t0 i) (hs : s < K) : Rch m K t0 (nx m i s)
section
variable {m : Dm.Machine} {K t0 N : Nat} {f : Nat → Bool}
theorem cmS_sound {i s : Nat} (hf : ∀ j, f j = true → Rch m K t0 j) (hs : s < K) : ∀ j, cmS m f i s j = true → Rch m K t0 j := by
  intro j h
  unfold cmS at h
  split at h
  · rename_i e
    rw [Bool.or_eq_true] at h
    rcases h with h | h
    · rw [e]; exact hf _ h
    · rw [e]; exact .step (hf _ h) hs
  · exact hf _ h
theorem cmI_sound {i : Nat} (hf : ∀ j, f j = true → Rch m K t0 j) : ∀ {s : Nat}, s ≤ K → ∀ j, cmI m f i s j = true → Rch m K t0 j
  | 0, _ => hf
  | s + 1, h => cmS_sound (cmI_sound hf (by omega)) (by omega)
theorem cmT_sound (hf : ∀ j, f j = true → Rch m K t0 j) : ∀ {i : Nat}, ∀ j, cmT m K f i j = true → Rch m K t0 j
  | 0 => hf
  | i + 1 => cmI_sound (cmT_sound hf) (Nat.le_refl K)
theorem cmA_sound : ∀ {q : Nat}, ∀ j, cmA m N K t0 q j = true → Rch m K t0 j
  | 0 => fun j h => by
    have : j = t0 := of_decide_eq_true h
    rw [this]; exact .start
  | q + 1 => cmT_sound cmA_sound
theorem cmS_mono {i s j : Nat} (h : f j = true) : cmS m f i s j = true := by
  unfold cmS
  split
  · rename_i e; rw [← e, h]; rfl
  · exact h
theorem cmS_hit {i s : Nat} (h : f i = true) : cmS m f i s (nx m i s) = true := by
  unfold cmS; rw [if_pos rfl, h, Bool.or_true]
theorem cmI_mono {i j : Nat} (h : f j = true) : ∀ {s : Nat}, cmI m f i s j = true
  | 0 => h
  | s + 1 => cmS_mono (cmI_mono h)
theorem cmI_hit {i t : Nat} (h : f i = true) : ∀ {s : Nat}, t < s → cmI m f i s (nx m i t) = true
  | s + 1, ht => by
    by_cases e : t = s
    · subst e; exact cmS_hit (cmI_mono h)
    · exact cmS_mono (cmI_hit h (by omega))
theorem cmT_mono {j : Nat} (h : f j = true) : ∀ {i : Nat}, cmT m K f i j = true
  | 0 => h
  | i + 1 => cmI_mono (cmT_mono h)
theorem cmT_hit {i t : Nat} (h : f i = true) (ht : t < K) : ∀ {n : Nat}, i < n → cmT m K f n (nx m i t) = true
  | n + 1, hi => by
    by_cases e : i = n
    · subst e; exact cmI_hit (cmT_mono h) ht
    · exact cmI_mono (cmT_hit h ht (by omega))
theorem cmI_congr {g : Nat → Bool} {i : Nat} (hn : ∀ s, nx m i s < N) (hi : i < N) (h : ∀ x, x < N → f x = g x) : ∀ {s : Nat}, ∀ x, x < N → cmI m f i s x = cmI m g i s x
  | 0 => h
  | s + 1 => fun x hx => by
    have ih := cmI_congr hn hi h (s := s)
    show cmS m (cmI m f i s) i s x = cmS m (cmI m g i s) i s x
    unfold cmS
    rw [ih _ hx, ih _ (hn s), ih _ hi]
theorem cmT_congr {g : Nat → Bool} (hn : ∀ i s, i < N → nx m i s < N) (h : ∀ x, x < N → f x = g x) : ∀ {i : Nat}, i ≤ N → ∀ x, x < N → cmT m K f i x = cmT m K g i x
  | 0, _ => h
  | i + 1, hi => cmI_congr (fun s => hn i s (by omega)) (by omega) (cmT_congr hn h (by omega))
theorem cmA_iff (hv : WM m) (hN : m.n = N) (h0 : t0 < N) {i : Nat} (hi : i < N) : cmA m N K t0 N i = true ↔ Rch m K t0 i := by
  have hn : ∀ i s, i < N → nx m i s < N := fun i s h => by have := nx_lt hv (i := i) s (by omega); omega
  have hst : ∀ x, x < N → cmA m N K t0 (N + 1) x = cmA m N K t0 N x := fun x hx =>
    chain_still (cmA m N K t0) (fun f => cmT m K f N) (fun a b h => cmT_congr hn h (Nat.le_refl _)) (fun k x => rfl) (fun k x h => cmT_mono h) x hx (N + 1) (by omega)
  constructor
  · exact cmA_sound i
  · intro h
    have aux : ∀ j, Rch m K t0 j → j < N ∧ cmA m N K t0 N j = true := by
      intro j hj
      induction hj with
      | start =>
        refine ⟨h0, ?_⟩
        have : ∀ q, cmA m N K t0 q t0 = true := by
          intro q
          induction q with
          | zero => exact decide_eq_true rfl
          | succ q ih => exact cmT_mono ih
        exact this N
      | step h hs ih =>
        refine ⟨hn _ _ ih.1, ?_⟩
        rw [← hst _ (hn _ _ ih.1)]
        exact cmT_hit ih.2 hs ih.1
    exact (aux i h).2
theorem dst_tri {i j k : Nat} (h : Dst m i k) : Dst m i j ∨ Dst m j k := let ⟨n, h⟩ := h; (dn_tri (j := j) h).imp (fun h => ⟨n, h⟩) (fun h => ⟨n, h⟩)
theorem dst_symm {i k : Nat} (h : Dst m i k) : Dst m k i := let ⟨n, h⟩ := h; ⟨n, dn_symm h⟩
theorem lo_congr {i j : Nat} (h : ¬ Dst m i j) : lo m i = lo m j :=
  lo_eq (fun e => (dst_tri (j := j) e).elim h lo_not) fun x hx => (dst_tri (j := i) (lo_lt hx)).elim (fun e => absurd (dst_symm e) h) id
theorem lo_nx {i s : Nat} (hs : s < m.k.toNat) : lo m (nx m (lo m i) s) = lo m (nx m i s) :=
  (lo_congr fun e => lo_not (dst_sym hs e)).symm
theorem lo_lo {i : Nat} : lo m (lo m i) = lo m i := (lo_congr lo_not).symm
end
/-! ### Lists that grow -/
section
variable {f : Nat → Nat} {l : List Nat}
theorem ins_pre {x : Nat} : l <+: ins l x := by
  unfold ins; split
  · exact List.prefix_refl _
  · exact List.prefix_append _ _
theorem ins_has {x : Nat} : x ∈ ins l x := by
  unfold ins; split
  · assumption
  · simp
theorem addG_pre : ∀ {s t : Nat}, s ≤ t → addG f s l <+: addG f t l := by
  intro s t h
  induction h with
  | refl => exact List.prefix_refl _
  | step _ ih => exact ih.trans ins_pre
theorem pre_get {l r : List Nat} {i : Nat} (h : l <+: r) (hi : i < l.length) : r.getD i 0 = l.getD i 0 := by
  obtain ⟨t, rfl⟩ := h
  simp [List.getD, List.getElem?_append_left hi]
theorem pre_idx {l r : List Nat} {x : Nat} (h : l <+: r) (hx : x ∈ l) : r.idxOf x = l.idxOf x := by
  obtain ⟨t, rfl⟩ := h
  rw [List.idxOf_append, if_pos hx]
theorem ins_idx {x : Nat} : (ins l x).idxOf x = l.idxOf x := by
  unfold ins; split
  · rfl
  · rename_i h
    rw [List.idxOf_append, if_neg h, List.idxOf_eq_length h]; simp
end
section
variable {f : Nat → Nat → Nat} {k x0 N : Nat}
theorem setG_pre : ∀ {i j : Nat}, i ≤ j → setG f k x0 i <+: setG f k x0 j := by
  intro i j h
  induction h with
  | refl => exact List.prefix_refl _
  | step _ ih => exact ih.trans (addG_pre (Nat.zero_le _))
theorem goG_end (hl : ∀ i, (setG f k x0 i).length ≤ N) : ∀ {q i : Nat}, i ≤ (setG f k x0 i).length → N < i + q → goG f k x0 q i = (setG f k x0 (goG f k x0 q i)).length ∧ ∀ j, i ≤ j → j < goG f k x0 q i → j < (setG f k x0 j).length
  | 0, i, h1, h2 => by have := hl i; omega
  | q + 1, i, h1, h2 => by
    by_cases h : i < (setG f k x0 i).length
    · have hp := (setG_pre (f := f) (k := k) (x0 := x0) (i := i) (j := i + 1) (by omega)).length_le
      have ih := goG_end hl (q := q) (i := i + 1) (by omega) (by omega)
      rw [goG, if_pos h]
      refine ⟨ih.1, fun j hj hj2 => ?_⟩
      by_cases e : j = i
      · subst e; exact h
      · exact ih.2 j (by omega) hj2
    · rw [goG, if_neg h]
      exact ⟨by omega, fun j hj hj2 => by omega⟩
theorem addG_all {P : Nat → Prop} {f : Nat → Nat} {l : List Nat} (h : ∀ x, x ∈ l → P x) : ∀ {s : Nat}, (∀ t, t < s → P (f t)) → ∀ x, x ∈ addG f s l → P x
  | 0, _ => h
  | s + 1, hf => fun x hx => by
    rw [addG] at hx
    rcases ins_mem hx with h1 | h1
    · exact addG_all h (fun t ht => hf t (by omega)) x h1
    · rw [h1]; exact hf s (by omega)
theorem setG_all {P : Nat → Prop} (h0 : P x0) (hf : ∀ x s, P x → s < k → P (f x s)) : ∀ {i : Nat}, (∀ j, j < i → j < (setG f k x0 j).length) → ∀ x, x ∈ setG f k x0 i → P x
  | 0, _ => fun x hx => by
    have : x = x0 := by simpa [setG] using hx
    rw [this]; exact h0
  | i + 1, hl => by
    have ih := setG_all h0 hf (i := i) fun j hj => hl j (by omega)
    exact addG_all ih fun t ht => hf _ _ (ih _ (getD_mem' (hl i (by omega)))) ht
theorem setG_step {q g s : Nat} (hq : q < g) (hl : q < (setG f k x0 q).length) (hs : s < k) : f ((setG f k x0 g).getD q 0) s ∈ setG f k x0 g ∧ rowG (f ((setG f k x0 q).getD q 0)) (setG f k x0 q) s = ((setG f k x0 g).idxOf (f ((setG f k x0 g).getD q 0) s) : Nat) := by
  have e1 := pre_get (setG_pre (f := f) (k := k) (x0 := x0) (i := q) (j := g) (by omega)) hl
  have p2 : addG (f ((setG f k x0 q).getD q 0)) (s + 1) (setG f k x0 q) <+: setG f k x0 g :=
    (addG_pre (by omega)).trans (setG_pre (f := f) (k := k) (x0 := x0) (i := q + 1) (j := g) (by omega))
  have hin : f ((setG f k x0 q).getD q 0) s ∈ addG (f ((setG f k x0 q).getD q 0)) (s + 1) (setG f k x0 q) := ins_has
  rw [e1]
  refine ⟨p2.subset hin, ?_⟩
  unfold rowG
  rw [pre_idx p2 hin]
  show _ = (((ins (addG (f ((setG f k x0 q).getD q 0)) s (setG f k x0 q)) _).idxOf _ : Nat) : Int)
  rw [ins_idx]
theorem rowsG_get : ∀ {i q : Nat}, q < i → (rowsG f k x0 i).getD q [] = tab k (rowG (f ((setG f k x0 q).getD q 0)) (setG f k x0 q))
  | i + 1, q, h => by
    rw [rowsG]
    by_cases e : q = i
    · subst e
      have := @rowsG_len f k x0 q
      simp [List.getD, List.getElem?_append_right, this]
    · have h2 := @rowsG_len f k x0 i
      have := rowsG_get (i := i) (q := q) (by omega)
      simp only [List.getD] at this ⊢
      rw [List.getElem?_append_left (by omega)]; exact this
end
/-! ### The least machine -/
section
variable {m : Dm.Machine} {N K t0 : Nat}
noncomputable def lsG (m : Dm.Machine) (K t0 : Nat) : List Nat := lset m K t0 (lgo m K t0 8 0)
noncomputable def lsM (m : Dm.Machine) (K t0 : Nat) : Dm.Machine := leastM m K t0 (lgo m K t0 8 0)
theorem lsG_end (hv : WM m) (hN : m.n = N) (hN7 : N ≤ 7) (h0 : t0 < N) : lgo m K t0 8 0 = (lsG m K t0).length ∧ (lsG m K t0).length ≤ N ∧ 0 < (lsG m K t0).length ∧ ∀ j, j < lgo m K t0 8 0 → j < (lset m K t0 j).length := by
  have h := goG_end (f := lf m) (k := K) (x0 := lo m t0) (N := N) (fun i => lset_le hv (K := K) hN h0 (i := i)) (q := 8) (i := 0) (Nat.zero_le _) (by omega)
  refine ⟨h.1, lset_le hv hN h0, ?_, fun j hj => h.2 j (Nat.zero_le _) hj⟩
  have := (setG_pre (f := lf m) (k := K) (x0 := lo m t0) (i := 0) (j := lgo m K t0 8 0) (Nat.zero_le _)).length_le
  simp only [setG, List.length_singleton] at this
  exact this
theorem lsG_mem (hv : WM m) (hN : m.n = N) (hN7 : N ≤ 7) (h0 : t0 < N) (hK : m.k = K) {x : Nat} : x ∈ lsG m K t0 ↔ ∃ i, Rch m K t0 i ∧ x = lo m i := by
  have he := lsG_end (K := K) hv hN hN7 h0
  constructor
  · refine setG_all (P := fun x => ∃ i, Rch m K t0 i ∧ x = lo m i) ⟨t0, .start, rfl⟩ ?_ he.2.2.2 x
    rintro _ s ⟨i, hi, rfl⟩ hs
    exact ⟨nx m i s, .step hi hs, lo_nx (by omega)⟩
  · rintro ⟨i, hi, rfl⟩
    induction hi with
    | start => exact (setG_pre (f := lf m) (k := K) (x0 := lo m t0) (i := 0) (j := lgo m K t0 8 0) (Nat.zero_le _)).subset (by simp [setG])
    | @step i s h hs ih =>
      obtain ⟨q, hq, e⟩ := List.getElem_of_mem ih
      have hq2 : q < lgo m K t0 8 0 := by rw [he.1]; exact hq
      have := (setG_step (f := lf m) (x0 := lo m t0) hq2 (he.2.2.2 q hq2) hs).1
      have e2 : (setG (lf m) K (lo m t0) (lgo m K t0 8 0)).getD q 0 = lo m i := by
        have : (lsG m K t0).getD q 0 = lo m i := by simp [List.getD, hq, e]
        exact this
      rw [e2] at this
      have e3 : lf m (lo m i) s = lo m (nx m i s) := lo_nx (by omega)
      rw [e3] at this
      exact this
theorem lsM_nx (hv : WM m) (hN : m.n = N) (hN7 : N ≤ 7) (h0 : t0 < N) (hK : m.k = K) {i s : Nat} (hi : Rch m K t0 i) (hs : s < K) : nx (lsM m K t0) ((lsG m K t0).idxOf (lo m i)) s = (lsG m K t0).idxOf (lo m (nx m i s)) := by
  have he := lsG_end (K := K) hv hN hN7 h0
  have hin := (lsG_mem hv hN hN7 h0 hK).mpr ⟨i, hi, rfl⟩
  have hq : (lsG m K t0).idxOf (lo m i) < (lsG m K t0).length := List.idxOf_lt_length_iff.mpr hin
  have hq2 : (lsG m K t0).idxOf (lo m i) < lgo m K t0 8 0 := by rw [he.1]; exact hq
  have e2 : (setG (lf m) K (lo m t0) (lgo m K t0 8 0)).getD ((lsG m K t0).idxOf (lo m i)) 0 = lo m i := by
    show (lsG m K t0).getD ((lsG m K t0).idxOf (lo m i)) 0 = lo m i
    simp [List.getD, hq]
  have h3 := (setG_step (f := lf m) (x0 := lo m t0) hq2 (he.2.2.2 _ hq2) hs).2
  have e3 : lf m (lo m i) s = lo m (nx m i s) := lo_nx (by omega)
  rw [e2, e3] at h3
  unfold nx
  show (((lrow m K t0 (lgo m K t0 8 0)).getD _ []).getD s 0).toNat = _
  unfold lrow
  rw [rowsG_get hq2, tab_getD hs, h3, Int.toNat_natCast]
  rfl
theorem lsM_of (hv : VM m) (hN : m.n = N) (hN7 : N ≤ 7) (h0 : t0 < N) (hK : m.k = K) : ∀ {w : List Int} {i : Nat}, (∀ x, x ∈ w → 0 ≤ x ∧ x < K) → i < N → Rch m K t0 i → ofF (lsM m K t0) (lsG m K t0).length w ((lsG m K t0).idxOf (lo m i)) = (lsG m K t0).idxOf (lo m (leads m i w).toNat)
  | [], i, _, _, _ => by simp [ofF, leads]
  | s :: w, i, hw, hi, hr => by
    have hs := hw s (by simp)
    have hin := (lsG_mem hv.wm hN hN7 h0 hK).mpr ⟨i, hr, rfl⟩
    have hq : (lsG m K t0).idxOf (lo m i) < (lsG m K t0).length := List.idxOf_lt_length_iff.mpr hin
    have hnl := nx_lt hv.wm (i := i) s.toNat (by omega)
    have ih := lsM_of hv hN hN7 h0 hK (w := w) (i := nx m i s.toNat) (fun x hx => hw x (by simp [hx])) (by omega) (.step hr (by omega))
    have e1 : mstep m i s = (nx m i s.toNat : Int) := nx_int hv.wm (i := i) (s := s.toNat) (by omega)
    show ofF (lsM m K t0) (lsG m K t0).length w (syF (lsM m K t0) (lsG m K t0).length s.toNat ((lsG m K t0).idxOf (lo m i))) = (lsG m K t0).idxOf (lo m (leads m (mstep m i s) w).toNat)
    rw [e1, ← ih, syF, if_pos hq, lsM_nx hv.wm hN hN7 h0 hK hr (by omega)]
theorem syF_out {m : Dm.Machine} {n s i : Nat} (h : n ≤ i) : syF m n s i = i := if_neg (by omega)
theorem ofF_out {m : Dm.Machine} {n : Nat} : ∀ {w : List Int} {i : Nat}, n ≤ i → ofF m n w i = i
  | [], _, _ => rfl
  | s :: w, i, h => by
    show ofF m n w (syF m n s.toNat i) = i
    rw [syF_out h, ofF_out h]
/-- The actions of two words are the same just if the words do the same. -/
theorem kinds_same (hv : VM m) (hN : m.n = N) (h0 : t0 < N) (hK : m.k = K) {u v : List Int} (hu : ∀ x, x ∈ u → 0 ≤ x ∧ x < K) (hw : ∀ x, x ∈ v → 0 ≤ x ∧ x < K) :
    (∀ j, j < 7 → ofF (lsM m K t0) (lsG m K t0).length u j = ofF (lsM m K t0) (lsG m K t0).length v j) ↔ ∀ i, i < N → doR m N K t0 u i = doR m N K t0 v i := by
  have hn := hv.n
  have hN7 : N ≤ 7 := by omega
  have he := lsG_end (K := K) hv.wm hN hN7 h0
  constructor
  · intro h i hi
    unfold doR
    by_cases hc : cmA m N K t0 N i = true
    · rw [if_pos hc, if_pos hc]
      have hr := (cmA_iff hv.wm hN h0 hi).mp hc
      have hin := (lsG_mem hv.wm hN hN7 h0 hK).mpr ⟨i, hr, rfl⟩
      have hq : (lsG m K t0).idxOf (lo m i) < (lsG m K t0).length := List.idxOf_lt_length_iff.mpr hin
      have h1 := h ((lsG m K t0).idxOf (lo m i)) (by omega)
      rw [lsM_of hv hN hN7 h0 hK hu hi hr, lsM_of hv hN hN7 h0 hK hw hi hr] at h1
      have lr : ∀ {w : List Int} {i : Nat}, (∀ x, x ∈ w → 0 ≤ x ∧ x < K) → i < N → Rch m K t0 i → Rch m K t0 (leads m i w).toNat := by
        intro w
        induction w with
        | nil => intro i _ _ h; simpa [leads] using h
        | cons s w ih =>
          intro i hw hi h
          have hs := hw s (by simp)
          have hnl := nx_lt hv.wm (i := i) s.toNat (by omega)
          have e1 : mstep m i s = (nx m i s.toNat : Int) := nx_int hv.wm (i := i) (s := s.toNat) (by omega)
          show Rch m K t0 (leads m (mstep m i s) w).toNat
          rw [e1]
          exact ih (fun x hx => hw x (by simp [hx])) (by omega) (.step h (by omega))
      have m1 := (lsG_mem hv.wm hN hN7 h0 hK).mpr ⟨_, lr hu hi hr, rfl⟩
      have m2 := (lsG_mem hv.wm hN hN7 h0 hK).mpr ⟨_, lr hw hi hr, rfl⟩
      have g1 := List.getElem_idxOf (List.idxOf_lt_length_iff.mpr m1)
      have g2 := List.getElem_idxOf (List.idxOf_lt_length_iff.mpr m2)
      have : lo m (leads m i u).toNat = lo m (leads m i v).toNat := by
        rw [← g1, ← g2]; simp only [h1]
      rw [this]
    · rw [if_neg hc, if_neg hc]
  · intro h j hj
    by_cases hjl : j < (lsG m K t0).length
    · obtain ⟨i, hr, e⟩ := (lsG_mem hv.wm hN hN7 h0 hK).mp (getD_mem' (l := lsG m K t0) (i := j) hjl)
      have hiN : i < N := by
        clear e
        induction hr with
        | start => exact h0
        | @step a s _ _ ih => have := nx_lt hv.wm (i := a) s (by omega); omega
      have ej : (lsG m K t0).idxOf (lo m i) = j := by
        rw [← e]
        have := (setG_nd (f := lf m) (k := K) (x0 := lo m t0) (i := lgo m K t0 8 0)).idxOf_getElem j hjl
        have e2 : (lsG m K t0).getD j default = (lsG m K t0)[j] := by simp [List.getD, hjl]
        rw [e2]
        exact this
      have h1 := h i hiN
      unfold doR at h1
      rw [if_pos ((cmA_iff hv.wm hN h0 hiN).mpr hr), if_pos ((cmA_iff hv.wm hN h0 hiN).mpr hr)] at h1
      rw [← ej, lsM_of hv hN hN7 h0 hK hu hiN hr, lsM_of hv hN hN7 h0 hK hw hiN hr, show lo m (leads m i u).toNat = lo m (leads m i v).toNat by omega]
    · rw [ofF_out (by omega), ofF_out (by omega)]
theorem lsM_wm (hv : WM m) (hN : m.n = N) (hN7 : N ≤ 7) (h0 : t0 < N) (hK : m.k = K) : WM (lsM m K t0) := by
  have he := lsG_end (K := K) hv hN hN7 h0
  have hk := hv.k
  refine ⟨?_, ?_, ?_, ?_, ?_, ?_⟩
  · show (1 : Int) ≤ ((lsG m K t0).length : Nat) ∧ (((lsG m K t0).length : Nat) : Int) ≤ 14; omega
  · show (1 : Int) ≤ (K : Nat) ∧ ((K : Nat) : Int) ≤ 3; omega
  · show (((lrow m K t0 (lgo m K t0 8 0)).length : Nat) : Int) = ((lsG m K t0).length : Nat)
    rw [lrow_len, he.1]
  · intro l hl
    rw [show l.length = K from rowsG_row hl]; rfl
  · intro l hl x hx
    obtain ⟨q, hq, e⟩ := List.getElem_of_mem hl
    have hq2 : q < lgo m K t0 8 0 := by have := @lrow_len m K t0 (lgo m K t0 8 0); show q < _; rw [← this]; exact hq
    have e2 : l = tab K (rowG (lf m ((setG (lf m) K (lo m t0) q).getD q 0)) (setG (lf m) K (lo m t0) q)) := by
      rw [← rowsG_get (f := lf m) (k := K) (x0 := lo m t0) hq2, ← e]
      have hq' : q < (rowsG (lf m) K (lo m t0) (lgo m K t0 8 0)).length := hq
      show (rowsG (lf m) K (lo m t0) (lgo m K t0 8 0))[q] = _
      simp [List.getD, hq']
    rw [e2] at hx
    obtain ⟨s, hs, rfl⟩ := List.mem_map.mp hx
    have hs := List.mem_range.mp hs
    have h3 := setG_step (f := lf m) (x0 := lo m t0) hq2 (he.2.2.2 _ hq2) hs
    rw [h3.2]
    have h4 : (lsG m K t0).idxOf (lf m ((lsG m K t0).getD q 0) s) < (lsG m K t0).length := List.idxOf_lt_length_iff.mpr h3.1
    show (0 : Int) ≤ _ ∧ _ < (((lsG m K t0).length : Nat) : Int)
    exact ⟨Int.natCast_nonneg _, Int.ofNat_lt.mpr h4⟩
  · have h1 := @setOf_lt (lacc m K t0) (lgo m K t0 8 0)
    have h2 : 2 ^ (lgo m K t0 8 0) ≤ 2 ^ 7 := Nat.pow_le_pow_right (by omega) (by omega)
    show (0 : Int) ≤ ((setOf (lacc m K t0) (lgo m K t0 8 0) : Nat) : Int) ∧ ((setOf (lacc m K t0) (lgo m K t0 8 0) : Nat) : Int) ≤ 4294967295
    omega
end
end Go.Proofs.Ytbbpmodfbdibcaa
