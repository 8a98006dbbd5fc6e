/-
  thicket.Cut.
-/
import Derived.Test.YtcbilnmpiladnaaCut
namespace Go.Proofs.Ytcbilnmpiladnaa
open Go.Dm
set_option linter.unusedSimpArgs false
set_option linter.unnecessarySimpa false
set_option linter.unusedVariables false
set_option linter.defProp false
/-- So many spots of an order are reckoned. -/
theorem obTabW {n : Nat} {f g : Nat → D} {a b b' : Bool} {c : Kd} (h : ∀ j, j < n → f j = g j) (hb : b = b') : some (⟨1, tabD n f, a, b, c⟩ : Ob) = some ⟨1, tabD n g, a, b', c⟩ := by rw [tabD_ext h, hb]
def CtI (t : Dm.Thicket) (K r : Int) (out : List Nat) (c : Nat) (go : Nat → Bool) (lf : Nat → List (List Int)) : Prop := ∀ j, j < c → go (out.getD j 0) = gnB t K r go (out.getD j 0) ∧ lf (out.getD j 0) = lfW r go (wys t (out.getD j 0))
theorem CtI.step {t : Dm.Thicket} {K r : Int} {out : List Nat} {c : Nat} {go : Nat → Bool} {lf : Nat → List (List Int)} (h : CtI t K r out c go lf) (ho : Ord t out) (hg : Good t) (hc : c < out.length) : CtI t K r out (c + 1) (fun j => if j = out.getD c 0 then gnB t K r go (out.getD c 0) else go j) (fun j => if j = out.getD c 0 then lfW r go (wys t (out.getD c 0)) else lf j) := fun j hj => by
  have hcg : ∀ j, j ≤ c → lfW r (fun j => if j = out.getD c 0 then gnB t K r go (out.getD c 0) else go j) (wys t (out.getD j 0)) = lfW r go (wys t (out.getD j 0)) := fun j hj => lfW_congr fun w hw x hx => if_neg (kid_ne ho hg hc hj w hw x hx).2
  have hgg : gnB t K r (fun j => if j = out.getD c 0 then gnB t K r go (out.getD c 0) else go j) (out.getD j 0) = gnB t K r go (out.getD j 0) := by
    have e := hcg j (by omega)
    show decide _ = decide _
    rw [e]
  rw [hcg j (by omega), hgg]
  by_cases e : j = c
  · subst e; exact ⟨if_pos rfl, if_pos rfl⟩
  · have hne : out.getD j 0 ≠ out.getD c 0 := fun e2 => e (nd_inj ho.2.1 (by omega) hc e2)
    have := h j (by omega)
    exact ⟨(if_neg hne).trans this.1, (if_neg hne).trans this.2⟩
theorem CtI.sat {t : Dm.Thicket} {K r : Int} {out : List Nat} {go : Nat → Bool} {lf : Nat → List (List Int)} (h : CtI t K r out out.length go lf) (ho : Ord t out) : SatC t K r go lf := fun i hi => by
  obtain ⟨j, hj, e⟩ := mem_getD0.mp ((ho.2.2 i).mpr hi)
  rw [← e]; exact h j hj
theorem lfW_sub {r : Int} {go : Nat → Bool} {ws : List (List Int)} {w : List Int} (h : w ∈ lfW r go ws) : w ∈ ws := (List.mem_filter.mp h).1
theorem lfW_len {r : Int} {go : Nat → Bool} {ws : List (List Int)} : (lfW r go ws).length ≤ ws.length := List.length_filter_le ..
theorem kdL_lfW {r : Int} {go : Nat → Bool} : ∀ {ws : List (List Int)}, (kdL (lfW r go ws)).length ≤ (kdL ws).length
  | [] => Nat.le_refl _
  | w :: ws => by
    have ih := @kdL_lfW r go ws
    unfold lfW kdL at ih ⊢
    rw [List.filter_cons]
    split
    · rw [List.flatMap_cons, List.flatMap_cons, List.length_append, List.length_append]; omega
    · rw [List.flatMap_cons, List.length_append]; omega
/-- A row of what is left: begun or not. -/
def lfC (out : List Nat) (c : Nat) (lf : Nat → List (List Int)) (j : Nat) : D := if j ∈ out.take c then .own false 1 (rows i64s (lf j)) else .nl
section
variable {out : List Nat} {c j τ m : Nat} {lf : Nat → List (List Int)}
theorem lfC_clo : (lfC out c lf j).clo' = true := by unfold lfC; split <;> first | rfl | exact clo'_nl
theorem lfC_kill : (lfC out c lf j).kill τ = lfC out c lf j := by unfold lfC; split <;> first | (simp [kill_oo]; done) | exact kill_nl
theorem lfC_trim : (lfC out c lf j).trim m = lfC out c lf j := by unfold lfC; split <;> first | (simp [trim_oo]; done) | exact trim_nl
theorem mem_take_succ (h : c < out.length) : (j ∈ out.take (c + 1)) ↔ (j ∈ out.take c ∨ j = out.getD c 0) := by
  rw [take_succ_getD h 0, List.mem_append, List.mem_singleton]
theorem nmem_take (hd : out.Nodup) (h : c < out.length) : out.getD c 0 ∉ out.take c := fun hm => by
  obtain ⟨k, hk, e⟩ := mem_getD0.mp hm
  rw [List.length_take] at hk
  have e2 : (out.take c).getD k 0 = out.getD k 0 := by simp only [List.getD, List.getElem?_take_of_lt (show k < c by omega)]
  rw [e2] at e
  have := nd_inj hd (i := k) (j := c) (by omega) h e
  omega
theorem lfC_nl (hd : out.Nodup) (h : c < out.length) : lfC out c lf (out.getD c 0) = .nl := if_neg (nmem_take hd h)
theorem lfC_step (hd : out.Nodup) (h : c < out.length) {ws : List (List Int)} : (if j = out.getD c 0 then D.own false 1 (rows i64s ws) else lfC out c lf j) = lfC out (c + 1) (fun k => if k = out.getD c 0 then ws else lf k) j := by
  unfold lfC
  by_cases e : j = out.getD c 0
  · rw [if_pos e, if_pos ((mem_take_succ h).mpr (.inr e))]; simp only [if_pos e]
  · rw [if_neg e]
    simp only [if_neg e, mem_take_succ h]
    by_cases h2 : j ∈ out.take c
    · rw [if_pos h2, if_pos (.inl h2)]
    · rw [if_neg h2, if_neg fun h3 => h3.elim h2 e]
theorem lfC_all {n : Nat} (hm : ∀ x, x ∈ out ↔ x < n) (hc : c = out.length) : (tabD n fun j => lfC out c lf j) = tabD n fun j => .own false 1 (rows i64s (lf j)) := tabD_ext fun j hj => by
  unfold lfC; rw [hc, List.take_length, if_pos ((hm j).mpr hj)]
end
theorem vwR_lf {n : Nat} {lf : Nat → List (List Int)} : vwR (tabD n fun j => .own false 1 (rows i64s (lf j))) = tabD n fun j => .sl 1 (rows i64s (lf j)) := by
  simp only [vwR, tabD, List.map_map]
  refine List.map_congr_left fun i _ => ?_
  simp only [Function.comp, List.map_cons, List.map_nil, vw_own, Bool.false_eq_true, if_false]
theorem gcode_ok {g : Dm.Grammar} (h : gcode g = 0) : 0 ≤ g.k := by
  unfold gcode at h
  split at h
  · cases h
  · omega
def vcz := And.intro vcx <| And.intro @lfC_kill <| And.intro @lfC_trim <| And.intro @lfC_clo <| And.intro @vwR_lf @app_flat
def ctO (t : Dm.Thicket) (g : Dm.Grammar) (n : Nat) (out : List Nat) (c : Nat) (go : Nat → Bool) (lf : Nat → List (List Int)) : List (Nat × Ob) := [(0, ⟨4, [graD g], true, false, .fix⟩), (1, ⟨2, [thiD t], true, false, .fix⟩), (2, ⟨2, [[.nl, iv .i64 0]], true, false, .fix⟩), (3, ⟨1, tabD n fun j => lfC out c lf j, true, decide (0 < c), .arr⟩), (4, ⟨1, bls (gob n go), true, false, .arr⟩), (5, ⟨1, [[.ref 4 1 0 n]], false, false, .fix⟩)]
def CutR (g : Dm.Grammar) (t : Dm.Thicket) (r : Int) (d : D) : Prop := (gcode g ≠ 0 ∧ d = .tu [.ag [.nl, iv .i64 0], iv .i64 (gcode g)]) ∨ (gcode g = 0 ∧ ¬ (0 ≤ r ∧ r < g.rules.length) ∧ d = .tu [.ag [.nl, iv .i64 0], iv .i64 4]) ∨ (gcode g = 0 ∧ (0 ≤ r ∧ r < g.rules.length) ∧ ¬ Good t ∧ d = .tu [.ag [.nl, iv .i64 0], iv .i64 3]) ∨ (gcode g = 0 ∧ (0 ≤ r ∧ r < g.rules.length) ∧ Good t ∧ ∃ go lf, SatC t g.k r go lf ∧ ((go t.root.toNat = true ∧ d = .tu [.ag [.nl, iv .i64 0], iv .i64 5]) ∨ (go t.root.toNat = false ∧ ∃ C, CmF lf t.root.toNat t.spots.length C ∧ d = .tu [.ag (thiD (cutT t lf C)), iv .i64 0])))
set_option maxRecDepth 10000 in
set_option maxHeartbeats 4000000 in
theorem cut_spec (g : Dm.Grammar) (hg : g.ok) (t : Dm.Thicket) (ht : t.ok) (hb : ∀ i, i < t.spots.length → (kdL (wys t i)).length ≤ 4294967296 ∧ (wys t i).length ≤ 4294967296 ∧ ∀ w, w ∈ wys t i → w.length ≤ 4294967296) (r : Int) : Dm.Spec Try.prog 19 [.ag (graD g), .ag (thiD t), iv .i64 r] (CutR g t r) := by
  refine spec_of_vc mixed Try.func19 c19 (by rw [show Try.f19.ntmps = _ from Try.ntmps19]; simp) ?_
  unfold m19 r19
  have hsl := maxLen_le ht.1.1
  have hrl := maxLen_le hg.2.2.2.1
  repeat' first | (refine Br.dec (fun h => ?_) (fun h => ?_) <;> try (exfalso; omega)) | (refine Br.eqi (fun h => ?_) (fun h => ?_) <;> try (exfalso; omega)) | (simp (disch := (first | omega | (simp only [vlen]; first | done | omega))) only [vcz, ↓va0, ↓va1, ↓va2, ↓va3, vb0, vb1, vb2, vb3, vb4, vb5, vb6, vb7, vb8, vb9, vb10, vz0, vz1, vy0, vx0, ↓reduceIte, Nat.reduceBEq, Nat.reduceEqDiff, Nat.reduceLT, Nat.reduceLeDiff, Nat.reduceAdd, Nat.reduceMul, Nat.reduceSub, reduceCtorEq, Int.reduceToNat]) | (refine Br.mk (fun h => ?_) (fun h => ?_)) | (refine BrN.mk (fun h => ?_) ?_) | (refine AltVC.mk ?_ ?_)
  refine CallVC.eq (gCheck_spec g hg) ?_
  by_cases hg0 : gcode g = 0
  rotate_left
  · repeat' first | (refine Br.dec (fun h => ?_) (fun h => ?_) <;> try (exfalso; omega)) | (refine Br.eqi (fun h => ?_) (fun h => ?_) <;> try (exfalso; omega)) | (simp (disch := (first | omega | (simp only [vlen]; first | done | omega))) only [vcz, hg0, ↓va0, ↓va1, ↓va2, ↓va3, vb0, vb1, vb2, vb3, vb4, vb5, vb6, vb7, vb8, vb9, vb10, vz0, vz1, vy0, vx0, ↓reduceIte, Nat.reduceBEq, Nat.reduceEqDiff, Nat.reduceLT, Nat.reduceLeDiff, Nat.reduceAdd, Nat.reduceMul, Nat.reduceSub, reduceCtorEq, Int.reduceToNat]) | (refine Br.mk (fun h => ?_) (fun h => ?_)) | (refine BrN.mk (fun h => ?_) ?_) | (refine AltVC.mk ?_ ?_)
    exact fin_mk (.inl ⟨hg0, rfl⟩)
  have hk0 := gcode_ok hg0
  rw [hg0]
  by_cases hr : 0 ≤ r ∧ r < g.rules.length
  rotate_left
  · repeat' first | (refine Br.dec (fun h => ?_) (fun h => ?_) <;> try (exfalso; omega)) | (refine Br.eqi (fun h => ?_) (fun h => ?_) <;> try (exfalso; omega)) | (simp (disch := (first | omega | (simp only [vlen]; first | done | omega))) only [vcz, ↓va0, ↓va1, ↓va2, ↓va3, vb0, vb1, vb2, vb3, vb4, vb5, vb6, vb7, vb8, vb9, vb10, vz0, vz1, vy0, vx0, ↓reduceIte, Nat.reduceBEq, Nat.reduceEqDiff, Nat.reduceLT, Nat.reduceLeDiff, Nat.reduceAdd, Nat.reduceMul, Nat.reduceSub, reduceCtorEq, Int.reduceToNat]) | (refine Br.mk (fun h => ?_) (fun h => ?_)) | (refine BrN.mk (fun h => ?_) ?_) | (refine AltVC.mk ?_ ?_)
    all_goals exact fin_mk (.inr (.inl ⟨hg0, hr, rfl⟩))
  repeat' first | (refine Br.dec (fun h => ?_) (fun h => ?_) <;> try (exfalso; omega)) | (refine Br.eqi (fun h => ?_) (fun h => ?_) <;> try (exfalso; omega)) | (simp (disch := (first | omega | (simp only [vlen]; first | done | omega))) only [vcz, ↓va0, ↓va1, ↓va2, ↓va3, vb0, vb1, vb2, vb3, vb4, vb5, vb6, vb7, vb8, vb9, vb10, vz0, vz1, vy0, vx0, ↓reduceIte, Nat.reduceBEq, Nat.reduceEqDiff, Nat.reduceLT, Nat.reduceLeDiff, Nat.reduceAdd, Nat.reduceMul, Nat.reduceSub, reduceCtorEq, Int.reduceToNat]) | (refine Br.mk (fun h => ?_) (fun h => ?_)) | (refine BrN.mk (fun h => ?_) ?_) | (refine AltVC.mk ?_ ?_)
  refine CallVC.mk (sorted_spec t ht) ?_
  rintro _ (⟨out, rfl, hG, hO⟩ | ⟨rfl, hG⟩)
  rotate_left
  · repeat' first | (refine Br.dec (fun h => ?_) (fun h => ?_) <;> try (exfalso; omega)) | (refine Br.eqi (fun h => ?_) (fun h => ?_) <;> try (exfalso; omega)) | (simp (disch := (first | omega | (simp only [vlen]; first | done | omega))) only [vcz, ↓va0, ↓va1, ↓va2, ↓va3, vb0, vb1, vb2, vb3, vb4, vb5, vb6, vb7, vb8, vb9, vb10, vz0, vz1, vy0, vx0, ↓reduceIte, Nat.reduceBEq, Nat.reduceEqDiff, Nat.reduceLT, Nat.reduceLeDiff, Nat.reduceAdd, Nat.reduceMul, Nat.reduceSub, reduceCtorEq, Int.reduceToNat]) | (refine Br.mk (fun h => ?_) (fun h => ?_)) | (refine BrN.mk (fun h => ?_) ?_) | (refine AltVC.mk ?_ ?_)
    exact fin_mk (.inr (.inr (.inl ⟨hg0, hr, hG, rfl⟩)))
  have hG2 := hG.1
  have hG3 := hG.2.1
  have hol : out.length ≤ t.spots.length := nodup_len _ _ hO.2.1 fun x hx => (hO.2.2 x).mp hx
  obtain ⟨n, hn⟩ : ∃ n, t.spots.length = n := ⟨_, rfl⟩
  repeat' first | (refine Br.dec (fun h => ?_) (fun h => ?_) <;> try (exfalso; omega)) | (refine Br.eqi (fun h => ?_) (fun h => ?_) <;> try (exfalso; omega)) | (simp (disch := (first | omega | (simp only [vlen]; first | done | omega))) only [vcz, hn, ↓va0, ↓va1, ↓va2, ↓va3, vb0, vb1, vb2, vb3, vb4, vb5, vb6, vb7, vb8, vb9, vb10, vz0, vz1, vy0, vx0, ↓reduceIte, Nat.reduceBEq, Nat.reduceEqDiff, Nat.reduceLT, Nat.reduceLeDiff, Nat.reduceAdd, Nat.reduceMul, Nat.reduceSub, reduceCtorEq, Int.reduceToNat]) | (refine Br.mk (fun h => ?_) (fun h => ?_)) | (refine BrN.mk (fun h => ?_) ?_) | (refine AltVC.mk ?_ ?_)
  rw [gob_rep, tabD_rep]
  refine LoopVC.mk (X := Nat × (Nat → Bool) × (Nat → List (List Int))) (fun x => [(11, .ref 3 1 0 n), (12, .ptr 5 1 0 0), (52, iv .i64 x.1)]) (fun x => ctO t g n out x.1 x.2.1 x.2.2) (fun x => out.length - x.1) (fun x => x.1 ≤ out.length ∧ CtI t g.k r out x.1 x.2.1 x.2.2) (0, (fun _ => false), fun _ => []) ⟨Nat.zero_le _, fun j h => absurd h (Nat.not_lt_zero _)⟩ ?_ ?_
  · simp only [ctO]
    (simp (disch := (first | omega | (simp only [vlen]; first | done | omega))) only [Fits_u, Fits_m, Fits_nil, List.length_append, vcz, hn, ↓va0, ↓va1, ↓va2, ↓va3, vb0, vb1, vb2, vb3, vb4, vb5, vb6, vb7, vb8, vb9, vb10, vz0, vz1, vy0, vx0, ↓reduceIte, Nat.reduceBEq, Nat.reduceEqDiff, Nat.reduceLT, Nat.reduceLeDiff, Nat.reduceAdd, Nat.reduceMul, Nat.reduceSub, reduceCtorEq, Int.reduceToNat] <;> (repeat' first | rfl | apply And.intro))
    all_goals first | rfl | skip
  · rintro ⟨c, go, lf⟩ ⟨hc, hI⟩
    simp only at hc hI ⊢
    simp only [ctO]
    by_cases hcl : c < out.length
    · have hil := (hO.2.2 _).mp (mem_getD0.mpr ⟨c, hcl, rfl⟩)
      have hbi := hb _ hil
      have hkid := kid_ne hO hG hcl (Nat.le_refl c)
      have hnl := @lfC_nl out c lf hO.2.1 hcl
      obtain ⟨i, hi⟩ : ∃ i, out.getD c 0 = i := ⟨_, rfl⟩
      have hix : (tbl ixD out).getD c [] = [iv .i64 i] := by rw [← hi]; exact tbl_get hcl
      rw [hi] at hil hbi hkid hnl
      unfold wys at hbi hkid
      rw [hn] at hil hkid
      repeat' first | (refine Br.dec (fun h => ?_) (fun h => ?_) <;> try (exfalso; omega)) | (refine Br.eqi (fun h => ?_) (fun h => ?_) <;> try (exfalso; omega)) | (simp (disch := (first | omega | (simp only [vlen]; first | done | omega))) only [vcz, hn, hix, hnl, ↓va0, ↓va1, ↓va2, ↓va3, vb0, vb1, vb2, vb3, vb4, vb5, vb6, vb7, vb8, vb9, vb10, vz0, vz1, vy0, vx0, ↓reduceIte, Nat.reduceBEq, Nat.reduceEqDiff, Nat.reduceLT, Nat.reduceLeDiff, Nat.reduceAdd, Nat.reduceMul, Nat.reduceSub, reduceCtorEq, Int.reduceToNat]) | (refine Br.mk (fun h => ?_) (fun h => ?_)) | (refine BrN.mk (fun h => ?_) ?_) | (refine AltVC.mk ?_ ?_)
      refine LoopVC.nlo 3 i 0 1 ?_
      repeat' first | (refine Br.dec (fun h => ?_) (fun h => ?_) <;> try (exfalso; omega)) | (refine Br.eqi (fun h => ?_) (fun h => ?_) <;> try (exfalso; omega)) | (simp (disch := (first | omega | (simp only [vlen]; first | done | omega))) only [vcz, hn, hix, hnl, ↓va0, ↓va1, ↓va2, ↓va3, vb0, vb1, vb2, vb3, vb4, vb5, vb6, vb7, vb8, vb9, vb10, vz0, vz1, vy0, vx0, ↓reduceIte, Nat.reduceBEq, Nat.reduceEqDiff, Nat.reduceLT, Nat.reduceLeDiff, Nat.reduceAdd, Nat.reduceMul, Nat.reduceSub, reduceCtorEq, Int.reduceToNat]) | (refine Br.mk (fun h => ?_) (fun h => ?_)) | (refine BrN.mk (fun h => ?_) ?_) | (refine AltVC.mk ?_ ?_)
      obtain ⟨ws, hws⟩ : ∃ ws, (t.spots.getD i default).ways = ws := ⟨_, rfl⟩
      rw [hws] at hkid hbi
      rw [hws]
      refine LoopVC.mk (X := Nat) (fun q => [(11, .ref 3 1 0 n), (12, .ptr 5 1 0 0), (63, iv .i64 q)]) (fun q => [(0, ⟨4, [graD g], true, false, .fix⟩), (1, ⟨2, [thiD t], true, false, .fix⟩), (2, ⟨2, [[.nl, iv .i64 0]], true, false, .fix⟩), (3, ⟨1, tabD n fun j => if j = i then .own false 1 (rows i64s (lfW r go (ws.take q))) else lfC out c lf j, true, true, .arr⟩), (4, ⟨1, bls (gob n go), true, false, .arr⟩), (5, ⟨1, [[.ref 4 1 0 n]], false, false, .fix⟩)]) (fun q => ws.length - q) (fun q => q ≤ ws.length) 0 (Nat.zero_le _) ?_ ?_
      · (simp (disch := (first | omega | (simp only [vlen]; first | done | omega))) only [Fits_u, Fits_m, Fits_nil, List.length_append, vcz, hn, ↓va0, ↓va1, ↓va2, ↓va3, vb0, vb1, vb2, vb3, vb4, vb5, vb6, vb7, vb8, vb9, vb10, vz0, vz1, vy0, vx0, ↓reduceIte, Nat.reduceBEq, Nat.reduceEqDiff, Nat.reduceLT, Nat.reduceLeDiff, Nat.reduceAdd, Nat.reduceMul, Nat.reduceSub, reduceCtorEq, Int.reduceToNat] <;> (repeat' first | rfl | apply And.intro))
        all_goals first | rfl | skip
      · intro q hq
        have hlq : (lfW r go (ws.take q)).length ≤ q := Nat.le_trans lfW_len (by rw [List.length_take]; omega)
        by_cases hql : q < ws.length
        · have hm := getD_mem' (l := ws) (i := q) hql
          have hs := @lfW_succ r go ws q hql
          have hwl := hbi.2.2 _ hm
          have hwk := hkid _ hm
          obtain ⟨w, hwe⟩ : ∃ w, ws.getD q default = w := ⟨_, rfl⟩
          rw [hwe] at hs hwl hwk
          have htl : (tl w).length = w.length - 1 := List.length_drop
          have htd : w.drop 1 = tl w := rfl
          have hrw : rows i64s (lfW r go (ws.take q)) ++ [[.sl 1 (i64s w)]] = rows i64s (lfW r go (ws.take q) ++ [w]) := by rw [rows_app]
          by_cases hw0 : w.length = 0
          · have hcb : cutB r go w = false := by have : w = [] := List.eq_nil_of_length_eq_zero hw0
                                                 subst this; rfl
            rw [hcb, if_neg (by simp)] at hs
            repeat' first | (refine Br.dec (fun h => ?_) (fun h => ?_) <;> try (exfalso; omega)) | (refine Br.eqi (fun h => ?_) (fun h => ?_) <;> try (exfalso; omega)) | (simp (disch := (first | omega | (simp only [vlen]; first | done | omega))) only [vcz, hn, hwe, htd, ↓va0, ↓va1, ↓va2, ↓va3, vb0, vb1, vb2, vb3, vb4, vb5, vb6, vb7, vb8, vb9, vb10, vz0, vz1, vy0, vx0, ↓reduceIte, Nat.reduceBEq, Nat.reduceEqDiff, Nat.reduceLT, Nat.reduceLeDiff, Nat.reduceAdd, Nat.reduceMul, Nat.reduceSub, reduceCtorEq, Int.reduceToNat]) | (refine Br.mk (fun h => ?_) (fun h => ?_)) | (refine BrN.mk (fun h => ?_) ?_) | (refine AltVC.mk ?_ ?_)
            refine loopK.fold 6 3 i 0 true ?_
            repeat' first | (refine Br.dec (fun h => ?_) (fun h => ?_) <;> try (exfalso; omega)) | (refine Br.eqi (fun h => ?_) (fun h => ?_) <;> try (exfalso; omega)) | (simp (disch := (first | omega | (simp only [vlen]; first | done | omega))) only [vcz, hn, hwe, htd, ↓va0, ↓va1, ↓va2, ↓va3, vb0, vb1, vb2, vb3, vb4, vb5, vb6, vb7, vb8, vb9, vb10, vz0, vz1, vy0, vx0, ↓reduceIte, Nat.reduceBEq, Nat.reduceEqDiff, Nat.reduceLT, Nat.reduceLeDiff, Nat.reduceAdd, Nat.reduceMul, Nat.reduceSub, reduceCtorEq, Int.reduceToNat]) | (refine Br.mk (fun h => ?_) (fun h => ?_)) | (refine BrN.mk (fun h => ?_) ?_) | (refine AltVC.mk ?_ ?_)
            refine Chk.mk ⟨by simp [rows], tabD_all fun j hj => by split <;> first | rfl | exact lfC_clo⟩ ?_
            refine loopK.mk (q + 1) (by simp (disch := (first | omega | (simp only [vlen]; first | done | omega))) only [↓va0, ↓va1, ↓va2, ↓va3, vb0, vb1, vb2, vb3, vb4, vb5, vb6, vb7, vb8, vb9, vb10, vz0, vz1, vy0, vx0, ↓reduceIte, Nat.reduceBEq, Nat.reduceEqDiff, Nat.reduceLT, Nat.reduceLeDiff, Nat.reduceAdd, Nat.reduceMul, Nat.reduceSub, reduceCtorEq, Int.reduceToNat]) (by omega) (by omega) ?_
            rw [hs]
            (simp (disch := (first | omega | (simp only [vlen]; first | done | omega))) only [Fits_u, Fits_m, Fits_nil, List.length_append, vcz, hn, hrw, ↓va0, ↓va1, ↓va2, ↓va3, vb0, vb1, vb2, vb3, vb4, vb5, vb6, vb7, vb8, vb9, vb10, vz0, vz1, vy0, vx0, ↓reduceIte, Nat.reduceBEq, Nat.reduceEqDiff, Nat.reduceLT, Nat.reduceLeDiff, Nat.reduceAdd, Nat.reduceMul, Nat.reduceSub, reduceCtorEq, Int.reduceToNat] <;> (repeat' first | rfl | apply And.intro))
            all_goals first | rfl | skip
          · by_cases hw1 : w.getD 0 0 = r
            · have hcb : cutB r go w = true := by unfold cutB; rw [decide_eq_true ⟨hw0, hw1⟩]; rfl
              rw [hcb, if_pos rfl, List.append_nil] at hs
              repeat' first | (refine Br.dec (fun h => ?_) (fun h => ?_) <;> try (exfalso; omega)) | (refine Br.eqi (fun h => ?_) (fun h => ?_) <;> try (exfalso; omega)) | (simp (disch := (first | omega | (simp only [vlen]; first | done | omega))) only [vcz, hn, hwe, htd, ↓va0, ↓va1, ↓va2, ↓va3, vb0, vb1, vb2, vb3, vb4, vb5, vb6, vb7, vb8, vb9, vb10, vz0, vz1, vy0, vx0, ↓reduceIte, Nat.reduceBEq, Nat.reduceEqDiff, Nat.reduceLT, Nat.reduceLeDiff, Nat.reduceAdd, Nat.reduceMul, Nat.reduceSub, reduceCtorEq, Int.reduceToNat]) | (refine Br.mk (fun h => ?_) (fun h => ?_)) | (refine BrN.mk (fun h => ?_) ?_) | (refine AltVC.mk ?_ ?_)
              refine loopK.mk (q + 1) (by simp (disch := (first | omega | (simp only [vlen]; first | done | omega))) only [↓va0, ↓va1, ↓va2, ↓va3, vb0, vb1, vb2, vb3, vb4, vb5, vb6, vb7, vb8, vb9, vb10, vz0, vz1, vy0, vx0, ↓reduceIte, Nat.reduceBEq, Nat.reduceEqDiff, Nat.reduceLT, Nat.reduceLeDiff, Nat.reduceAdd, Nat.reduceMul, Nat.reduceSub, reduceCtorEq, Int.reduceToNat]) (by omega) (by omega) ?_
              rw [hs]
              (simp (disch := (first | omega | (simp only [vlen]; first | done | omega))) only [Fits_u, Fits_m, Fits_nil, List.length_append, vcz, hn, hrw, ↓va0, ↓va1, ↓va2, ↓va3, vb0, vb1, vb2, vb3, vb4, vb5, vb6, vb7, vb8, vb9, vb10, vz0, vz1, vy0, vx0, ↓reduceIte, Nat.reduceBEq, Nat.reduceEqDiff, Nat.reduceLT, Nat.reduceLeDiff, Nat.reduceAdd, Nat.reduceMul, Nat.reduceSub, reduceCtorEq, Int.reduceToNat] <;> (repeat' first | rfl | apply And.intro))
              all_goals first | rfl | skip
            · have hcb : cutB r go w = (tl w).any fun x => go x.toNat := by unfold cutB; rw [decide_eq_false fun h => hw1 h.2]; rfl
              have hC := conG_spec n go (tl w) (by omega) (fun x hx => (hwk x hx).1)
              cases hcv : cutB r go w with
              | true =>
                rw [hcv, if_pos rfl, List.append_nil] at hs
                rw [← hcb, hcv] at hC
                repeat' first | (refine Br.dec (fun h => ?_) (fun h => ?_) <;> try (exfalso; omega)) | (refine Br.eqi (fun h => ?_) (fun h => ?_) <;> try (exfalso; omega)) | (simp (disch := (first | omega | (simp only [vlen]; first | done | omega))) only [vcz, hn, hwe, htd, ↓va0, ↓va1, ↓va2, ↓va3, vb0, vb1, vb2, vb3, vb4, vb5, vb6, vb7, vb8, vb9, vb10, vz0, vz1, vy0, vx0, ↓reduceIte, Nat.reduceBEq, Nat.reduceEqDiff, Nat.reduceLT, Nat.reduceLeDiff, Nat.reduceAdd, Nat.reduceMul, Nat.reduceSub, reduceCtorEq, Int.reduceToNat]) | (refine Br.mk (fun h => ?_) (fun h => ?_)) | (refine BrN.mk (fun h => ?_) ?_) | (refine AltVC.mk ?_ ?_)
                refine CallVC.lendE [5, 4] [.sl 1 (i64s (tl w)), .clo 44 [.ptr 0 1 0 0]] (gnO n go) hC (by simp) (by rfl) (by (simp (disch := (first | omega | (simp only [vlen]; first | done | omega))) only [vle0, ↓va0, ↓va1, ↓va2, ↓va3, vb0, vb1, vb2, vb3, vb4, vb5, vb6, vb7, vb8, vb9, vb10, vz0, vz1, vy0, vx0, ↓reduceIte, Nat.reduceBEq, Nat.reduceEqDiff, Nat.reduceLT, Nat.reduceLeDiff, Nat.reduceAdd, Nat.reduceMul, Nat.reduceSub, reduceCtorEq, Int.reduceToNat] <;> (repeat' first | rfl | apply And.intro))) ?_
                rintro _ _ ⟨rfl, rfl⟩
                repeat' first | (refine Br.dec (fun h => ?_) (fun h => ?_) <;> try (exfalso; omega)) | (refine Br.eqi (fun h => ?_) (fun h => ?_) <;> try (exfalso; omega)) | (simp (disch := (first | omega | (simp only [vlen]; first | done | omega))) only [vcz, hn, hwe, htd, ↓va0, ↓va1, ↓va2, ↓va3, vb0, vb1, vb2, vb3, vb4, vb5, vb6, vb7, vb8, vb9, vb10, vz0, vz1, vy0, vx0, ↓reduceIte, Nat.reduceBEq, Nat.reduceEqDiff, Nat.reduceLT, Nat.reduceLeDiff, Nat.reduceAdd, Nat.reduceMul, Nat.reduceSub, reduceCtorEq, Int.reduceToNat]) | (refine Br.mk (fun h => ?_) (fun h => ?_)) | (refine BrN.mk (fun h => ?_) ?_) | (refine AltVC.mk ?_ ?_)
                refine loopK.mk (q + 1) (by simp (disch := (first | omega | (simp only [vlen]; first | done | omega))) only [↓va0, ↓va1, ↓va2, ↓va3, vb0, vb1, vb2, vb3, vb4, vb5, vb6, vb7, vb8, vb9, vb10, vz0, vz1, vy0, vx0, ↓reduceIte, Nat.reduceBEq, Nat.reduceEqDiff, Nat.reduceLT, Nat.reduceLeDiff, Nat.reduceAdd, Nat.reduceMul, Nat.reduceSub, reduceCtorEq, Int.reduceToNat]) (by omega) (by omega) ?_
                rw [hs]
                (simp (disch := (first | omega | (simp only [vlen]; first | done | omega))) only [Fits_u, Fits_m, Fits_nil, List.length_append, vcz, hn, hrw, ↓va0, ↓va1, ↓va2, ↓va3, vb0, vb1, vb2, vb3, vb4, vb5, vb6, vb7, vb8, vb9, vb10, vz0, vz1, vy0, vx0, ↓reduceIte, Nat.reduceBEq, Nat.reduceEqDiff, Nat.reduceLT, Nat.reduceLeDiff, Nat.reduceAdd, Nat.reduceMul, Nat.reduceSub, reduceCtorEq, Int.reduceToNat] <;> (repeat' first | rfl | apply And.intro))
                all_goals first | rfl | skip
              | false =>
                rw [hcv, if_neg (by simp)] at hs
                rw [← hcb, hcv] at hC
                repeat' first | (refine Br.dec (fun h => ?_) (fun h => ?_) <;> try (exfalso; omega)) | (refine Br.eqi (fun h => ?_) (fun h => ?_) <;> try (exfalso; omega)) | (simp (disch := (first | omega | (simp only [vlen]; first | done | omega))) only [vcz, hn, hwe, htd, ↓va0, ↓va1, ↓va2, ↓va3, vb0, vb1, vb2, vb3, vb4, vb5, vb6, vb7, vb8, vb9, vb10, vz0, vz1, vy0, vx0, ↓reduceIte, Nat.reduceBEq, Nat.reduceEqDiff, Nat.reduceLT, Nat.reduceLeDiff, Nat.reduceAdd, Nat.reduceMul, Nat.reduceSub, reduceCtorEq, Int.reduceToNat]) | (refine Br.mk (fun h => ?_) (fun h => ?_)) | (refine BrN.mk (fun h => ?_) ?_) | (refine AltVC.mk ?_ ?_)
                refine CallVC.lendE [5, 4] [.sl 1 (i64s (tl w)), .clo 44 [.ptr 0 1 0 0]] (gnO n go) hC (by simp) (by rfl) (by (simp (disch := (first | omega | (simp only [vlen]; first | done | omega))) only [vle0, ↓va0, ↓va1, ↓va2, ↓va3, vb0, vb1, vb2, vb3, vb4, vb5, vb6, vb7, vb8, vb9, vb10, vz0, vz1, vy0, vx0, ↓reduceIte, Nat.reduceBEq, Nat.reduceEqDiff, Nat.reduceLT, Nat.reduceLeDiff, Nat.reduceAdd, Nat.reduceMul, Nat.reduceSub, reduceCtorEq, Int.reduceToNat] <;> (repeat' first | rfl | apply And.intro))) ?_
                rintro _ _ ⟨rfl, rfl⟩
                repeat' first | (refine Br.dec (fun h => ?_) (fun h => ?_) <;> try (exfalso; omega)) | (refine Br.eqi (fun h => ?_) (fun h => ?_) <;> try (exfalso; omega)) | (simp (disch := (first | omega | (simp only [vlen]; first | done | omega))) only [vcz, hn, hwe, htd, ↓va0, ↓va1, ↓va2, ↓va3, vb0, vb1, vb2, vb3, vb4, vb5, vb6, vb7, vb8, vb9, vb10, vz0, vz1, vy0, vx0, ↓reduceIte, Nat.reduceBEq, Nat.reduceEqDiff, Nat.reduceLT, Nat.reduceLeDiff, Nat.reduceAdd, Nat.reduceMul, Nat.reduceSub, reduceCtorEq, Int.reduceToNat]) | (refine Br.mk (fun h => ?_) (fun h => ?_)) | (refine BrN.mk (fun h => ?_) ?_) | (refine AltVC.mk ?_ ?_)
                refine loopK.fold 6 3 i 0 true ?_
                repeat' first | (refine Br.dec (fun h => ?_) (fun h => ?_) <;> try (exfalso; omega)) | (refine Br.eqi (fun h => ?_) (fun h => ?_) <;> try (exfalso; omega)) | (simp (disch := (first | omega | (simp only [vlen]; first | done | omega))) only [vcz, hn, hwe, htd, ↓va0, ↓va1, ↓va2, ↓va3, vb0, vb1, vb2, vb3, vb4, vb5, vb6, vb7, vb8, vb9, vb10, vz0, vz1, vy0, vx0, ↓reduceIte, Nat.reduceBEq, Nat.reduceEqDiff, Nat.reduceLT, Nat.reduceLeDiff, Nat.reduceAdd, Nat.reduceMul, Nat.reduceSub, reduceCtorEq, Int.reduceToNat]) | (refine Br.mk (fun h => ?_) (fun h => ?_)) | (refine BrN.mk (fun h => ?_) ?_) | (refine AltVC.mk ?_ ?_)
                refine Chk.mk ⟨by simp [rows], tabD_all fun j hj => by split <;> first | rfl | exact lfC_clo⟩ ?_
                refine loopK.mk (q + 1) (by simp (disch := (first | omega | (simp only [vlen]; first | done | omega))) only [↓va0, ↓va1, ↓va2, ↓va3, vb0, vb1, vb2, vb3, vb4, vb5, vb6, vb7, vb8, vb9, vb10, vz0, vz1, vy0, vx0, ↓reduceIte, Nat.reduceBEq, Nat.reduceEqDiff, Nat.reduceLT, Nat.reduceLeDiff, Nat.reduceAdd, Nat.reduceMul, Nat.reduceSub, reduceCtorEq, Int.reduceToNat]) (by omega) (by omega) ?_
                rw [hs]
                (simp (disch := (first | omega | (simp only [vlen]; first | done | omega))) only [Fits_u, Fits_m, Fits_nil, List.length_append, vcz, hn, hrw, ↓va0, ↓va1, ↓va2, ↓va3, vb0, vb1, vb2, vb3, vb4, vb5, vb6, vb7, vb8, vb9, vb10, vz0, vz1, vy0, vx0, ↓reduceIte, Nat.reduceBEq, Nat.reduceEqDiff, Nat.reduceLT, Nat.reduceLeDiff, Nat.reduceAdd, Nat.reduceMul, Nat.reduceSub, reduceCtorEq, Int.reduceToNat] <;> (repeat' first | rfl | apply And.intro))
                all_goals first | rfl | skip
        · have hqe : ws.take q = ws := List.take_of_length_le (by omega)
          rw [hqe] at hlq ⊢
          have hgn : gnB t g.k r go i = decide (g.k ≤ (t.spots.getD i default).sign ∧ (lfW r go ws).length = 0) := by unfold gnB wys; rw [hws]
          have hstep := hI.step hO hG hcl
          rw [hi, hgn] at hstep
          by_cases hl0 : (lfW r go ws).length = 0
          · by_cases hks : g.k ≤ (t.spots.getD i default).sign
            · rw [decide_eq_true ⟨hks, hl0⟩] at hstep
              repeat' first | (refine Br.dec (fun h => ?_) (fun h => ?_) <;> try (exfalso; omega)) | (refine Br.eqi (fun h => ?_) (fun h => ?_) <;> try (exfalso; omega)) | (simp (disch := (first | omega | (simp only [vlen]; first | done | omega))) only [vcz, hn, hix, ↓va0, ↓va1, ↓va2, ↓va3, vb0, vb1, vb2, vb3, vb4, vb5, vb6, vb7, vb8, vb9, vb10, vz0, vz1, vy0, vx0, ↓reduceIte, Nat.reduceBEq, Nat.reduceEqDiff, Nat.reduceLT, Nat.reduceLeDiff, Nat.reduceAdd, Nat.reduceMul, Nat.reduceSub, reduceCtorEq, Int.reduceToNat]) | (refine Br.mk (fun h => ?_) (fun h => ?_)) | (refine BrN.mk (fun h => ?_) ?_) | (refine AltVC.mk ?_ ?_)
              refine loopK.fold 6 3 i 0 true ?_
              repeat' first | (refine Br.dec (fun h => ?_) (fun h => ?_) <;> try (exfalso; omega)) | (refine Br.eqi (fun h => ?_) (fun h => ?_) <;> try (exfalso; omega)) | (simp (disch := (first | omega | (simp only [vlen]; first | done | omega))) only [vcz, hn, hix, ↓va0, ↓va1, ↓va2, ↓va3, vb0, vb1, vb2, vb3, vb4, vb5, vb6, vb7, vb8, vb9, vb10, vz0, vz1, vy0, vx0, ↓reduceIte, Nat.reduceBEq, Nat.reduceEqDiff, Nat.reduceLT, Nat.reduceLeDiff, Nat.reduceAdd, Nat.reduceMul, Nat.reduceSub, reduceCtorEq, Int.reduceToNat]) | (refine Br.mk (fun h => ?_) (fun h => ?_)) | (refine BrN.mk (fun h => ?_) ?_) | (refine AltVC.mk ?_ ?_)
              refine Chk.mk ⟨by simp [rows], tabD_all fun j hj => by split <;> first | rfl | exact lfC_clo⟩ ?_
              refine loopK.mk (c + 1, (fun j => if j = i then true else go j), fun j => if j = i then lfW r go ws else lf j) (by simp (disch := (first | omega | (simp only [vlen]; first | done | omega))) only [↓va0, ↓va1, ↓va2, ↓va3, vb0, vb1, vb2, vb3, vb4, vb5, vb6, vb7, vb8, vb9, vb10, vz0, vz1, vy0, vx0, ↓reduceIte, Nat.reduceBEq, Nat.reduceEqDiff, Nat.reduceLT, Nat.reduceLeDiff, Nat.reduceAdd, Nat.reduceMul, Nat.reduceSub, reduceCtorEq, Int.reduceToNat]) ⟨by show c + 1 ≤ out.length; omega, by rw [show wys t i = ws from hws] at hstep; exact hstep⟩ (by show out.length - (c + 1) < out.length - c; omega) ?_
              (simp (disch := (first | omega | (simp only [vlen]; first | done | omega))) only [Fits_u, Fits_m, Fits_nil, List.length_append, vcz, hn, ↓va0, ↓va1, ↓va2, ↓va3, vb0, vb1, vb2, vb3, vb4, vb5, vb6, vb7, vb8, vb9, vb10, vz0, vz1, vy0, vx0, ↓reduceIte, Nat.reduceBEq, Nat.reduceEqDiff, Nat.reduceLT, Nat.reduceLeDiff, Nat.reduceAdd, Nat.reduceMul, Nat.reduceSub, reduceCtorEq, Int.reduceToNat] <;> (repeat' first | rfl | apply And.intro))
              all_goals first
                | exact obTabW (fun j hj => by rw [← hi]; exact lfC_step hO.2.1 hcl) (decide_eq_true (by omega)).symm
                | exact obGob fun j hj => (by by_cases e : j = i <;> simp only [e, if_true, if_false, hks, decide_true, decide_false])
                | rfl
                | skip
            · rw [decide_eq_false fun h => hks h.1] at hstep
              repeat' first | (refine Br.dec (fun h => ?_) (fun h => ?_) <;> try (exfalso; omega)) | (refine Br.eqi (fun h => ?_) (fun h => ?_) <;> try (exfalso; omega)) | (simp (disch := (first | omega | (simp only [vlen]; first | done | omega))) only [vcz, hn, hix, ↓va0, ↓va1, ↓va2, ↓va3, vb0, vb1, vb2, vb3, vb4, vb5, vb6, vb7, vb8, vb9, vb10, vz0, vz1, vy0, vx0, ↓reduceIte, Nat.reduceBEq, Nat.reduceEqDiff, Nat.reduceLT, Nat.reduceLeDiff, Nat.reduceAdd, Nat.reduceMul, Nat.reduceSub, reduceCtorEq, Int.reduceToNat]) | (refine Br.mk (fun h => ?_) (fun h => ?_)) | (refine BrN.mk (fun h => ?_) ?_) | (refine AltVC.mk ?_ ?_)
              refine loopK.fold 6 3 i 0 true ?_
              repeat' first | (refine Br.dec (fun h => ?_) (fun h => ?_) <;> try (exfalso; omega)) | (refine Br.eqi (fun h => ?_) (fun h => ?_) <;> try (exfalso; omega)) | (simp (disch := (first | omega | (simp only [vlen]; first | done | omega))) only [vcz, hn, hix, ↓va0, ↓va1, ↓va2, ↓va3, vb0, vb1, vb2, vb3, vb4, vb5, vb6, vb7, vb8, vb9, vb10, vz0, vz1, vy0, vx0, ↓reduceIte, Nat.reduceBEq, Nat.reduceEqDiff, Nat.reduceLT, Nat.reduceLeDiff, Nat.reduceAdd, Nat.reduceMul, Nat.reduceSub, reduceCtorEq, Int.reduceToNat]) | (refine Br.mk (fun h => ?_) (fun h => ?_)) | (refine BrN.mk (fun h => ?_) ?_) | (refine AltVC.mk ?_ ?_)
              refine Chk.mk ⟨by simp [rows], tabD_all fun j hj => by split <;> first | rfl | exact lfC_clo⟩ ?_
              refine loopK.mk (c + 1, (fun j => if j = i then false else go j), fun j => if j = i then lfW r go ws else lf j) (by simp (disch := (first | omega | (simp only [vlen]; first | done | omega))) only [↓va0, ↓va1, ↓va2, ↓va3, vb0, vb1, vb2, vb3, vb4, vb5, vb6, vb7, vb8, vb9, vb10, vz0, vz1, vy0, vx0, ↓reduceIte, Nat.reduceBEq, Nat.reduceEqDiff, Nat.reduceLT, Nat.reduceLeDiff, Nat.reduceAdd, Nat.reduceMul, Nat.reduceSub, reduceCtorEq, Int.reduceToNat]) ⟨by show c + 1 ≤ out.length; omega, by rw [show wys t i = ws from hws] at hstep; exact hstep⟩ (by show out.length - (c + 1) < out.length - c; omega) ?_
              (simp (disch := (first | omega | (simp only [vlen]; first | done | omega))) only [Fits_u, Fits_m, Fits_nil, List.length_append, vcz, hn, ↓va0, ↓va1, ↓va2, ↓va3, vb0, vb1, vb2, vb3, vb4, vb5, vb6, vb7, vb8, vb9, vb10, vz0, vz1, vy0, vx0, ↓reduceIte, Nat.reduceBEq, Nat.reduceEqDiff, Nat.reduceLT, Nat.reduceLeDiff, Nat.reduceAdd, Nat.reduceMul, Nat.reduceSub, reduceCtorEq, Int.reduceToNat] <;> (repeat' first | rfl | apply And.intro))
              all_goals first
                | exact obTabW (fun j hj => by rw [← hi]; exact lfC_step hO.2.1 hcl) (decide_eq_true (by omega)).symm
                | exact obGob fun j hj => (by by_cases e : j = i <;> simp only [e, if_true, if_false, hks, decide_true, decide_false])
                | rfl
                | skip
          · rw [decide_eq_false fun h => hl0 h.2] at hstep
            repeat' first | (refine Br.dec (fun h => ?_) (fun h => ?_) <;> try (exfalso; omega)) | (refine Br.eqi (fun h => ?_) (fun h => ?_) <;> try (exfalso; omega)) | (simp (disch := (first | omega | (simp only [vlen]; first | done | omega))) only [vcz, hn, hix, ↓va0, ↓va1, ↓va2, ↓va3, vb0, vb1, vb2, vb3, vb4, vb5, vb6, vb7, vb8, vb9, vb10, vz0, vz1, vy0, vx0, ↓reduceIte, Nat.reduceBEq, Nat.reduceEqDiff, Nat.reduceLT, Nat.reduceLeDiff, Nat.reduceAdd, Nat.reduceMul, Nat.reduceSub, reduceCtorEq, Int.reduceToNat]) | (refine Br.mk (fun h => ?_) (fun h => ?_)) | (refine BrN.mk (fun h => ?_) ?_) | (refine AltVC.mk ?_ ?_)
            refine loopK.fold 6 3 i 0 true ?_
            repeat' first | (refine Br.dec (fun h => ?_) (fun h => ?_) <;> try (exfalso; omega)) | (refine Br.eqi (fun h => ?_) (fun h => ?_) <;> try (exfalso; omega)) | (simp (disch := (first | omega | (simp only [vlen]; first | done | omega))) only [vcz, hn, hix, ↓va0, ↓va1, ↓va2, ↓va3, vb0, vb1, vb2, vb3, vb4, vb5, vb6, vb7, vb8, vb9, vb10, vz0, vz1, vy0, vx0, ↓reduceIte, Nat.reduceBEq, Nat.reduceEqDiff, Nat.reduceLT, Nat.reduceLeDiff, Nat.reduceAdd, Nat.reduceMul, Nat.reduceSub, reduceCtorEq, Int.reduceToNat]) | (refine Br.mk (fun h => ?_) (fun h => ?_)) | (refine BrN.mk (fun h => ?_) ?_) | (refine AltVC.mk ?_ ?_)
            refine Chk.mk ⟨by simp [rows], tabD_all fun j hj => by split <;> first | rfl | exact lfC_clo⟩ ?_
            refine loopK.mk (c + 1, (fun j => if j = i then false else go j), fun j => if j = i then lfW r go ws else lf j) (by simp (disch := (first | omega | (simp only [vlen]; first | done | omega))) only [↓va0, ↓va1, ↓va2, ↓va3, vb0, vb1, vb2, vb3, vb4, vb5, vb6, vb7, vb8, vb9, vb10, vz0, vz1, vy0, vx0, ↓reduceIte, Nat.reduceBEq, Nat.reduceEqDiff, Nat.reduceLT, Nat.reduceLeDiff, Nat.reduceAdd, Nat.reduceMul, Nat.reduceSub, reduceCtorEq, Int.reduceToNat]) ⟨by show c + 1 ≤ out.length; omega, by rw [show wys t i = ws from hws] at hstep; exact hstep⟩ (by show out.length - (c + 1) < out.length - c; omega) ?_
            (simp (disch := (first | omega | (simp only [vlen]; first | done | omega))) only [Fits_u, Fits_m, Fits_nil, List.length_append, vcz, hn, ↓va0, ↓va1, ↓va2, ↓va3, vb0, vb1, vb2, vb3, vb4, vb5, vb6, vb7, vb8, vb9, vb10, vz0, vz1, vy0, vx0, ↓reduceIte, Nat.reduceBEq, Nat.reduceEqDiff, Nat.reduceLT, Nat.reduceLeDiff, Nat.reduceAdd, Nat.reduceMul, Nat.reduceSub, reduceCtorEq, Int.reduceToNat] <;> (repeat' first | rfl | apply And.intro))
            all_goals first
              | exact obTabW (fun j hj => by rw [← hi]; exact lfC_step hO.2.1 hcl) (decide_eq_true (by omega)).symm
              | exact obGob fun j hj => rfl
              | rfl
              | skip
    · have hcn : c = out.length := by omega
      rw [lfC_all (fun x => by rw [hO.2.2 x, hn]) hcn]
      subst hcn
      have hpos : 0 < out.length := List.length_pos_of_mem ((hO.2.2 t.root.toNat).mpr (by omega))
      rw [decide_eq_true hpos]
      have hS := hI.sat hO
      have hLo : LfOk t lf := by
        have hsat : ∀ j, j < t.spots.length → lf j = lfW r go (wys t j) := fun j hj => (hS j hj).2
        refine ⟨fun j hj w hw x hx => ?_, fun j hj => ?_, fun j hj w hw => ?_, fun j hj => ?_⟩
        · rw [hsat j hj] at hw
          obtain ⟨m, hm, e⟩ := mem_getD0.mp ((hO.2.2 j).mpr hj)
          have := (kid_ne hO hG hm (Nat.le_refl m) w (by rw [e]; exact lfW_sub hw) x hx).1
          exact this
        · rw [hsat j hj]; exact Nat.le_trans lfW_len (hb j hj).2.1
        · rw [hsat j hj] at hw; exact (hb j hj).2.2 w (lfW_sub hw)
        · rw [hsat j hj]; exact Nat.le_trans kdL_lfW (hb j hj).1
      repeat' first | (refine Br.dec (fun h => ?_) (fun h => ?_) <;> try (exfalso; omega)) | (refine Br.eqi (fun h => ?_) (fun h => ?_) <;> try (exfalso; omega)) | (simp (disch := (first | omega | (simp only [vlen]; first | done | omega))) only [vcz, hn, ↓va0, ↓va1, ↓va2, ↓va3, vb0, vb1, vb2, vb3, vb4, vb5, vb6, vb7, vb8, vb9, vb10, vz0, vz1, vy0, vx0, ↓reduceIte, Nat.reduceBEq, Nat.reduceEqDiff, Nat.reduceLT, Nat.reduceLeDiff, Nat.reduceAdd, Nat.reduceMul, Nat.reduceSub, reduceCtorEq, Int.reduceToNat]) | (refine Br.mk (fun h => ?_) (fun h => ?_)) | (refine BrN.mk (fun h => ?_) ?_) | (refine AltVC.mk ?_ ?_)
      · exact fin_mk (.inr (.inr (.inr ⟨hg0, hr, hG, go, lf, hS, .inl ⟨by assumption, rfl⟩⟩)))
      · refine CallVC.frz 3 ?_
        repeat' first | (refine Br.dec (fun h => ?_) (fun h => ?_) <;> try (exfalso; omega)) | (refine Br.eqi (fun h => ?_) (fun h => ?_) <;> try (exfalso; omega)) | (simp (disch := (first | omega | (simp only [vlen]; first | done | omega))) only [vcz, hn, ↓va0, ↓va1, ↓va2, ↓va3, vb0, vb1, vb2, vb3, vb4, vb5, vb6, vb7, vb8, vb9, vb10, vz0, vz1, vy0, vx0, ↓reduceIte, Nat.reduceBEq, Nat.reduceEqDiff, Nat.reduceLT, Nat.reduceLeDiff, Nat.reduceAdd, Nat.reduceMul, Nat.reduceSub, reduceCtorEq, Int.reduceToNat]) | (refine Br.mk (fun h => ?_) (fun h => ?_)) | (refine BrN.mk (fun h => ?_) ?_) | (refine AltVC.mk ?_ ?_)
        have hR := renum_spec t hG2 hG3 lf hLo
        unfold lfV at hR
        rw [hn] at hR
        refine CallVC.mk hR ?_
        rintro _ ⟨C, hC, rfl⟩
        repeat' first | (refine Br.dec (fun h => ?_) (fun h => ?_) <;> try (exfalso; omega)) | (refine Br.eqi (fun h => ?_) (fun h => ?_) <;> try (exfalso; omega)) | (simp (disch := (first | omega | (simp only [vlen]; first | done | omega))) only [vcz, hn, ↓va0, ↓va1, ↓va2, ↓va3, vb0, vb1, vb2, vb3, vb4, vb5, vb6, vb7, vb8, vb9, vb10, vz0, vz1, vy0, vx0, ↓reduceIte, Nat.reduceBEq, Nat.reduceEqDiff, Nat.reduceLT, Nat.reduceLeDiff, Nat.reduceAdd, Nat.reduceMul, Nat.reduceSub, reduceCtorEq, Int.reduceToNat]) | (refine Br.mk (fun h => ?_) (fun h => ?_)) | (refine BrN.mk (fun h => ?_) ?_) | (refine AltVC.mk ?_ ?_)
        exact fin_mk (.inr (.inr (.inr ⟨hg0, hr, hG, go, lf, hS, .inr ⟨by assumption, C, by rw [hn]; exact hC, rfl⟩⟩)))
end Go.Proofs.Ytcbilnmpiladnaa
