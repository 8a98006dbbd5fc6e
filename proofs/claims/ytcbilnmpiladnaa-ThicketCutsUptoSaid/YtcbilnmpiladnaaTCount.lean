/-
  Thickets: how many trees; the law ThicketCounts.
-/
import Derived.Test.YtcbilnmpiladnaaSound
namespace Go.Proofs.Ytcbilnmpiladnaa
open Go.Dm
set_option linter.unusedSimpArgs false
set_option linter.unnecessarySimpa false
set_option linter.unusedVariables false
set_option linter.defProp false

def tm (a b : Nat) : Nat := min (a * b) 1099511627777
def ad (a b : Nat) : Nat := min (a + b) 1099511627777
def wayF (v : Nat → Nat) (l : List Int) : Nat := l.foldl (fun n x => tm n (v x.toNat)) 1
def spotF (v : Nat → Nat) (z : Nat) (ws : List (List Int)) : Nat := ws.foldl (fun s w => ad s (wayF v (tl w))) z
def spotv (v : Nat → Nat) (ws : List (List Int)) : Nat := spotF v (if ws.length = 0 then 1 else 0) ws
def Sat (t : Dm.Thicket) (v : Nat → Nat) : Prop := ∀ i, i < t.spots.length → v i = spotv v (wys t i)
theorem tm_le {a b : Nat} : tm a b ≤ 1099511627777 := Nat.min_le_right ..
theorem ad_le {a b : Nat} : ad a b ≤ 1099511627777 := Nat.min_le_right ..
theorem wayF_succ {v : Nat → Nat} {l : List Int} {q : Nat} (h : q < l.length) : wayF v (l.take (q + 1)) = tm (wayF v (l.take q)) (v (l.getD q 0).toNat) := by
  unfold wayF; rw [take_succ_getD h 0, List.foldl_append]; rfl
theorem wayF_le {v : Nat → Nat} {l : List Int} {q : Nat} : wayF v (l.take q) ≤ 1099511627777 := by
  induction q with
  | zero => simp [wayF]
  | succ q ih =>
    by_cases h : q < l.length
    · rw [wayF_succ h]; exact tm_le
    · rw [List.take_of_length_le (by omega)]; rwa [List.take_of_length_le (by omega)] at ih
theorem spotF_succ {v : Nat → Nat} {z : Nat} {ws : List (List Int)} {q : Nat} (h : q < ws.length) : spotF v z (ws.take (q + 1)) = ad (spotF v z (ws.take q)) (wayF v (tl (ws.getD q default))) := by
  unfold spotF; rw [take_succ_getD h default, List.foldl_append]; rfl
theorem spotF_le {v : Nat → Nat} {z : Nat} (hz : z ≤ 1099511627777) {ws : List (List Int)} {q : Nat} : spotF v z (ws.take q) ≤ 1099511627777 := by
  induction q with
  | zero => simpa [spotF] using hz
  | succ q ih =>
    by_cases h : q < ws.length
    · rw [spotF_succ h]; exact ad_le
    · rw [List.take_of_length_le (by omega)]; rwa [List.take_of_length_le (by omega)] at ih
theorem wayF_congr {v v' : Nat → Nat} : ∀ {l : List Int} {z : Nat}, (∀ x, x ∈ l → v x.toNat = v' x.toNat) → l.foldl (fun n x => tm n (v x.toNat)) z = l.foldl (fun n x => tm n (v' x.toNat)) z
  | [], _, _ => rfl
  | x :: l, z, h => by
    rw [List.foldl_cons, List.foldl_cons, h x (by simp)]
    exact wayF_congr fun y hy => h y (List.mem_cons_of_mem _ hy)
theorem spotF_congr {v v' : Nat → Nat} : ∀ {ws : List (List Int)} {z : Nat}, (∀ w, w ∈ ws → ∀ x, x ∈ tl w → v x.toNat = v' x.toNat) → spotF v z ws = spotF v' z ws
  | [], _, _ => rfl
  | w :: ws, z, h => by
    unfold spotF
    rw [List.foldl_cons, List.foldl_cons, show wayF v (tl w) = wayF v' (tl w) from wayF_congr (h w (by simp))]
    exact spotF_congr fun y hy => h y (List.mem_cons_of_mem _ hy)
theorem sat_uniq {t : Dm.Thicket} {v v' : Nat → Nat} (h : Sat t v) (h' : Sat t v') {i : Nat} (ho : Okk t t.spots.length i) : v i = v' i := by
  induction ho with
  | @mk i hi hp hk ih =>
    rw [h i hi, h' i hi]
    exact spotF_congr fun w hw x hx => ih w hw x hx
/-- So many spots of an order are reckoned. -/
structure CI (t : Dm.Thicket) (out : List Nat) (c : Nat) (v : Nat → Nat) : Prop where
  eq : ∀ j, j < c → v (out.getD j 0) = spotv v (wys t (out.getD j 0))
  ze : ∀ j, c ≤ j → j < out.length → v (out.getD j 0) = 0
  le : ∀ x, v x ≤ 1099511627777
theorem nd_inj {l : List Nat} (h : l.Nodup) {i j : Nat} (hi : i < l.length) (hj : j < l.length) (e : l.getD i 0 = l.getD j 0) : i = j := by
  simp only [List.getD, List.getElem?_eq_getElem hi, List.getElem?_eq_getElem hj, Option.getD_some] at e
  exact (List.getElem_inj h).mp e
theorem kid_ne {t : Dm.Thicket} {out : List Nat} (ho : Ord t out) (hg : Good t) {c j : Nat} (hc : c < out.length) (hj : j ≤ c) : ∀ w, w ∈ wys t (out.getD j 0) → ∀ x, x ∈ tl w → (0 ≤ x ∧ x < t.spots.length) ∧ x.toNat ≠ out.getD c 0 := fun w hw x hx => by
  have hi := (ho.2.2 _).mp (mem_getD0.mpr ⟨j, by omega, rfl⟩)
  have hok := hg.2.2 _ hi
  cases hok with
  | mk h1 h2 h3 =>
    have h4 := h2 w hw x hx
    have h5 := h3 w hw x hx
    have h6 : x.toNat < t.spots.length := by cases h5; assumption
    refine ⟨⟨h4, by omega⟩, fun e => ?_⟩
    obtain ⟨j', h7, h8⟩ := ho.1 j (by omega) x.toNat ⟨w, hw, by rw [show ((x.toNat : Nat) : Int) = x by omega]; exact hx⟩
    have := nd_inj ho.2.1 (i := j') (j := c) (by omega) hc (by rw [h8, e])
    omega
theorem CI.step {t : Dm.Thicket} {out : List Nat} {c : Nat} {v : Nat → Nat} (h : CI t out c v) (ho : Ord t out) (hg : Good t) (hc : c < out.length) (hle : spotv v (wys t (out.getD c 0)) ≤ 1099511627777) : CI t out (c + 1) (upd v (out.getD c 0) (spotv v (wys t (out.getD c 0)))) := by
  have hcg : ∀ j, j ≤ c → spotv (upd v (out.getD c 0) (spotv v (wys t (out.getD c 0)))) (wys t (out.getD j 0)) = spotv v (wys t (out.getD j 0)) := fun j hj => by
    unfold spotv
    exact spotF_congr fun w hw x hx => upd_ne (kid_ne ho hg hc hj w hw x hx).2
  refine ⟨fun j hj => ?_, fun j h1 h2 => ?_, fun x => ?_⟩
  · rw [hcg j (by omega)]
    by_cases e : j = c
    · subst e; exact upd_at
    · rw [upd_ne fun e2 => e (nd_inj ho.2.1 (by omega) hc e2)]; exact h.eq j (by omega)
  · rw [upd_ne fun e2 => by have := nd_inj ho.2.1 h2 hc e2; omega]; exact h.ze j (by omega) h2
  · by_cases e : x = out.getD c 0
    · rw [e, upd_at]; exact hle
    · rw [upd_ne e]; exact h.le x
theorem CI.sat {t : Dm.Thicket} {out : List Nat} {v : Nat → Nat} (h : CI t out out.length v) (ho : Ord t out) : Sat t v := fun i hi => by
  obtain ⟨j, hj, e⟩ := mem_getD0.mp ((ho.2.2 i).mpr hi)
  rw [← e]; exact h.eq j hj
theorem quoN {b : Nat} : (1099511627777 : Int) / (b : Int) = ((1099511627777 / b : Nat) : Int) := by simp
theorem tm_big {a b : Nat} (hb : b ≠ 0) (h : 1099511627777 / b < a) : tm a b = 1099511627777 := by
  unfold tm
  have := (Nat.div_lt_iff_lt_mul (by omega)).mp h
  omega
theorem tm_small {a b : Nat} (hb : b ≠ 0) (h : ¬ 1099511627777 / b < a) : a * b ≤ 1099511627777 := (Nat.le_div_iff_mul_le (by omega)).mp (by omega)
def sv (v : Nat → Nat) (ws : List (List Int)) (q : Nat) : Nat := spotF v (if ws.length = 0 then 1 else 0) (ws.take q)
theorem sv_zero {v : Nat → Nat} {ws : List (List Int)} : sv v ws 0 = if ws.length = 0 then 1 else 0 := (rfl)
theorem sv_succ {v : Nat → Nat} {ws : List (List Int)} {q : Nat} (h : q < ws.length) : sv v ws (q + 1) = ad (sv v ws q) (wayF v (tl (ws.getD q default))) := spotF_succ h
theorem sv_le {v : Nat → Nat} {ws : List (List Int)} {q : Nat} : sv v ws q ≤ 1099511627777 := spotF_le (by split <;> omega)
theorem sv_all {v : Nat → Nat} {ws : List (List Int)} {q : Nat} (h : q = ws.length) : sv v ws q = spotv v ws := by unfold sv spotv; rw [h, List.take_length]
def wv (v : Nat → Nat) (l : List Int) (r : Nat) : Nat := wayF v (l.take r)
theorem wv_zero {v : Nat → Nat} {l : List Int} : wv v l 0 = 1 := (rfl)
theorem wv_succ {v : Nat → Nat} {l : List Int} {r : Nat} (h : r < l.length) : wv v l (r + 1) = tm (wv v l r) (v (l.getD r 0).toNat) := wayF_succ h
theorem wv_le {v : Nat → Nat} {l : List Int} {r : Nat} : wv v l r ≤ 1099511627777 := wayF_le
theorem wv_all {v : Nat → Nat} {l : List Int} {r : Nat} (h : r = l.length) : wv v l r = wayF v l := by unfold wv; rw [h, List.take_length]
theorem stT_n {n i x : Nat} {st : Nat → Nat} : i64s (tab n fun j => if j = i then ((x : Nat) : Int) else (st j : Int)) = stT n (upd st i x) := by
  unfold stT
  rw [tab_ext fun j _ => ?_]
  unfold upd; split <;> rfl
theorem stT_cp {n i : Nat} {st : Nat → Nat} : i64s (tab n fun j => if j = i then (1099511627777 : Int) else (st j : Int)) = stT n (upd st i 1099511627777) := by
  unfold stT
  rw [tab_ext fun j _ => ?_]
  unfold upd; split <;> rfl
theorem upd_upd {st : Nat → Nat} {i x y : Nat} : upd (upd st i x) i y = upd st i y := by
  funext j; unfold upd; split <;> rfl
theorem upd_same {st : Nat → Nat} {i x : Nat} (h : st i = x) : upd st i x = st := by
  funext j; unfold upd; split
  · next e => rw [e, h]
  · rfl
theorem drop_min {w : List Int} : w.drop (if (w.length : Int) < 1 then (w.length : Int) else 1).toNat = tl w := by
  unfold tl
  split
  · have : w = [] := List.eq_nil_of_length_eq_zero (by omega)
    subst this; rfl
  · rfl
def vtc := And.intro @stT_n <| And.intro @stT_cp <| And.intro @upd_upd <| And.intro @upd_at @drop_min
set_option maxRecDepth 10000 in
set_option maxHeartbeats 4000000 in
theorem table.Times_spec (a b : Nat) (ha : a ≤ 1099511627777) (hb : b ≤ 1099511627777) : Dm.Spec Try.prog 39 [iv .i64 a, iv .i64 b] (· = iv .i64 (tm a b)) := by
  refine spec_of_vc mixed Try.func39 c39 (by rw [show Try.f39.ntmps = _ from Try.ntmps39]; simp) ?_
  unfold m39 r39
  by_cases hb0 : b = 0
  · subst hb0
    repeat' first | (refine Br.dec (fun h => ?_) (fun h => ?_) <;> try (exfalso; omega)) | (refine Br.eqi (fun h => ?_) (fun h => ?_) <;> try (exfalso; omega)) | (simp (disch := (first | omega | (simp only [vlen]; first | done | omega))) only [↓va0, ↓va1, ↓va2, ↓va3, vb0, vb1, vb2, vb3, vb4, vb5, vb6, vb7, vb8, vb9, vb10, vz0, vz1, vy0, vx0, ↓reduceIte, Nat.reduceBEq, Nat.reduceEqDiff, Nat.reduceLT, Nat.reduceLeDiff, Nat.reduceAdd, Nat.reduceMul, Nat.reduceSub, reduceCtorEq, Int.reduceToNat]) | (refine Br.mk (fun h => ?_) (fun h => ?_)) | (refine BrN.mk (fun h => ?_) ?_) | (refine AltVC.mk ?_ ?_)
    all_goals exact fin_mk (by simp [tm])
  · have hq0 := @quoN b
    obtain ⟨q, hqd⟩ : ∃ q, 1099511627777 / b = q := ⟨_, rfl⟩
    have hql : q ≤ 1099511627777 := hqd ▸ Nat.div_le_self ..
    have hbig := @tm_big a b hb0
    have hsml := @tm_small a b hb0
    obtain ⟨m, hmd⟩ : ∃ m, a * b = m := ⟨_, rfl⟩
    have hmi : (a : Int) * (b : Int) = (m : Int) := by rw [← Int.natCast_mul, hmd]
    have htm : tm a b = min m 1099511627777 := by unfold tm; rw [hmd]
    rw [hqd] at hq0 hbig hsml
    rw [hmd] at hsml
    have hm0 : a = 0 → m = 0 := fun h => by rw [← hmd, h, Nat.zero_mul]
    by_cases h : q < a
    · have e := hbig h
      repeat' first | (refine Br.dec (fun h => ?_) (fun h => ?_) <;> try (exfalso; omega)) | (refine Br.eqi (fun h => ?_) (fun h => ?_) <;> try (exfalso; omega)) | (simp (disch := (first | omega | (simp only [vlen]; first | done | omega))) only [hq0, hmi, ↓va0, ↓va1, ↓va2, ↓va3, vb0, vb1, vb2, vb3, vb4, vb5, vb6, vb7, vb8, vb9, vb10, vz0, vz1, vy0, vx0, ↓reduceIte, Nat.reduceBEq, Nat.reduceEqDiff, Nat.reduceLT, Nat.reduceLeDiff, Nat.reduceAdd, Nat.reduceMul, Nat.reduceSub, reduceCtorEq, Int.reduceToNat]) | (refine Br.mk (fun h => ?_) (fun h => ?_)) | (refine BrN.mk (fun h => ?_) ?_) | (refine AltVC.mk ?_ ?_)
      all_goals first
        | exact fin_mk (by rw [e]; rfl)
        | exact fin_mk (by rw [htm]; exact viEq (by omega))
    · have hs := hsml h
      repeat' first | (refine Br.dec (fun h => ?_) (fun h => ?_) <;> try (exfalso; omega)) | (refine Br.eqi (fun h => ?_) (fun h => ?_) <;> try (exfalso; omega)) | (simp (disch := (first | omega | (simp only [vlen]; first | done | omega))) only [hq0, hmi, ↓va0, ↓va1, ↓va2, ↓va3, vb0, vb1, vb2, vb3, vb4, vb5, vb6, vb7, vb8, vb9, vb10, vz0, vz1, vy0, vx0, ↓reduceIte, Nat.reduceBEq, Nat.reduceEqDiff, Nat.reduceLT, Nat.reduceLeDiff, Nat.reduceAdd, Nat.reduceMul, Nat.reduceSub, reduceCtorEq, Int.reduceToNat]) | (refine Br.mk (fun h => ?_) (fun h => ?_)) | (refine BrN.mk (fun h => ?_) ?_) | (refine AltVC.mk ?_ ?_)
      all_goals exact fin_mk (by rw [htm]; exact viEq (by (try split) <;> omega))
set_option maxRecDepth 10000 in
set_option maxHeartbeats 4000000 in
theorem coppicerref.capped_spec (a b : Nat) (ha : a ≤ 1099511627777) (hb : b ≤ 1099511627777) : Dm.Spec Try.prog 42 [iv .i64 a, iv .i64 b] (· = iv .i64 (tm a b)) := by
  refine spec_of_vc mixed Try.func42 c42 (by rw [show Try.f42.ntmps = _ from Try.ntmps42]; simp) ?_
  unfold m42 r42
  by_cases hb0 : b = 0
  · subst hb0
    repeat' first | (refine Br.dec (fun h => ?_) (fun h => ?_) <;> try (exfalso; omega)) | (refine Br.eqi (fun h => ?_) (fun h => ?_) <;> try (exfalso; omega)) | (simp (disch := (first | omega | (simp only [vlen]; first | done | omega))) only [↓va0, ↓va1, ↓va2, ↓va3, vb0, vb1, vb2, vb3, vb4, vb5, vb6, vb7, vb8, vb9, vb10, vz0, vz1, vy0, vx0, ↓reduceIte, Nat.reduceBEq, Nat.reduceEqDiff, Nat.reduceLT, Nat.reduceLeDiff, Nat.reduceAdd, Nat.reduceMul, Nat.reduceSub, reduceCtorEq, Int.reduceToNat]) | (refine Br.mk (fun h => ?_) (fun h => ?_)) | (refine BrN.mk (fun h => ?_) ?_) | (refine AltVC.mk ?_ ?_)
    all_goals exact fin_mk (by simp [tm])
  · have hq0 := @quoN b
    obtain ⟨q, hqd⟩ : ∃ q, 1099511627777 / b = q := ⟨_, rfl⟩
    have hql : q ≤ 1099511627777 := hqd ▸ Nat.div_le_self ..
    have hbig := @tm_big a b hb0
    have hsml := @tm_small a b hb0
    obtain ⟨m, hmd⟩ : ∃ m, a * b = m := ⟨_, rfl⟩
    have hmi : (a : Int) * (b : Int) = (m : Int) := by rw [← Int.natCast_mul, hmd]
    have htm : tm a b = min m 1099511627777 := by unfold tm; rw [hmd]
    rw [hqd] at hq0 hbig hsml
    rw [hmd] at hsml
    have hm0 : a = 0 → m = 0 := fun h => by rw [← hmd, h, Nat.zero_mul]
    by_cases h : q < a
    · have e := hbig h
      repeat' first | (refine Br.dec (fun h => ?_) (fun h => ?_) <;> try (exfalso; omega)) | (refine Br.eqi (fun h => ?_) (fun h => ?_) <;> try (exfalso; omega)) | (simp (disch := (first | omega | (simp only [vlen]; first | done | omega))) only [hq0, hmi, ↓va0, ↓va1, ↓va2, ↓va3, vb0, vb1, vb2, vb3, vb4, vb5, vb6, vb7, vb8, vb9, vb10, vz0, vz1, vy0, vx0, ↓reduceIte, Nat.reduceBEq, Nat.reduceEqDiff, Nat.reduceLT, Nat.reduceLeDiff, Nat.reduceAdd, Nat.reduceMul, Nat.reduceSub, reduceCtorEq, Int.reduceToNat]) | (refine Br.mk (fun h => ?_) (fun h => ?_)) | (refine BrN.mk (fun h => ?_) ?_) | (refine AltVC.mk ?_ ?_)
      all_goals first
        | exact fin_mk (by rw [e]; rfl)
        | exact fin_mk (by rw [htm]; exact viEq (by omega))
    · have hs := hsml h
      repeat' first | (refine Br.dec (fun h => ?_) (fun h => ?_) <;> try (exfalso; omega)) | (refine Br.eqi (fun h => ?_) (fun h => ?_) <;> try (exfalso; omega)) | (simp (disch := (first | omega | (simp only [vlen]; first | done | omega))) only [hq0, hmi, ↓va0, ↓va1, ↓va2, ↓va3, vb0, vb1, vb2, vb3, vb4, vb5, vb6, vb7, vb8, vb9, vb10, vz0, vz1, vy0, vx0, ↓reduceIte, Nat.reduceBEq, Nat.reduceEqDiff, Nat.reduceLT, Nat.reduceLeDiff, Nat.reduceAdd, Nat.reduceMul, Nat.reduceSub, reduceCtorEq, Int.reduceToNat]) | (refine Br.mk (fun h => ?_) (fun h => ?_)) | (refine BrN.mk (fun h => ?_) ?_) | (refine AltVC.mk ?_ ?_)
      all_goals exact fin_mk (by rw [htm]; exact viEq (by (try split) <;> omega))
set_option maxRecDepth 10000 in
set_option maxHeartbeats 4000000 in
theorem add_spec (a b : Nat) (ha : a ≤ 1099511627777) (hb : b ≤ 1099511627777) : Dm.Spec Try.prog 40 [iv .i64 a, iv .i64 b] (· = iv .i64 (ad a b)) := by
  refine spec_of_vc mixed Try.func40 c40 (by rw [show Try.f40.ntmps = _ from Try.ntmps40]; simp) ?_
  unfold m40 r40
  unfold ad
  repeat' first | (refine Br.dec (fun h => ?_) (fun h => ?_) <;> try (exfalso; omega)) | (refine Br.eqi (fun h => ?_) (fun h => ?_) <;> try (exfalso; omega)) | (simp (disch := (first | omega | (simp only [vlen]; first | done | omega))) only [↓va0, ↓va1, ↓va2, ↓va3, vb0, vb1, vb2, vb3, vb4, vb5, vb6, vb7, vb8, vb9, vb10, vz0, vz1, vy0, vx0, ↓reduceIte, Nat.reduceBEq, Nat.reduceEqDiff, Nat.reduceLT, Nat.reduceLeDiff, Nat.reduceAdd, Nat.reduceMul, Nat.reduceSub, reduceCtorEq, Int.reduceToNat]) | (refine Br.mk (fun h => ?_) (fun h => ?_)) | (refine BrN.mk (fun h => ?_) ?_) | (refine AltVC.mk ?_ ?_)
  exact fin_mk (viEq (by (try split) <;> omega))
set_option maxRecDepth 10000 in
set_option maxHeartbeats 4000000 in
theorem count_spec (t : Dm.Thicket) (ht : t.ok) : Dm.Spec Try.prog 16 [.ag (thiD t)] (fun d => (Good t ∧ ∃ v, Sat t v ∧ d = if 1099511627776 < v t.root.toNat then .tu [iv .i64 0, iv .i64 1] else .tu [iv .i64 (v t.root.toNat), iv .i64 0]) ∨ (d = .tu [iv .i64 0, iv .i64 3] ∧ ¬ Good t)) := by
  refine spec_of_vc mixed Try.func16 c16 (by rw [show Try.f16.ntmps = _ from Try.ntmps16]; simp) ?_
  unfold m16 r16
  have hsl := maxLen_le ht.1.1
  have hw : ∀ i, i < t.spots.length → (wys t i).length ≤ 9223372036854775807 ∧ ∀ w, w ∈ wys t i → w.length ≤ 9223372036854775807 := fun i hi => by
    have h1 := (ht.1.2 _ (getD_mem' (l := t.spots) (i := i) hi)).2.2.2
    exact ⟨maxLen_le h1.1, fun w hw => maxLen_le (h1.2 w hw).1⟩
  repeat' first | (refine Br.dec (fun h => ?_) (fun h => ?_) <;> try (exfalso; omega)) | (refine Br.eqi (fun h => ?_) (fun h => ?_) <;> try (exfalso; omega)) | (simp (disch := (first | omega | (simp only [vlen]; first | done | omega))) only [vso, ↓va0, ↓va1, ↓va2, ↓va3, vb0, vb1, vb2, vb3, vb4, vb5, vb6, vb7, vb8, vb9, vb10, vz0, vz1, vy0, vx0, ↓reduceIte, Nat.reduceBEq, Nat.reduceEqDiff, Nat.reduceLT, Nat.reduceLeDiff, Nat.reduceAdd, Nat.reduceMul, Nat.reduceSub, reduceCtorEq, Int.reduceToNat]) | (refine Br.mk (fun h => ?_) (fun h => ?_)) | (refine BrN.mk (fun h => ?_) ?_) | (refine AltVC.mk ?_ ?_)
  refine CallVC.mk (sorted_spec t ht) ?_
  rintro _ (⟨out, rfl, hG, hO⟩ | ⟨rfl, hG⟩)
  rotate_left
  · repeat' first | (refine Br.dec (fun h => ?_) (fun h => ?_) <;> try (exfalso; omega)) | (refine Br.eqi (fun h => ?_) (fun h => ?_) <;> try (exfalso; omega)) | (simp (disch := (first | omega | (simp only [vlen]; first | done | omega))) only [vso, ↓va0, ↓va1, ↓va2, ↓va3, vb0, vb1, vb2, vb3, vb4, vb5, vb6, vb7, vb8, vb9, vb10, vz0, vz1, vy0, vx0, ↓reduceIte, Nat.reduceBEq, Nat.reduceEqDiff, Nat.reduceLT, Nat.reduceLeDiff, Nat.reduceAdd, Nat.reduceMul, Nat.reduceSub, reduceCtorEq, Int.reduceToNat]) | (refine Br.mk (fun h => ?_) (fun h => ?_)) | (refine BrN.mk (fun h => ?_) ?_) | (refine AltVC.mk ?_ ?_)
    exact fin_mk (.inr ⟨rfl, hG⟩)
  have hG2 := hG.1
  have hG3 := hG.2.1
  repeat' first | (refine Br.dec (fun h => ?_) (fun h => ?_) <;> try (exfalso; omega)) | (refine Br.eqi (fun h => ?_) (fun h => ?_) <;> try (exfalso; omega)) | (simp (disch := (first | omega | (simp only [vlen]; first | done | omega))) only [vso, ↓va0, ↓va1, ↓va2, ↓va3, vb0, vb1, vb2, vb3, vb4, vb5, vb6, vb7, vb8, vb9, vb10, vz0, vz1, vy0, vx0, ↓reduceIte, Nat.reduceBEq, Nat.reduceEqDiff, Nat.reduceLT, Nat.reduceLeDiff, Nat.reduceAdd, Nat.reduceMul, Nat.reduceSub, reduceCtorEq, Int.reduceToNat]) | (refine Br.mk (fun h => ?_) (fun h => ?_)) | (refine BrN.mk (fun h => ?_) ?_) | (refine AltVC.mk ?_ ?_)
  refine LoopVC.mk (X := Nat × (Nat → Nat)) (fun x => [(6, .ref 1 1 0 t.spots.length), (27, iv .i64 x.1)]) (fun x => [(0, ⟨2, [thiD t], true, false, .fix⟩), (1, ⟨1, stT t.spots.length (x.2), true, false, .arr⟩)]) (fun x => out.length - x.1) (fun x => x.1 ≤ out.length ∧ CI t out x.1 x.2) (0, fun _ => 0) ⟨Nat.zero_le _, fun j h => absurd h (Nat.not_lt_zero _), fun j _ _ => rfl, fun x => Nat.zero_le _⟩ ?_ ?_
  · (simp (disch := (first | omega | (simp only [vlen]; first | done | omega))) only [Fits_u, Fits_m, Fits_nil, List.length_append, vso, ↓va0, ↓va1, ↓va2, ↓va3, vb0, vb1, vb2, vb3, vb4, vb5, vb6, vb7, vb8, vb9, vb10, vz0, vz1, vy0, vx0, ↓reduceIte, Nat.reduceBEq, Nat.reduceEqDiff, Nat.reduceLT, Nat.reduceLeDiff, Nat.reduceAdd, Nat.reduceMul, Nat.reduceSub, reduceCtorEq, Int.reduceToNat] <;> (repeat' first | rfl | apply And.intro))
    all_goals first | rfl | trace_state
  · rintro ⟨c, v⟩ ⟨hc, hI⟩
    simp only at hc hI ⊢
    by_cases hcl : c < out.length
    · have hil := (hO.2.2 _).mp (mem_getD0.mpr ⟨c, hcl, rfl⟩)
      have hwi := hw _ hil
      have hkid := kid_ne hO hG hcl (Nat.le_refl c)
      unfold wys at hwi hkid
      have hv0 := hI.ze c (Nat.le_refl _) hcl
      have hle := hI.le
      have hz1 : (if (t.spots.getD (out.getD c 0) default).ways.length = 0 then 1 else 0 : Nat) ≤ 1 := by split <;> omega
      have hix : (tbl ixD out).getD c [] = [iv .i64 (out.getD c 0)] := tbl_get hcl
      have hupd : ∀ y : Nat, (fun j => if j = out.getD c 0 then y else v j) = upd v (out.getD c 0) y := fun _ => rfl
      have hol : out.length ≤ t.spots.length := nodup_len _ _ hO.2.1 fun x hx => (hO.2.2 x).mp hx
      have hlast : ∀ q, q = (t.spots.getD (out.getD c 0) default).ways.length → CI t out (c + 1) (upd v (out.getD c 0) (sv v (t.spots.getD (out.getD c 0) default).ways q)) := fun q h => by
        rw [sv_all h]
        exact hI.step hO hG hcl (by have := @sv_le v (t.spots.getD (out.getD c 0) default).ways q; rw [sv_all h] at this; exact this)
      have hz0 : v = upd v (out.getD c 0) 0 := (upd_same hv0).symm
      repeat' first | (refine Br.dec (fun h => ?_) (fun h => ?_) <;> try (exfalso; omega)) | (refine Br.eqi (fun h => ?_) (fun h => ?_) <;> try (exfalso; omega)) | (simp (disch := (first | omega | (simp only [vlen]; first | done | omega))) only [vso, hix, ↓va0, ↓va1, ↓va2, ↓va3, vb0, vb1, vb2, vb3, vb4, vb5, vb6, vb7, vb8, vb9, vb10, vz0, vz1, vy0, vx0, ↓reduceIte, Nat.reduceBEq, Nat.reduceEqDiff, Nat.reduceLT, Nat.reduceLeDiff, Nat.reduceAdd, Nat.reduceMul, Nat.reduceSub, reduceCtorEq, Int.reduceToNat]) | (refine Br.mk (fun h => ?_) (fun h => ?_)) | (refine BrN.mk (fun h => ?_) ?_) | (refine AltVC.mk ?_ ?_)
      all_goals
        refine LoopVC.mk (X := Nat) (fun q => [(6, .ref 1 1 0 t.spots.length), (49, iv .i64 q)]) (fun q => [(0, ⟨2, [thiD t], true, false, .fix⟩), (1, ⟨1, stT t.spots.length (upd v (out.getD c 0) (sv v (t.spots.getD (out.getD c 0) default).ways q)), true, false, .arr⟩)]) (fun q => (t.spots.getD (out.getD c 0) default).ways.length - q) (fun q => q ≤ (t.spots.getD (out.getD c 0) default).ways.length) 0 (Nat.zero_le _) ?_ ?_
        · (simp (disch := (first | omega | (simp only [vlen]; first | done | omega))) only [Fits_u, Fits_m, Fits_nil, List.length_append, vso, ↓va0, ↓va1, ↓va2, ↓va3, vb0, vb1, vb2, vb3, vb4, vb5, vb6, vb7, vb8, vb9, vb10, vz0, vz1, vy0, vx0, ↓reduceIte, Nat.reduceBEq, Nat.reduceEqDiff, Nat.reduceLT, Nat.reduceLeDiff, Nat.reduceAdd, Nat.reduceMul, Nat.reduceSub, reduceCtorEq, Int.reduceToNat] <;> (repeat' first | rfl | apply And.intro))
          rw [sv_zero]
          first
            | (rw [if_pos (by omega)]; done)
            | (rw [if_neg (by omega), ← hz0]; done)
        · intro q hq
          have hsl2 := @sv_le v (t.spots.getD (out.getD c 0) default).ways q
          by_cases hqw : q < (t.spots.getD (out.getD c 0) default).ways.length
          · first
              | (exfalso; omega)
              | (
                have hm : (t.spots.getD (out.getD c 0) default).ways.getD q default ∈ (t.spots.getD (out.getD c 0) default).ways := getD_mem' hqw
                have hwl := hwi.2 _ hm
                have hkm := hkid _ hm
                have htl : (tl ((t.spots.getD (out.getD c 0) default).ways.getD q default)).length ≤ 9223372036854775807 := by unfold tl; rw [List.length_drop]; omega
                repeat' first | (refine Br.dec (fun h => ?_) (fun h => ?_) <;> try (exfalso; omega)) | (refine Br.eqi (fun h => ?_) (fun h => ?_) <;> try (exfalso; omega)) | (simp (disch := (first | omega | (simp only [vlen]; first | done | omega))) only [vso, vtc, ↓va0, ↓va1, ↓va2, ↓va3, vb0, vb1, vb2, vb3, vb4, vb5, vb6, vb7, vb8, vb9, vb10, vz0, vz1, vy0, vx0, ↓reduceIte, Nat.reduceBEq, Nat.reduceEqDiff, Nat.reduceLT, Nat.reduceLeDiff, Nat.reduceAdd, Nat.reduceMul, Nat.reduceSub, reduceCtorEq, Int.reduceToNat]) | (refine Br.mk (fun h => ?_) (fun h => ?_)) | (refine BrN.mk (fun h => ?_) ?_) | (refine AltVC.mk ?_ ?_)
                refine LoopVC.mk (X := Nat) (fun r => [(6, .ref 1 1 0 t.spots.length), (11, iv .i64 (wv v (tl ((t.spots.getD (out.getD c 0) default).ways.getD q default)) r)), (59, iv .i64 r)]) (fun r => [(0, ⟨2, [thiD t], true, false, .fix⟩), (1, ⟨1, stT t.spots.length (upd v (out.getD c 0) (sv v (t.spots.getD (out.getD c 0) default).ways q)), true, false, .arr⟩)]) (fun r => (tl ((t.spots.getD (out.getD c 0) default).ways.getD q default)).length - r) (fun r => r ≤ (tl ((t.spots.getD (out.getD c 0) default).ways.getD q default)).length) 0 (Nat.zero_le _) ?_ ?_
                · (simp (disch := (first | omega | (simp only [vlen]; first | done | omega))) only [Fits_u, Fits_m, Fits_nil, List.length_append, vso, ↓va0, ↓va1, ↓va2, ↓va3, vb0, vb1, vb2, vb3, vb4, vb5, vb6, vb7, vb8, vb9, vb10, vz0, vz1, vy0, vx0, ↓reduceIte, Nat.reduceBEq, Nat.reduceEqDiff, Nat.reduceLT, Nat.reduceLeDiff, Nat.reduceAdd, Nat.reduceMul, Nat.reduceSub, reduceCtorEq, Int.reduceToNat] <;> (repeat' first | rfl | apply And.intro))
                  all_goals first | rfl | trace_state
                · intro r hr
                  have hwf := @wv_le v (tl ((t.spots.getD (out.getD c 0) default).ways.getD q default)) r
                  by_cases hrl : r < (tl ((t.spots.getD (out.getD c 0) default).ways.getD q default)).length
                  · have hkk := hkm _ (getD_mem' (l := tl ((t.spots.getD (out.getD c 0) default).ways.getD q default)) (i := r) hrl)
                    obtain ⟨k, hk⟩ : ∃ k : Nat, (tl ((t.spots.getD (out.getD c 0) default).ways.getD q default)).getD r 0 = k := ⟨((tl ((t.spots.getD (out.getD c 0) default).ways.getD q default)).getD r 0).toNat, by have := hkk.1; change 0 ≤ (tl ((t.spots.getD (out.getD c 0) default).ways.getD q default)).getD r 0 ∧ _ at this; omega⟩
                    have hkk' : ((0 : Int) ≤ (k : Int) ∧ (k : Int) < t.spots.length) ∧ (k : Int).toNat ≠ out.getD c 0 := hk ▸ hkk
                    have hu := @upd_ne v (out.getD c 0) (sv v (t.spots.getD (out.getD c 0) default).ways q) k (by simpa using hkk'.2)
                    repeat' first | (refine Br.dec (fun h => ?_) (fun h => ?_) <;> try (exfalso; omega)) | (refine Br.eqi (fun h => ?_) (fun h => ?_) <;> try (exfalso; omega)) | (simp (disch := (first | omega | (simp only [vlen]; first | done | omega))) only [vso, vtc, hk, hu, ↓va0, ↓va1, ↓va2, ↓va3, vb0, vb1, vb2, vb3, vb4, vb5, vb6, vb7, vb8, vb9, vb10, vz0, vz1, vy0, vx0, ↓reduceIte, Nat.reduceBEq, Nat.reduceEqDiff, Nat.reduceLT, Nat.reduceLeDiff, Nat.reduceAdd, Nat.reduceMul, Nat.reduceSub, reduceCtorEq, Int.reduceToNat]) | (refine Br.mk (fun h => ?_) (fun h => ?_)) | (refine BrN.mk (fun h => ?_) ?_) | (refine AltVC.mk ?_ ?_)
                    refine CallVC.eq (table.Times_spec (wv v (tl ((t.spots.getD (out.getD c 0) default).ways.getD q default)) r) (v k) hwf (hle k)) ?_
                    repeat' first | (refine Br.dec (fun h => ?_) (fun h => ?_) <;> try (exfalso; omega)) | (refine Br.eqi (fun h => ?_) (fun h => ?_) <;> try (exfalso; omega)) | (simp (disch := (first | omega | (simp only [vlen]; first | done | omega))) only [vso, vtc, ↓va0, ↓va1, ↓va2, ↓va3, vb0, vb1, vb2, vb3, vb4, vb5, vb6, vb7, vb8, vb9, vb10, vz0, vz1, vy0, vx0, ↓reduceIte, Nat.reduceBEq, Nat.reduceEqDiff, Nat.reduceLT, Nat.reduceLeDiff, Nat.reduceAdd, Nat.reduceMul, Nat.reduceSub, reduceCtorEq, Int.reduceToNat]) | (refine Br.mk (fun h => ?_) (fun h => ?_)) | (refine BrN.mk (fun h => ?_) ?_) | (refine AltVC.mk ?_ ?_)
                    refine loopK.mk (r + 1) (by simp (disch := (first | omega | (simp only [vlen]; first | done | omega))) only [↓va0, ↓va1, ↓va2, ↓va3, vb0, vb1, vb2, vb3, vb4, vb5, vb6, vb7, vb8, vb9, vb10, vz0, vz1, vy0, vx0, ↓reduceIte, Nat.reduceBEq, Nat.reduceEqDiff, Nat.reduceLT, Nat.reduceLeDiff, Nat.reduceAdd, Nat.reduceMul, Nat.reduceSub, reduceCtorEq, Int.reduceToNat]) (by omega) (by omega) ?_
                    rw [wv_succ hrl, hk, Int.toNat_natCast]
                    (simp (disch := (first | omega | (simp only [vlen]; first | done | omega))) only [Fits_u, Fits_m, Fits_nil, List.length_append, vso, ↓va0, ↓va1, ↓va2, ↓va3, vb0, vb1, vb2, vb3, vb4, vb5, vb6, vb7, vb8, vb9, vb10, vz0, vz1, vy0, vx0, ↓reduceIte, Nat.reduceBEq, Nat.reduceEqDiff, Nat.reduceLT, Nat.reduceLeDiff, Nat.reduceAdd, Nat.reduceMul, Nat.reduceSub, reduceCtorEq, Int.reduceToNat] <;> (repeat' first | rfl | apply And.intro))
                  · have hwa := @wv_all v (tl ((t.spots.getD (out.getD c 0) default).ways.getD q default)) r (by omega)
                    rw [hwa] at hwf
                    repeat' first | (refine Br.dec (fun h => ?_) (fun h => ?_) <;> try (exfalso; omega)) | (refine Br.eqi (fun h => ?_) (fun h => ?_) <;> try (exfalso; omega)) | (simp (disch := (first | omega | (simp only [vlen]; first | done | omega))) only [vso, vtc, hwa, ↓va0, ↓va1, ↓va2, ↓va3, vb0, vb1, vb2, vb3, vb4, vb5, vb6, vb7, vb8, vb9, vb10, vz0, vz1, vy0, vx0, ↓reduceIte, Nat.reduceBEq, Nat.reduceEqDiff, Nat.reduceLT, Nat.reduceLeDiff, Nat.reduceAdd, Nat.reduceMul, Nat.reduceSub, reduceCtorEq, Int.reduceToNat]) | (refine Br.mk (fun h => ?_) (fun h => ?_)) | (refine BrN.mk (fun h => ?_) ?_) | (refine AltVC.mk ?_ ?_)
                    refine CallVC.eq (add_spec (sv v (t.spots.getD (out.getD c 0) default).ways q) (wayF v (tl ((t.spots.getD (out.getD c 0) default).ways.getD q default))) hsl2 hwf) ?_
                    repeat' first | (refine Br.dec (fun h => ?_) (fun h => ?_) <;> try (exfalso; omega)) | (refine Br.eqi (fun h => ?_) (fun h => ?_) <;> try (exfalso; omega)) | (simp (disch := (first | omega | (simp only [vlen]; first | done | omega))) only [vso, vtc, ↓va0, ↓va1, ↓va2, ↓va3, vb0, vb1, vb2, vb3, vb4, vb5, vb6, vb7, vb8, vb9, vb10, vz0, vz1, vy0, vx0, ↓reduceIte, Nat.reduceBEq, Nat.reduceEqDiff, Nat.reduceLT, Nat.reduceLeDiff, Nat.reduceAdd, Nat.reduceMul, Nat.reduceSub, reduceCtorEq, Int.reduceToNat]) | (refine Br.mk (fun h => ?_) (fun h => ?_)) | (refine BrN.mk (fun h => ?_) ?_) | (refine AltVC.mk ?_ ?_)
                    refine loopK.mk (q + 1) (by simp (disch := (first | omega | (simp only [vlen]; first | done | omega))) only [↓va0, ↓va1, ↓va2, ↓va3, vb0, vb1, vb2, vb3, vb4, vb5, vb6, vb7, vb8, vb9, vb10, vz0, vz1, vy0, vx0, ↓reduceIte, Nat.reduceBEq, Nat.reduceEqDiff, Nat.reduceLT, Nat.reduceLeDiff, Nat.reduceAdd, Nat.reduceMul, Nat.reduceSub, reduceCtorEq, Int.reduceToNat]) (by omega) (by omega) ?_
                    rw [sv_succ hqw]
                    (simp (disch := (first | omega | (simp only [vlen]; first | done | omega))) only [Fits_u, Fits_m, Fits_nil, List.length_append, vso, ↓va0, ↓va1, ↓va2, ↓va3, vb0, vb1, vb2, vb3, vb4, vb5, vb6, vb7, vb8, vb9, vb10, vz0, vz1, vy0, vx0, ↓reduceIte, Nat.reduceBEq, Nat.reduceEqDiff, Nat.reduceLT, Nat.reduceLeDiff, Nat.reduceAdd, Nat.reduceMul, Nat.reduceSub, reduceCtorEq, Int.reduceToNat] <;> (repeat' first | rfl | apply And.intro))
                )
          · repeat' first | (refine Br.dec (fun h => ?_) (fun h => ?_) <;> try (exfalso; omega)) | (refine Br.eqi (fun h => ?_) (fun h => ?_) <;> try (exfalso; omega)) | (simp (disch := (first | omega | (simp only [vlen]; first | done | omega))) only [vso, vtc, ↓va0, ↓va1, ↓va2, ↓va3, vb0, vb1, vb2, vb3, vb4, vb5, vb6, vb7, vb8, vb9, vb10, vz0, vz1, vy0, vx0, ↓reduceIte, Nat.reduceBEq, Nat.reduceEqDiff, Nat.reduceLT, Nat.reduceLeDiff, Nat.reduceAdd, Nat.reduceMul, Nat.reduceSub, reduceCtorEq, Int.reduceToNat]) | (refine Br.mk (fun h => ?_) (fun h => ?_)) | (refine BrN.mk (fun h => ?_) ?_) | (refine AltVC.mk ?_ ?_)
            have e : q = (t.spots.getD (out.getD c 0) default).ways.length := by omega
            refine loopK.mk (c + 1, upd v (out.getD c 0) (sv v (t.spots.getD (out.getD c 0) default).ways q)) (by simp (disch := (first | omega | (simp only [vlen]; first | done | omega))) only [↓va0, ↓va1, ↓va2, ↓va3, vb0, vb1, vb2, vb3, vb4, vb5, vb6, vb7, vb8, vb9, vb10, vz0, vz1, vy0, vx0, ↓reduceIte, Nat.reduceBEq, Nat.reduceEqDiff, Nat.reduceLT, Nat.reduceLeDiff, Nat.reduceAdd, Nat.reduceMul, Nat.reduceSub, reduceCtorEq, Int.reduceToNat]) ⟨by show c + 1 ≤ out.length; omega, hlast q e⟩ (by show out.length - (c + 1) < out.length - c; omega) ?_
            (simp (disch := (first | omega | (simp only [vlen]; first | done | omega))) only [Fits_u, Fits_m, Fits_nil, List.length_append, vso, ↓va0, ↓va1, ↓va2, ↓va3, vb0, vb1, vb2, vb3, vb4, vb5, vb6, vb7, vb8, vb9, vb10, vz0, vz1, vy0, vx0, ↓reduceIte, Nat.reduceBEq, Nat.reduceEqDiff, Nat.reduceLT, Nat.reduceLeDiff, Nat.reduceAdd, Nat.reduceMul, Nat.reduceSub, reduceCtorEq, Int.reduceToNat] <;> (repeat' first | rfl | apply And.intro))
    · have hcn : c = out.length := by omega
      subst hcn
      have hS := hI.sat hO
      repeat' first | (refine Br.dec (fun h => ?_) (fun h => ?_) <;> try (exfalso; omega)) | (refine Br.eqi (fun h => ?_) (fun h => ?_) <;> try (exfalso; omega)) | (simp (disch := (first | omega | (simp only [vlen]; first | done | omega))) only [vso, ↓va0, ↓va1, ↓va2, ↓va3, vb0, vb1, vb2, vb3, vb4, vb5, vb6, vb7, vb8, vb9, vb10, vz0, vz1, vy0, vx0, ↓reduceIte, Nat.reduceBEq, Nat.reduceEqDiff, Nat.reduceLT, Nat.reduceLeDiff, Nat.reduceAdd, Nat.reduceMul, Nat.reduceSub, reduceCtorEq, Int.reduceToNat]) | (refine Br.mk (fun h => ?_) (fun h => ?_)) | (refine BrN.mk (fun h => ?_) ?_) | (refine AltVC.mk ?_ ?_)
      · exact fin_mk (.inl ⟨hG, v, hS, by rw [if_pos (by omega)]⟩)
      · exact fin_mk (.inl ⟨hG, v, hS, by rw [if_neg (by omega)]⟩)
set_option maxRecDepth 10000 in
set_option maxHeartbeats 4000000 in
theorem refCount_spec (t : Dm.Thicket) (ht : t.ok) (hG : Good t) (out : List Nat) (hO : Ord t out) : Dm.Spec Try.prog 18 [.ag (thiD t), .sl 1 (tbl ixD out)] (fun d => ∃ v, Sat t v ∧ d = iv .i64 (v t.root.toNat)) := by
  refine spec_of_vc mixed Try.func18 c18 (by rw [show Try.f18.ntmps = _ from Try.ntmps18]; simp) ?_
  unfold m18 r18
  have hsl := maxLen_le ht.1.1
  have hw : ∀ i, i < t.spots.length → (wys t i).length ≤ 9223372036854775807 ∧ ∀ w, w ∈ wys t i → w.length ≤ 9223372036854775807 := fun i hi => by
    have h1 := (ht.1.2 _ (getD_mem' (l := t.spots) (i := i) hi)).2.2.2
    exact ⟨maxLen_le h1.1, fun w hw => maxLen_le (h1.2 w hw).1⟩
  have hG2 := hG.1
  have hG3 := hG.2.1
  have hol0 : out.length ≤ t.spots.length := nodup_len _ _ hO.2.1 fun x hx => (hO.2.2 x).mp hx
  repeat' first | (refine Br.dec (fun h => ?_) (fun h => ?_) <;> try (exfalso; omega)) | (refine Br.eqi (fun h => ?_) (fun h => ?_) <;> try (exfalso; omega)) | (simp (disch := (first | omega | (simp only [vlen]; first | done | omega))) only [vso, ↓va0, ↓va1, ↓va2, ↓va3, vb0, vb1, vb2, vb3, vb4, vb5, vb6, vb7, vb8, vb9, vb10, vz0, vz1, vy0, vx0, ↓reduceIte, Nat.reduceBEq, Nat.reduceEqDiff, Nat.reduceLT, Nat.reduceLeDiff, Nat.reduceAdd, Nat.reduceMul, Nat.reduceSub, reduceCtorEq, Int.reduceToNat]) | (refine Br.mk (fun h => ?_) (fun h => ?_)) | (refine BrN.mk (fun h => ?_) ?_) | (refine AltVC.mk ?_ ?_)
  refine LoopVC.mk (X := Nat × (Nat → Nat)) (fun x => [(5, .ref 1 1 0 t.spots.length), (19, iv .i64 x.1)]) (fun x => [(0, ⟨2, [thiD t], true, false, .fix⟩), (1, ⟨1, stT t.spots.length (x.2), true, false, .arr⟩)]) (fun x => out.length - x.1) (fun x => x.1 ≤ out.length ∧ CI t out x.1 x.2) (0, fun _ => 0) ⟨Nat.zero_le _, fun j h => absurd h (Nat.not_lt_zero _), fun j _ _ => rfl, fun x => Nat.zero_le _⟩ ?_ ?_
  · (simp (disch := (first | omega | (simp only [vlen]; first | done | omega))) only [Fits_u, Fits_m, Fits_nil, List.length_append, vso, ↓va0, ↓va1, ↓va2, ↓va3, vb0, vb1, vb2, vb3, vb4, vb5, vb6, vb7, vb8, vb9, vb10, vz0, vz1, vy0, vx0, ↓reduceIte, Nat.reduceBEq, Nat.reduceEqDiff, Nat.reduceLT, Nat.reduceLeDiff, Nat.reduceAdd, Nat.reduceMul, Nat.reduceSub, reduceCtorEq, Int.reduceToNat] <;> (repeat' first | rfl | apply And.intro))
    all_goals first | rfl | trace_state
  · rintro ⟨c, v⟩ ⟨hc, hI⟩
    simp only at hc hI ⊢
    by_cases hcl : c < out.length
    · have hil := (hO.2.2 _).mp (mem_getD0.mpr ⟨c, hcl, rfl⟩)
      have hwi := hw _ hil
      have hkid := kid_ne hO hG hcl (Nat.le_refl c)
      unfold wys at hwi hkid
      have hv0 := hI.ze c (Nat.le_refl _) hcl
      have hle := hI.le
      have hz1 : (if (t.spots.getD (out.getD c 0) default).ways.length = 0 then 1 else 0 : Nat) ≤ 1 := by split <;> omega
      have hix : (tbl ixD out).getD c [] = [iv .i64 (out.getD c 0)] := tbl_get hcl
      have hupd : ∀ y : Nat, (fun j => if j = out.getD c 0 then y else v j) = upd v (out.getD c 0) y := fun _ => rfl
      have hol : out.length ≤ t.spots.length := nodup_len _ _ hO.2.1 fun x hx => (hO.2.2 x).mp hx
      have hlast : ∀ q, q = (t.spots.getD (out.getD c 0) default).ways.length → CI t out (c + 1) (upd v (out.getD c 0) (sv v (t.spots.getD (out.getD c 0) default).ways q)) := fun q h => by
        rw [sv_all h]
        exact hI.step hO hG hcl (by have := @sv_le v (t.spots.getD (out.getD c 0) default).ways q; rw [sv_all h] at this; exact this)
      have hz0 : v = upd v (out.getD c 0) 0 := (upd_same hv0).symm
      repeat' first | (refine Br.dec (fun h => ?_) (fun h => ?_) <;> try (exfalso; omega)) | (refine Br.eqi (fun h => ?_) (fun h => ?_) <;> try (exfalso; omega)) | (simp (disch := (first | omega | (simp only [vlen]; first | done | omega))) only [vso, hix, ↓va0, ↓va1, ↓va2, ↓va3, vb0, vb1, vb2, vb3, vb4, vb5, vb6, vb7, vb8, vb9, vb10, vz0, vz1, vy0, vx0, ↓reduceIte, Nat.reduceBEq, Nat.reduceEqDiff, Nat.reduceLT, Nat.reduceLeDiff, Nat.reduceAdd, Nat.reduceMul, Nat.reduceSub, reduceCtorEq, Int.reduceToNat]) | (refine Br.mk (fun h => ?_) (fun h => ?_)) | (refine BrN.mk (fun h => ?_) ?_) | (refine AltVC.mk ?_ ?_)
      all_goals
        refine LoopVC.mk (X := Nat) (fun q => [(5, .ref 1 1 0 t.spots.length), (41, iv .i64 q)]) (fun q => [(0, ⟨2, [thiD t], true, false, .fix⟩), (1, ⟨1, stT t.spots.length (upd v (out.getD c 0) (sv v (t.spots.getD (out.getD c 0) default).ways q)), true, false, .arr⟩)]) (fun q => (t.spots.getD (out.getD c 0) default).ways.length - q) (fun q => q ≤ (t.spots.getD (out.getD c 0) default).ways.length) 0 (Nat.zero_le _) ?_ ?_
        · (simp (disch := (first | omega | (simp only [vlen]; first | done | omega))) only [Fits_u, Fits_m, Fits_nil, List.length_append, vso, ↓va0, ↓va1, ↓va2, ↓va3, vb0, vb1, vb2, vb3, vb4, vb5, vb6, vb7, vb8, vb9, vb10, vz0, vz1, vy0, vx0, ↓reduceIte, Nat.reduceBEq, Nat.reduceEqDiff, Nat.reduceLT, Nat.reduceLeDiff, Nat.reduceAdd, Nat.reduceMul, Nat.reduceSub, reduceCtorEq, Int.reduceToNat] <;> (repeat' first | rfl | apply And.intro))
          rw [sv_zero]
          first
            | (rw [if_pos (by omega)]; done)
            | (rw [if_neg (by omega), ← hz0]; done)
        · intro q hq
          have hsl2 := @sv_le v (t.spots.getD (out.getD c 0) default).ways q
          by_cases hqw : q < (t.spots.getD (out.getD c 0) default).ways.length
          · first
              | (exfalso; omega)
              | (
                have hm : (t.spots.getD (out.getD c 0) default).ways.getD q default ∈ (t.spots.getD (out.getD c 0) default).ways := getD_mem' hqw
                have hwl := hwi.2 _ hm
                have hkm := hkid _ hm
                have htl : (tl ((t.spots.getD (out.getD c 0) default).ways.getD q default)).length ≤ 9223372036854775807 := by unfold tl; rw [List.length_drop]; omega
                repeat' first | (refine Br.dec (fun h => ?_) (fun h => ?_) <;> try (exfalso; omega)) | (refine Br.eqi (fun h => ?_) (fun h => ?_) <;> try (exfalso; omega)) | (simp (disch := (first | omega | (simp only [vlen]; first | done | omega))) only [vso, vtc, ↓va0, ↓va1, ↓va2, ↓va3, vb0, vb1, vb2, vb3, vb4, vb5, vb6, vb7, vb8, vb9, vb10, vz0, vz1, vy0, vx0, ↓reduceIte, Nat.reduceBEq, Nat.reduceEqDiff, Nat.reduceLT, Nat.reduceLeDiff, Nat.reduceAdd, Nat.reduceMul, Nat.reduceSub, reduceCtorEq, Int.reduceToNat]) | (refine Br.mk (fun h => ?_) (fun h => ?_)) | (refine BrN.mk (fun h => ?_) ?_) | (refine AltVC.mk ?_ ?_)
                refine CallVC.eq (tail_spec ((t.spots.getD (out.getD c 0) default).ways.getD q default) hwl) ?_
                repeat' first | (refine Br.dec (fun h => ?_) (fun h => ?_) <;> try (exfalso; omega)) | (refine Br.eqi (fun h => ?_) (fun h => ?_) <;> try (exfalso; omega)) | (simp (disch := (first | omega | (simp only [vlen]; first | done | omega))) only [vso, vtc, ↓va0, ↓va1, ↓va2, ↓va3, vb0, vb1, vb2, vb3, vb4, vb5, vb6, vb7, vb8, vb9, vb10, vz0, vz1, vy0, vx0, ↓reduceIte, Nat.reduceBEq, Nat.reduceEqDiff, Nat.reduceLT, Nat.reduceLeDiff, Nat.reduceAdd, Nat.reduceMul, Nat.reduceSub, reduceCtorEq, Int.reduceToNat]) | (refine Br.mk (fun h => ?_) (fun h => ?_)) | (refine BrN.mk (fun h => ?_) ?_) | (refine AltVC.mk ?_ ?_)
                refine LoopVC.mk (X := Nat) (fun r => [(5, .ref 1 1 0 t.spots.length), (10, iv .i64 (wv v (tl ((t.spots.getD (out.getD c 0) default).ways.getD q default)) r)), (48, iv .i64 r)]) (fun r => [(0, ⟨2, [thiD t], true, false, .fix⟩), (1, ⟨1, stT t.spots.length (upd v (out.getD c 0) (sv v (t.spots.getD (out.getD c 0) default).ways q)), true, false, .arr⟩)]) (fun r => (tl ((t.spots.getD (out.getD c 0) default).ways.getD q default)).length - r) (fun r => r ≤ (tl ((t.spots.getD (out.getD c 0) default).ways.getD q default)).length) 0 (Nat.zero_le _) ?_ ?_
                · (simp (disch := (first | omega | (simp only [vlen]; first | done | omega))) only [Fits_u, Fits_m, Fits_nil, List.length_append, vso, ↓va0, ↓va1, ↓va2, ↓va3, vb0, vb1, vb2, vb3, vb4, vb5, vb6, vb7, vb8, vb9, vb10, vz0, vz1, vy0, vx0, ↓reduceIte, Nat.reduceBEq, Nat.reduceEqDiff, Nat.reduceLT, Nat.reduceLeDiff, Nat.reduceAdd, Nat.reduceMul, Nat.reduceSub, reduceCtorEq, Int.reduceToNat] <;> (repeat' first | rfl | apply And.intro))
                  all_goals first | rfl | trace_state
                · intro r hr
                  have hwf := @wv_le v (tl ((t.spots.getD (out.getD c 0) default).ways.getD q default)) r
                  by_cases hrl : r < (tl ((t.spots.getD (out.getD c 0) default).ways.getD q default)).length
                  · have hkk := hkm _ (getD_mem' (l := tl ((t.spots.getD (out.getD c 0) default).ways.getD q default)) (i := r) hrl)
                    obtain ⟨k, hk⟩ : ∃ k : Nat, (tl ((t.spots.getD (out.getD c 0) default).ways.getD q default)).getD r 0 = k := ⟨((tl ((t.spots.getD (out.getD c 0) default).ways.getD q default)).getD r 0).toNat, by have := hkk.1; change 0 ≤ (tl ((t.spots.getD (out.getD c 0) default).ways.getD q default)).getD r 0 ∧ _ at this; omega⟩
                    have hkk' : ((0 : Int) ≤ (k : Int) ∧ (k : Int) < t.spots.length) ∧ (k : Int).toNat ≠ out.getD c 0 := hk ▸ hkk
                    have hu := @upd_ne v (out.getD c 0) (sv v (t.spots.getD (out.getD c 0) default).ways q) k (by simpa using hkk'.2)
                    repeat' first | (refine Br.dec (fun h => ?_) (fun h => ?_) <;> try (exfalso; omega)) | (refine Br.eqi (fun h => ?_) (fun h => ?_) <;> try (exfalso; omega)) | (simp (disch := (first | omega | (simp only [vlen]; first | done | omega))) only [vso, vtc, hk, hu, ↓va0, ↓va1, ↓va2, ↓va3, vb0, vb1, vb2, vb3, vb4, vb5, vb6, vb7, vb8, vb9, vb10, vz0, vz1, vy0, vx0, ↓reduceIte, Nat.reduceBEq, Nat.reduceEqDiff, Nat.reduceLT, Nat.reduceLeDiff, Nat.reduceAdd, Nat.reduceMul, Nat.reduceSub, reduceCtorEq, Int.reduceToNat]) | (refine Br.mk (fun h => ?_) (fun h => ?_)) | (refine BrN.mk (fun h => ?_) ?_) | (refine AltVC.mk ?_ ?_)
                    refine CallVC.eq (coppicerref.capped_spec (wv v (tl ((t.spots.getD (out.getD c 0) default).ways.getD q default)) r) (v k) hwf (hle k)) ?_
                    repeat' first | (refine Br.dec (fun h => ?_) (fun h => ?_) <;> try (exfalso; omega)) | (refine Br.eqi (fun h => ?_) (fun h => ?_) <;> try (exfalso; omega)) | (simp (disch := (first | omega | (simp only [vlen]; first | done | omega))) only [vso, vtc, ↓va0, ↓va1, ↓va2, ↓va3, vb0, vb1, vb2, vb3, vb4, vb5, vb6, vb7, vb8, vb9, vb10, vz0, vz1, vy0, vx0, ↓reduceIte, Nat.reduceBEq, Nat.reduceEqDiff, Nat.reduceLT, Nat.reduceLeDiff, Nat.reduceAdd, Nat.reduceMul, Nat.reduceSub, reduceCtorEq, Int.reduceToNat]) | (refine Br.mk (fun h => ?_) (fun h => ?_)) | (refine BrN.mk (fun h => ?_) ?_) | (refine AltVC.mk ?_ ?_)
                    refine loopK.mk (r + 1) (by simp (disch := (first | omega | (simp only [vlen]; first | done | omega))) only [↓va0, ↓va1, ↓va2, ↓va3, vb0, vb1, vb2, vb3, vb4, vb5, vb6, vb7, vb8, vb9, vb10, vz0, vz1, vy0, vx0, ↓reduceIte, Nat.reduceBEq, Nat.reduceEqDiff, Nat.reduceLT, Nat.reduceLeDiff, Nat.reduceAdd, Nat.reduceMul, Nat.reduceSub, reduceCtorEq, Int.reduceToNat]) (by omega) (by omega) ?_
                    rw [wv_succ hrl, hk, Int.toNat_natCast]
                    (simp (disch := (first | omega | (simp only [vlen]; first | done | omega))) only [Fits_u, Fits_m, Fits_nil, List.length_append, vso, ↓va0, ↓va1, ↓va2, ↓va3, vb0, vb1, vb2, vb3, vb4, vb5, vb6, vb7, vb8, vb9, vb10, vz0, vz1, vy0, vx0, ↓reduceIte, Nat.reduceBEq, Nat.reduceEqDiff, Nat.reduceLT, Nat.reduceLeDiff, Nat.reduceAdd, Nat.reduceMul, Nat.reduceSub, reduceCtorEq, Int.reduceToNat] <;> (repeat' first | rfl | apply And.intro))
                  · have hwa := @wv_all v (tl ((t.spots.getD (out.getD c 0) default).ways.getD q default)) r (by omega)
                    rw [hwa] at hwf
                    have hsum : ((sv v (t.spots.getD (out.getD c 0) default).ways q : Nat) : Int) + ((wayF v (tl ((t.spots.getD (out.getD c 0) default).ways.getD q default)) : Nat) : Int) = ((sv v (t.spots.getD (out.getD c 0) default).ways q + wayF v (tl ((t.spots.getD (out.getD c 0) default).ways.getD q default)) : Nat) : Int) := by omega
                    repeat' first | (refine Br.dec (fun h => ?_) (fun h => ?_) <;> try (exfalso; omega)) | (refine Br.eqi (fun h => ?_) (fun h => ?_) <;> try (exfalso; omega)) | (simp (disch := (first | omega | (simp only [vlen]; first | done | omega))) only [vso, vtc, hwa, hsum, ↓va0, ↓va1, ↓va2, ↓va3, vb0, vb1, vb2, vb3, vb4, vb5, vb6, vb7, vb8, vb9, vb10, vz0, vz1, vy0, vx0, ↓reduceIte, Nat.reduceBEq, Nat.reduceEqDiff, Nat.reduceLT, Nat.reduceLeDiff, Nat.reduceAdd, Nat.reduceMul, Nat.reduceSub, reduceCtorEq, Int.reduceToNat]) | (refine Br.mk (fun h => ?_) (fun h => ?_)) | (refine BrN.mk (fun h => ?_) ?_) | (refine AltVC.mk ?_ ?_)
                    · refine loopK.mk (q + 1) (by simp (disch := (first | omega | (simp only [vlen]; first | done | omega))) only [↓va0, ↓va1, ↓va2, ↓va3, vb0, vb1, vb2, vb3, vb4, vb5, vb6, vb7, vb8, vb9, vb10, vz0, vz1, vy0, vx0, ↓reduceIte, Nat.reduceBEq, Nat.reduceEqDiff, Nat.reduceLT, Nat.reduceLeDiff, Nat.reduceAdd, Nat.reduceMul, Nat.reduceSub, reduceCtorEq, Int.reduceToNat]) (by omega) (by omega) ?_
                      rw [sv_succ hqw, show ad (sv v (t.spots.getD (out.getD c 0) default).ways q) (wayF v (tl ((t.spots.getD (out.getD c 0) default).ways.getD q default))) = 1099511627777 by unfold ad; omega]
                      (simp (disch := (first | omega | (simp only [vlen]; first | done | omega))) only [Fits_u, Fits_m, Fits_nil, List.length_append, vso, vtc, ↓va0, ↓va1, ↓va2, ↓va3, vb0, vb1, vb2, vb3, vb4, vb5, vb6, vb7, vb8, vb9, vb10, vz0, vz1, vy0, vx0, ↓reduceIte, Nat.reduceBEq, Nat.reduceEqDiff, Nat.reduceLT, Nat.reduceLeDiff, Nat.reduceAdd, Nat.reduceMul, Nat.reduceSub, reduceCtorEq, Int.reduceToNat] <;> (repeat' first | rfl | apply And.intro))
                      all_goals trace_state
                    · refine loopK.mk (q + 1) (by simp (disch := (first | omega | (simp only [vlen]; first | done | omega))) only [↓va0, ↓va1, ↓va2, ↓va3, vb0, vb1, vb2, vb3, vb4, vb5, vb6, vb7, vb8, vb9, vb10, vz0, vz1, vy0, vx0, ↓reduceIte, Nat.reduceBEq, Nat.reduceEqDiff, Nat.reduceLT, Nat.reduceLeDiff, Nat.reduceAdd, Nat.reduceMul, Nat.reduceSub, reduceCtorEq, Int.reduceToNat]) (by omega) (by omega) ?_
                      rw [sv_succ hqw, show ad (sv v (t.spots.getD (out.getD c 0) default).ways q) (wayF v (tl ((t.spots.getD (out.getD c 0) default).ways.getD q default))) = sv v (t.spots.getD (out.getD c 0) default).ways q + wayF v (tl ((t.spots.getD (out.getD c 0) default).ways.getD q default)) by unfold ad; omega]
                      (simp (disch := (first | omega | (simp only [vlen]; first | done | omega))) only [Fits_u, Fits_m, Fits_nil, List.length_append, vso, vtc, ↓va0, ↓va1, ↓va2, ↓va3, vb0, vb1, vb2, vb3, vb4, vb5, vb6, vb7, vb8, vb9, vb10, vz0, vz1, vy0, vx0, ↓reduceIte, Nat.reduceBEq, Nat.reduceEqDiff, Nat.reduceLT, Nat.reduceLeDiff, Nat.reduceAdd, Nat.reduceMul, Nat.reduceSub, reduceCtorEq, Int.reduceToNat] <;> (repeat' first | rfl | apply And.intro))
                      all_goals trace_state
                )
          · repeat' first | (refine Br.dec (fun h => ?_) (fun h => ?_) <;> try (exfalso; omega)) | (refine Br.eqi (fun h => ?_) (fun h => ?_) <;> try (exfalso; omega)) | (simp (disch := (first | omega | (simp only [vlen]; first | done | omega))) only [vso, vtc, ↓va0, ↓va1, ↓va2, ↓va3, vb0, vb1, vb2, vb3, vb4, vb5, vb6, vb7, vb8, vb9, vb10, vz0, vz1, vy0, vx0, ↓reduceIte, Nat.reduceBEq, Nat.reduceEqDiff, Nat.reduceLT, Nat.reduceLeDiff, Nat.reduceAdd, Nat.reduceMul, Nat.reduceSub, reduceCtorEq, Int.reduceToNat]) | (refine Br.mk (fun h => ?_) (fun h => ?_)) | (refine BrN.mk (fun h => ?_) ?_) | (refine AltVC.mk ?_ ?_)
            have e : q = (t.spots.getD (out.getD c 0) default).ways.length := by omega
            refine loopK.mk (c + 1, upd v (out.getD c 0) (sv v (t.spots.getD (out.getD c 0) default).ways q)) (by simp (disch := (first | omega | (simp only [vlen]; first | done | omega))) only [↓va0, ↓va1, ↓va2, ↓va3, vb0, vb1, vb2, vb3, vb4, vb5, vb6, vb7, vb8, vb9, vb10, vz0, vz1, vy0, vx0, ↓reduceIte, Nat.reduceBEq, Nat.reduceEqDiff, Nat.reduceLT, Nat.reduceLeDiff, Nat.reduceAdd, Nat.reduceMul, Nat.reduceSub, reduceCtorEq, Int.reduceToNat]) ⟨by show c + 1 ≤ out.length; omega, hlast q e⟩ (by show out.length - (c + 1) < out.length - c; omega) ?_
            (simp (disch := (first | omega | (simp only [vlen]; first | done | omega))) only [Fits_u, Fits_m, Fits_nil, List.length_append, vso, ↓va0, ↓va1, ↓va2, ↓va3, vb0, vb1, vb2, vb3, vb4, vb5, vb6, vb7, vb8, vb9, vb10, vz0, vz1, vy0, vx0, ↓reduceIte, Nat.reduceBEq, Nat.reduceEqDiff, Nat.reduceLT, Nat.reduceLeDiff, Nat.reduceAdd, Nat.reduceMul, Nat.reduceSub, reduceCtorEq, Int.reduceToNat] <;> (repeat' first | rfl | apply And.intro))
    · have hcn : c = out.length := by omega
      subst hcn
      have hS := hI.sat hO
      repeat' first | (refine Br.dec (fun h => ?_) (fun h => ?_) <;> try (exfalso; omega)) | (refine Br.eqi (fun h => ?_) (fun h => ?_) <;> try (exfalso; omega)) | (simp (disch := (first | omega | (simp only [vlen]; first | done | omega))) only [vso, ↓va0, ↓va1, ↓va2, ↓va3, vb0, vb1, vb2, vb3, vb4, vb5, vb6, vb7, vb8, vb9, vb10, vz0, vz1, vy0, vx0, ↓reduceIte, Nat.reduceBEq, Nat.reduceEqDiff, Nat.reduceLT, Nat.reduceLeDiff, Nat.reduceAdd, Nat.reduceMul, Nat.reduceSub, reduceCtorEq, Int.reduceToNat]) | (refine Br.mk (fun h => ?_) (fun h => ?_)) | (refine BrN.mk (fun h => ?_) ?_) | (refine AltVC.mk ?_ ?_)
      exact fin_mk ⟨v, hS, rfl⟩
set_option maxRecDepth 10000 in
set_option maxHeartbeats 4000000 in
theorem thicketCounts_spec (t : Dm.Thicket) (ht : t.ok) : Dm.Spec Try.prog 5 [.ag (thiD t)] (· = .v (.bool true)) := by
  refine spec_of_vc mixed Try.func5 c5 (by rw [show Try.f5.ntmps = _ from Try.ntmps5]; simp) ?_
  unfold m5 r5
  repeat' first | (refine Br.dec (fun h => ?_) (fun h => ?_) <;> try (exfalso; omega)) | (refine Br.eqi (fun h => ?_) (fun h => ?_) <;> try (exfalso; omega)) | (simp (disch := (first | omega | (simp only [vlen]; first | done | omega))) only [vso, ↓va0, ↓va1, ↓va2, ↓va3, vb0, vb1, vb2, vb3, vb4, vb5, vb6, vb7, vb8, vb9, vb10, vz0, vz1, vy0, vx0, ↓reduceIte, Nat.reduceBEq, Nat.reduceEqDiff, Nat.reduceLT, Nat.reduceLeDiff, Nat.reduceAdd, Nat.reduceMul, Nat.reduceSub, reduceCtorEq, Int.reduceToNat]) | (refine Br.mk (fun h => ?_) (fun h => ?_)) | (refine BrN.mk (fun h => ?_) ?_) | (refine AltVC.mk ?_ ?_)
  refine CallVC.mk (count_spec t ht) ?_
  rintro _ (⟨hG, v, hS, rfl⟩ | ⟨rfl, hG⟩)
  · have hok := fun i hi => hG.2.2 i hi
    have hr := hG.2.1
    by_cases hb : 1099511627776 < v t.root.toNat
    · rw [if_pos hb]
      repeat' first | (refine Br.dec (fun h => ?_) (fun h => ?_) <;> try (exfalso; omega)) | (refine Br.eqi (fun h => ?_) (fun h => ?_) <;> try (exfalso; omega)) | (simp (disch := (first | omega | (simp only [vlen]; first | done | omega))) only [vso, ↓va0, ↓va1, ↓va2, ↓va3, vb0, vb1, vb2, vb3, vb4, vb5, vb6, vb7, vb8, vb9, vb10, vz0, vz1, vy0, vx0, ↓reduceIte, Nat.reduceBEq, Nat.reduceEqDiff, Nat.reduceLT, Nat.reduceLeDiff, Nat.reduceAdd, Nat.reduceMul, Nat.reduceSub, reduceCtorEq, Int.reduceToNat]) | (refine Br.mk (fun h => ?_) (fun h => ?_)) | (refine BrN.mk (fun h => ?_) ?_) | (refine AltVC.mk ?_ ?_)
      refine CallVC.mk (sound_spec t ht) ?_
      rintro _ (⟨out, rfl, _, hO⟩ | ⟨out, rfl, hn⟩)
      rotate_left
      · exact absurd hG hn
      repeat' first | (refine Br.dec (fun h => ?_) (fun h => ?_) <;> try (exfalso; omega)) | (refine Br.eqi (fun h => ?_) (fun h => ?_) <;> try (exfalso; omega)) | (simp (disch := (first | omega | (simp only [vlen]; first | done | omega))) only [vso, ↓va0, ↓va1, ↓va2, ↓va3, vb0, vb1, vb2, vb3, vb4, vb5, vb6, vb7, vb8, vb9, vb10, vz0, vz1, vy0, vx0, ↓reduceIte, Nat.reduceBEq, Nat.reduceEqDiff, Nat.reduceLT, Nat.reduceLeDiff, Nat.reduceAdd, Nat.reduceMul, Nat.reduceSub, reduceCtorEq, Int.reduceToNat]) | (refine Br.mk (fun h => ?_) (fun h => ?_)) | (refine BrN.mk (fun h => ?_) ?_) | (refine AltVC.mk ?_ ?_)
      refine CallVC.mk (refCount_spec t ht hG out hO) ?_
      rintro _ ⟨v', hS', rfl⟩
      have e := sat_uniq hS' hS (hok t.root.toNat (by omega))
      rw [e]
      repeat' first | (refine Br.dec (fun h => ?_) (fun h => ?_) <;> try (exfalso; omega)) | (refine Br.eqi (fun h => ?_) (fun h => ?_) <;> try (exfalso; omega)) | (simp (disch := (first | omega | (simp only [vlen]; first | done | omega))) only [vso, ↓va0, ↓va1, ↓va2, ↓va3, vb0, vb1, vb2, vb3, vb4, vb5, vb6, vb7, vb8, vb9, vb10, vz0, vz1, vy0, vx0, ↓reduceIte, Nat.reduceBEq, Nat.reduceEqDiff, Nat.reduceLT, Nat.reduceLeDiff, Nat.reduceAdd, Nat.reduceMul, Nat.reduceSub, reduceCtorEq, Int.reduceToNat]) | (refine Br.mk (fun h => ?_) (fun h => ?_)) | (refine BrN.mk (fun h => ?_) ?_) | (refine AltVC.mk ?_ ?_)
      all_goals exact fin_mk (by simp)
    · rw [if_neg hb]
      repeat' first | (refine Br.dec (fun h => ?_) (fun h => ?_) <;> try (exfalso; omega)) | (refine Br.eqi (fun h => ?_) (fun h => ?_) <;> try (exfalso; omega)) | (simp (disch := (first | omega | (simp only [vlen]; first | done | omega))) only [vso, ↓va0, ↓va1, ↓va2, ↓va3, vb0, vb1, vb2, vb3, vb4, vb5, vb6, vb7, vb8, vb9, vb10, vz0, vz1, vy0, vx0, ↓reduceIte, Nat.reduceBEq, Nat.reduceEqDiff, Nat.reduceLT, Nat.reduceLeDiff, Nat.reduceAdd, Nat.reduceMul, Nat.reduceSub, reduceCtorEq, Int.reduceToNat]) | (refine Br.mk (fun h => ?_) (fun h => ?_)) | (refine BrN.mk (fun h => ?_) ?_) | (refine AltVC.mk ?_ ?_)
      refine CallVC.mk (sound_spec t ht) ?_
      rintro _ (⟨out, rfl, _, hO⟩ | ⟨out, rfl, hn⟩)
      rotate_left
      · exact absurd hG hn
      repeat' first | (refine Br.dec (fun h => ?_) (fun h => ?_) <;> try (exfalso; omega)) | (refine Br.eqi (fun h => ?_) (fun h => ?_) <;> try (exfalso; omega)) | (simp (disch := (first | omega | (simp only [vlen]; first | done | omega))) only [vso, ↓va0, ↓va1, ↓va2, ↓va3, vb0, vb1, vb2, vb3, vb4, vb5, vb6, vb7, vb8, vb9, vb10, vz0, vz1, vy0, vx0, ↓reduceIte, Nat.reduceBEq, Nat.reduceEqDiff, Nat.reduceLT, Nat.reduceLeDiff, Nat.reduceAdd, Nat.reduceMul, Nat.reduceSub, reduceCtorEq, Int.reduceToNat]) | (refine Br.mk (fun h => ?_) (fun h => ?_)) | (refine BrN.mk (fun h => ?_) ?_) | (refine AltVC.mk ?_ ?_)
      refine CallVC.mk (refCount_spec t ht hG out hO) ?_
      rintro _ ⟨v', hS', rfl⟩
      have e := sat_uniq hS' hS (hok t.root.toNat (by omega))
      rw [e]
      repeat' first | (refine Br.dec (fun h => ?_) (fun h => ?_) <;> try (exfalso; omega)) | (refine Br.eqi (fun h => ?_) (fun h => ?_) <;> try (exfalso; omega)) | (simp (disch := (first | omega | (simp only [vlen]; first | done | omega))) only [vso, ↓va0, ↓va1, ↓va2, ↓va3, vb0, vb1, vb2, vb3, vb4, vb5, vb6, vb7, vb8, vb9, vb10, vz0, vz1, vy0, vx0, ↓reduceIte, Nat.reduceBEq, Nat.reduceEqDiff, Nat.reduceLT, Nat.reduceLeDiff, Nat.reduceAdd, Nat.reduceMul, Nat.reduceSub, reduceCtorEq, Int.reduceToNat]) | (refine Br.mk (fun h => ?_) (fun h => ?_)) | (refine BrN.mk (fun h => ?_) ?_) | (refine AltVC.mk ?_ ?_)
      all_goals exact fin_mk (by simp)
  · repeat' first | (refine Br.dec (fun h => ?_) (fun h => ?_) <;> try (exfalso; omega)) | (refine Br.eqi (fun h => ?_) (fun h => ?_) <;> try (exfalso; omega)) | (simp (disch := (first | omega | (simp only [vlen]; first | done | omega))) only [vso, ↓va0, ↓va1, ↓va2, ↓va3, vb0, vb1, vb2, vb3, vb4, vb5, vb6, vb7, vb8, vb9, vb10, vz0, vz1, vy0, vx0, ↓reduceIte, Nat.reduceBEq, Nat.reduceEqDiff, Nat.reduceLT, Nat.reduceLeDiff, Nat.reduceAdd, Nat.reduceMul, Nat.reduceSub, reduceCtorEq, Int.reduceToNat]) | (refine Br.mk (fun h => ?_) (fun h => ?_)) | (refine BrN.mk (fun h => ?_) ?_) | (refine AltVC.mk ?_ ?_)
    refine CallVC.mk (sound_spec t ht) ?_
    rintro _ (⟨out, rfl, hg, hO⟩ | ⟨out, rfl, hn⟩)
    · exact absurd hg hG
    repeat' first | (refine Br.dec (fun h => ?_) (fun h => ?_) <;> try (exfalso; omega)) | (refine Br.eqi (fun h => ?_) (fun h => ?_) <;> try (exfalso; omega)) | (simp (disch := (first | omega | (simp only [vlen]; first | done | omega))) only [vso, ↓va0, ↓va1, ↓va2, ↓va3, vb0, vb1, vb2, vb3, vb4, vb5, vb6, vb7, vb8, vb9, vb10, vz0, vz1, vy0, vx0, ↓reduceIte, Nat.reduceBEq, Nat.reduceEqDiff, Nat.reduceLT, Nat.reduceLeDiff, Nat.reduceAdd, Nat.reduceMul, Nat.reduceSub, reduceCtorEq, Int.reduceToNat]) | (refine Br.mk (fun h => ?_) (fun h => ?_)) | (refine BrN.mk (fun h => ?_) ?_) | (refine AltVC.mk ?_ ?_)
    all_goals exact fin_mk (by simp)
end Go.Proofs.Ytcbilnmpiladnaa
