/-
  table.Make: the names of all stretches.
-/
import Derived.Test.YthjpahmcgpnogaaSpans
namespace Go.Proofs.Ythjpahmcgpnogaa
open Go.Dm
set_option linter.unusedSimpArgs false
set_option linter.unnecessarySimpa false
set_option linter.unusedVariables false
set_option linter.defProp false
def wgt (n : Nat) (t : Nat → Nat → Nat) : Nat := nsum (fun i => nsum (fun j => t i j) (n + 1)) (n + 1)
theorem wgt_le {n : Nat} {t : Nat → Nat → Nat} (hn : n ≤ 12) (h : ∀ i j, t i j < 32) : wgt n t ≤ 5408 := by
  have h1 : ∀ i, nsum (fun j => t i j) (n + 1) ≤ 416 := fun i => Nat.le_trans (nsum_const (c := 32) fun j _ => by have := h i j; omega) (by have := Nat.mul_le_mul_right 32 (show n + 1 ≤ 13 by omega); omega)
  exact Nat.le_trans (nsum_const (c := 416) fun i _ => h1 i) (by have := Nat.mul_le_mul_right 416 (show n + 1 ≤ 13 by omega); omega)
theorem wgt_upd {n i j v : Nat} {t : Nat → Nat → Nat} (hi : i ≤ n) (hj : j ≤ n) (h : t i j < v) : wgt n t < wgt n (upd2 t i j v) := by
  have hle : ∀ a b, t a b ≤ upd2 t i j v a b := fun a b => by
    by_cases e : a = i ∧ b = j
    · obtain ⟨rfl, rfl⟩ := e; rw [upd2_at]; omega
    · rw [upd2_ne e]; exact Nat.le_refl _
  refine nsum_lt_of (m := i) (fun a _ => nsum_le_of fun b _ => hle a b) (by omega) ?_
  exact nsum_lt_of (m := j) (fun b _ => hle i b) (by omega) (by rw [upd2_at]; exact h)
/-- All that is known is so. -/
def Snd (g : Grammar) (w : List Int) (t : Nat → Nat → Nat) : Prop := ∀ a i j, tbB t a i j = true → i ≤ j ∧ j ≤ w.length ∧ (a : Int) < g.n ∧ Der g w [g.k + a] i j
theorem Snd.ov {g : Grammar} {w : List Int} {t : Nat → Nat → Nat} (h : Snd g w t) {l : List Int} {i j : Nat} (ho : ovB g w (tbB t) l i j = true) : Der g w l i j := ovB_sound (fun a i j _ ht => (h a i j ht).2.2.2) ho
theorem Snd.add {g : Grammar} {w : List Int} {t : Nat → Nat → Nat} (h : Snd g w t) {q i j : Nat} (hk : 1 ≤ g.k) (hq : q < g.rules.length) (hl : 0 ≤ (g.rules.getD q default).left ∧ (g.rules.getD q default).left < g.n) (hij : i ≤ j) (hj : j ≤ w.length) (hd : Der g w (g.rules.getD q default).right i j) : Snd g w (upd2 t i j (t i j ||| 2 ^ (g.rules.getD q default).left.toNat)) := fun a b c hb => by
  by_cases e : b = i ∧ c = j
  · obtain ⟨rfl, rfl⟩ := e
    unfold tbB at hb
    rw [upd2_at, or_bit, Bool.or_eq_true, decide_eq_true_eq] at hb
    rcases hb with hb | rfl
    · exact h a b c hb
    · refine ⟨hij, hj, by omega, (der_name (by omega)).mpr ⟨q, hq, by omega, hd⟩⟩
  · unfold tbB at hb
    rw [upd2_ne e] at hb
    exact h a b c hb
/-- A rule at a place adds nothing. -/
def CLq (g : Grammar) (w : List Int) (t : Nat → Nat → Nat) (i q : Nat) : Prop := ∀ j, i ≤ j → j ≤ w.length → ovB g w (tbB t) (g.rules.getD q default).right i j = true → tbB t (g.rules.getD q default).left.toNat i j = true
structure MK (g : Grammar) (w : List Int) (L : List SE) (t : Nat → Nat → Nat) : Prop where
  si : SI L t
  sd : Snd g w t
theorem MK.le {g : Grammar} {w : List Int} {L : List SE} {t : Nat → Nat → Nat} (h : MK g w L t) (hn : w.length ≤ 12) : wgt w.length t ≤ 5408 := wgt_le hn h.si.lt
def Full (g : Grammar) (w : List Int) (t : Nat → Nat → Nat) : Prop := ∀ l i j, i ≤ w.length → (ovB g w (tbB t) l i j = true ↔ Der g w l i j)
theorem MK.full {g : Grammar} {w : List Int} {L : List SE} {t : Nat → Nat → Nat} (h : MK g w L t) (hc : ∀ i q, i ≤ w.length → q < g.rules.length → CLq g w t i q) : Full g w t := fun l i j hi => ⟨fun ho => h.sd.ov ho, fun hd => ovB_all (fun q hq i j hij hj ho => hc i q (by omega) hq j hij hj ho) hd hi⟩
theorem se_app0 {L : List SE} {i j : Nat} : tbl seD L ++ [[D.v (.int .i64 i), D.v (.int .i64 j), D.v (.int .u32 0)]] = tbl seD (L ++ [⟨i, j, 0⟩]) := by rw [tbl_app]; rfl
theorem se_end {L : List SE} {x : SE} : (tbl seD (L ++ [x])).getD L.length [] = seD x := by
  rw [tbl_app]; simp [tbl, List.getD]
theorem app_set {L : List SE} {x y : SE} : (L ++ [x]).set L.length y = L ++ [y] := by simp
theorem end_get {L : List SE} {x : SE} : (L ++ [x]).getD L.length default = x := by simp [List.getD]
def vmk := And.intro @end_get <| And.intro @se_app0 <| And.intro @se_end <| And.intro @app_set @seD_eq
theorem upd2_self {t : Nat → Nat → Nat} {i j : Nat} {v : Nat} (h : t i j = v) : upd2 t i j v = t := by
  funext a b
  by_cases e : a = i ∧ b = j
  · obtain ⟨rfl, rfl⟩ := e; rw [upd2_at, h]
  · rw [upd2_ne e]
def mkO (g : Grammar) (L : List SE) : List (Nat × Ob) := [(0, ⟨4, [[iv .i64 g.k, iv .i64 g.n, iv .i64 g.start, .sl 2 (tbl rulD g.rules)]], true, false, .fix⟩), (1, ⟨3, tbl seD L, true, false, .map [.i64, .i64] true false⟩)]
set_option maxRecDepth 10000 in
set_option maxHeartbeats 4000000 in
theorem make_spec (g : Grammar) (w : List Int) (hc : CW g w) : Dm.SpecH Try.prog 55 [.ag (graD g), .sl 1 (i64s w)] [] (fun d o => d = .mp 1 ∧ ∃ L t, o = [none, some ⟨3, tbl seD L, true, false, .map [.i64, .i64] true false⟩] ∧ MK g w L t ∧ Full g w t) := by
  refine specH_of_vc mixed Try.func55 c55 (by rw [show Try.f55.ntmps = _ from Try.ntmps55]; simp) ?_
  unfold m55 r55
  have hk := hc.v.k
  have hn := hc.v.n
  have hw := hc.w
  have hlen := hc.v.len
  repeat' first | (refine Br.dec (fun h => ?_) (fun h => ?_) <;> try (exfalso; omega)) | (refine Br.eqi (fun h => ?_) (fun h => ?_) <;> try (exfalso; omega)) | (simp (disch := (first | omega | (simp only [vlen]; first | done | omega))) only [vse, ↓va0, ↓va1, ↓va2, ↓va3, vb0, vb1, vb2, vb3, vb4, vb5, vb6, vb7, vb8, vb9, vb10, vz0, vz1, vy0, vx0, ↓reduceIte, Nat.reduceBEq, Nat.reduceEqDiff, Nat.reduceLT, Nat.reduceLeDiff, Nat.reduceAdd, Nat.reduceMul, Nat.reduceSub, reduceCtorEq, Int.reduceToNat]) | (refine Br.mk (fun h => ?_) (fun h => ?_)) | (refine BrN.mk (fun h => ?_) ?_) | (refine AltVC.mk ?_ ?_)
  refine LoopVC.mk (X := List SE × (Nat → Nat → Nat) × Bool) (fun x => [(5, .mp 1), (6, .v (.bool x.2.2))]) (fun x => mkO g x.1) (fun x => if x.2.2 then 5409 - wgt w.length x.2.1 else 0) (fun x => MK g w x.1 x.2.1 ∧ (x.2.2 = false → ∀ i q, i ≤ w.length → q < g.rules.length → CLq g w x.2.1 i q)) ([], fun _ _ => 0, true) ⟨⟨.nil, fun a i j h => by unfold tbB at h; simp at h⟩, by simp⟩ ?_ ?_
  · unfold mkO
    (simp (disch := (first | omega | (simp only [vlen]; first | done | omega))) only [Fits_u, Fits_m, Fits_nil, List.length_append, vse, ↓va0, ↓va1, ↓va2, ↓va3, vb0, vb1, vb2, vb3, vb4, vb5, vb6, vb7, vb8, vb9, vb10, vz0, vz1, vy0, vx0, ↓reduceIte, Nat.reduceBEq, Nat.reduceEqDiff, Nat.reduceLT, Nat.reduceLeDiff, Nat.reduceAdd, Nat.reduceMul, Nat.reduceSub, reduceCtorEq, Int.reduceToNat] <;> (repeat' first | rfl | apply And.intro))
    all_goals first | rfl | skip
  · rintro ⟨L0, t0, g0⟩ ⟨hM0, hc0⟩
    simp only at hM0 hc0 ⊢
    unfold mkO
    cases g0 with
    | false =>
      have hF := hM0.full (hc0 rfl)
      repeat' first | (refine Br.dec (fun h => ?_) (fun h => ?_) <;> try (exfalso; omega)) | (refine Br.eqi (fun h => ?_) (fun h => ?_) <;> try (exfalso; omega)) | (simp (disch := (first | omega | (simp only [vlen]; first | done | omega))) only [vse, ↓va0, ↓va1, ↓va2, ↓va3, vb0, vb1, vb2, vb3, vb4, vb5, vb6, vb7, vb8, vb9, vb10, vz0, vz1, vy0, vx0, ↓reduceIte, Nat.reduceBEq, Nat.reduceEqDiff, Nat.reduceLT, Nat.reduceLeDiff, Nat.reduceAdd, Nat.reduceMul, Nat.reduceSub, reduceCtorEq, Int.reduceToNat]) | (refine Br.mk (fun h => ?_) (fun h => ?_)) | (refine BrN.mk (fun h => ?_) ?_) | (refine AltVC.mk ?_ ?_)
      exact finH_mk [none, some ⟨3, tbl seD L0, true, false, .map [.i64, .i64] true false⟩] (by simp) (by simp (disch := (first | omega | (simp only [vlen]; first | done | omega))) only [vse, ↓va0, ↓va1, ↓va2, ↓va3, vb0, vb1, vb2, vb3, vb4, vb5, vb6, vb7, vb8, vb9, vb10, vz0, vz1, vy0, vx0, ↓reduceIte, Nat.reduceBEq, Nat.reduceEqDiff, Nat.reduceLT, Nat.reduceLeDiff, Nat.reduceAdd, Nat.reduceMul, Nat.reduceSub, reduceCtorEq, Int.reduceToNat]) (by simp (disch := (first | omega | (simp only [vlen]; first | done | omega))) only [vse, ↓va0, ↓va1, ↓va2, ↓va3, vb0, vb1, vb2, vb3, vb4, vb5, vb6, vb7, vb8, vb9, vb10, vz0, vz1, vy0, vx0, ↓reduceIte, Nat.reduceBEq, Nat.reduceEqDiff, Nat.reduceLT, Nat.reduceLeDiff, Nat.reduceAdd, Nat.reduceMul, Nat.reduceSub, reduceCtorEq, Int.reduceToNat]) ⟨by simp (disch := (first | omega | (simp only [vlen]; first | done | omega))) only [vse, ↓va0, ↓va1, ↓va2, ↓va3, vb0, vb1, vb2, vb3, vb4, vb5, vb6, vb7, vb8, vb9, vb10, vz0, vz1, vy0, vx0, ↓reduceIte, Nat.reduceBEq, Nat.reduceEqDiff, Nat.reduceLT, Nat.reduceLeDiff, Nat.reduceAdd, Nat.reduceMul, Nat.reduceSub, reduceCtorEq, Int.reduceToNat], L0, t0, rfl, hM0, hF⟩
    | true =>
      have hW0 := hM0.le hw
      repeat' first | (refine Br.dec (fun h => ?_) (fun h => ?_) <;> try (exfalso; omega)) | (refine Br.eqi (fun h => ?_) (fun h => ?_) <;> try (exfalso; omega)) | (simp (disch := (first | omega | (simp only [vlen]; first | done | omega))) only [vse, ↓va0, ↓va1, ↓va2, ↓va3, vb0, vb1, vb2, vb3, vb4, vb5, vb6, vb7, vb8, vb9, vb10, vz0, vz1, vy0, vx0, ↓reduceIte, Nat.reduceBEq, Nat.reduceEqDiff, Nat.reduceLT, Nat.reduceLeDiff, Nat.reduceAdd, Nat.reduceMul, Nat.reduceSub, reduceCtorEq, Int.reduceToNat]) | (refine Br.mk (fun h => ?_) (fun h => ?_)) | (refine BrN.mk (fun h => ?_) ?_) | (refine AltVC.mk ?_ ?_)
      refine LoopVC.mk (X := List SE × (Nat → Nat → Nat) × Bool × Nat) (fun x => [(5, .mp 1), (6, .v (.bool x.2.2.1)), (7, iv .i64 ((x.2.2.2 : Int) - 1))]) (fun x => mkO g x.1) (fun x => x.2.2.2) (fun x => MK g w x.1 x.2.1 ∧ x.2.2.2 ≤ w.length + 1 ∧ wgt w.length t0 + (if x.2.2.1 then 1 else 0) ≤ wgt w.length x.2.1 ∧ (x.2.2.1 = false → ∀ i q, x.2.2.2 ≤ i → i ≤ w.length → q < g.rules.length → CLq g w x.2.1 i q)) (L0, t0, false, w.length + 1) ⟨hM0, Nat.le_refl _, by simp, fun _ i q h1 h2 => by simp only at h1; omega⟩ ?_ ?_
      · unfold mkO
        (simp (disch := (first | omega | (simp only [vlen]; first | done | omega))) only [Fits_u, Fits_m, Fits_nil, List.length_append, vse, ↓va0, ↓va1, ↓va2, ↓va3, vb0, vb1, vb2, vb3, vb4, vb5, vb6, vb7, vb8, vb9, vb10, vz0, vz1, vy0, vx0, ↓reduceIte, Nat.reduceBEq, Nat.reduceEqDiff, Nat.reduceLT, Nat.reduceLeDiff, Nat.reduceAdd, Nat.reduceMul, Nat.reduceSub, reduceCtorEq, Int.reduceToNat] <;> (repeat' first | rfl | apply And.intro))
        all_goals first | rfl | exact viEq (by omega) | skip
      · rintro ⟨L1, t1, g1, f⟩ ⟨hM1, hf, hw1, hc1⟩
        simp only at hM1 hf hw1 hc1 ⊢
        unfold mkO
        have hW1 := hM1.le hw
        cases f with
        | zero =>
          repeat' first | (refine Br.dec (fun h => ?_) (fun h => ?_) <;> try (exfalso; omega)) | (refine Br.eqi (fun h => ?_) (fun h => ?_) <;> try (exfalso; omega)) | (simp (disch := (first | omega | (simp only [vlen]; first | done | omega))) only [vse, ↓va0, ↓va1, ↓va2, ↓va3, vb0, vb1, vb2, vb3, vb4, vb5, vb6, vb7, vb8, vb9, vb10, vz0, vz1, vy0, vx0, ↓reduceIte, Nat.reduceBEq, Nat.reduceEqDiff, Nat.reduceLT, Nat.reduceLeDiff, Nat.reduceAdd, Nat.reduceMul, Nat.reduceSub, reduceCtorEq, Int.reduceToNat]) | (refine Br.mk (fun h => ?_) (fun h => ?_)) | (refine BrN.mk (fun h => ?_) ?_) | (refine AltVC.mk ?_ ?_)
          refine loopK.mk (L1, t1, g1) (by simp (disch := (first | omega | (simp only [vlen]; first | done | omega))) only [↓va0, ↓va1, ↓va2, ↓va3, vb0, vb1, vb2, vb3, vb4, vb5, vb6, vb7, vb8, vb9, vb10, vz0, vz1, vy0, vx0, ↓reduceIte, Nat.reduceBEq, Nat.reduceEqDiff, Nat.reduceLT, Nat.reduceLeDiff, Nat.reduceAdd, Nat.reduceMul, Nat.reduceSub, reduceCtorEq, Int.reduceToNat]) ⟨hM1, fun h i q h1 h2 => hc1 h i q (Nat.zero_le _) h1 h2⟩ ?_ ?_
          · show (if g1 then 5409 - wgt w.length t1 else 0) < (if true then 5409 - wgt w.length t0 else 0)
            cases g1 <;> simp only [if_true, Bool.false_eq_true, if_false] at hw1 ⊢ <;> omega
          · (simp (disch := (first | omega | (simp only [vlen]; first | done | omega))) only [Fits_u, Fits_m, Fits_nil, List.length_append, vse, ↓va0, ↓va1, ↓va2, ↓va3, vb0, vb1, vb2, vb3, vb4, vb5, vb6, vb7, vb8, vb9, vb10, vz0, vz1, vy0, vx0, ↓reduceIte, Nat.reduceBEq, Nat.reduceEqDiff, Nat.reduceLT, Nat.reduceLeDiff, Nat.reduceAdd, Nat.reduceMul, Nat.reduceSub, reduceCtorEq, Int.reduceToNat] <;> (repeat' first | rfl | apply And.intro))
            all_goals first | rfl | skip
        | succ fr =>
          have hfr : ((fr + 1 : Nat) : Int) - 1 = (fr : Int) := by omega
          repeat' first | (refine Br.dec (fun h => ?_) (fun h => ?_) <;> try (exfalso; omega)) | (refine Br.eqi (fun h => ?_) (fun h => ?_) <;> try (exfalso; omega)) | (simp (disch := (first | omega | (simp only [vlen]; first | done | omega))) only [vse, hfr, ↓va0, ↓va1, ↓va2, ↓va3, vb0, vb1, vb2, vb3, vb4, vb5, vb6, vb7, vb8, vb9, vb10, vz0, vz1, vy0, vx0, ↓reduceIte, Nat.reduceBEq, Nat.reduceEqDiff, Nat.reduceLT, Nat.reduceLeDiff, Nat.reduceAdd, Nat.reduceMul, Nat.reduceSub, reduceCtorEq, Int.reduceToNat]) | (refine Br.mk (fun h => ?_) (fun h => ?_)) | (refine BrN.mk (fun h => ?_) ?_) | (refine AltVC.mk ?_ ?_)
          refine LoopVC.mk (X := List SE × (Nat → Nat → Nat) × Bool × Nat) (fun x => [(5, .mp 1), (6, .v (.bool x.2.2.1)), (24, iv .i64 x.2.2.2)]) (fun x => mkO g x.1) (fun x => g.rules.length - x.2.2.2) (fun x => MK g w x.1 x.2.1 ∧ x.2.2.2 ≤ g.rules.length ∧ wgt w.length t0 + (if x.2.2.1 then 1 else 0) ≤ wgt w.length x.2.1 ∧ (x.2.2.1 = false → (∀ i q, fr + 1 ≤ i → i ≤ w.length → q < g.rules.length → CLq g w x.2.1 i q) ∧ ∀ q, q < x.2.2.2 → CLq g w x.2.1 fr q)) (L1, t1, g1, 0) ⟨hM1, Nat.zero_le _, hw1, fun h => ⟨hc1 h, fun q hq => absurd hq (Nat.not_lt_zero _)⟩⟩ ?_ ?_
          · unfold mkO
            (simp (disch := (first | omega | (simp only [vlen]; first | done | omega))) only [Fits_u, Fits_m, Fits_nil, List.length_append, vse, ↓va0, ↓va1, ↓va2, ↓va3, vb0, vb1, vb2, vb3, vb4, vb5, vb6, vb7, vb8, vb9, vb10, vz0, vz1, vy0, vx0, ↓reduceIte, Nat.reduceBEq, Nat.reduceEqDiff, Nat.reduceLT, Nat.reduceLeDiff, Nat.reduceAdd, Nat.reduceMul, Nat.reduceSub, reduceCtorEq, Int.reduceToNat] <;> (repeat' first | rfl | apply And.intro))
            all_goals first | rfl | skip
          · rintro ⟨L2, t2, g2, q⟩ ⟨hM2, hq, hw2, hc2⟩
            simp only at hM2 hq hw2 hc2 ⊢
            unfold mkO
            have hW2 := hM2.le hw
            by_cases hql : q < g.rules.length
            · have hmr := getD_mem' (l := g.rules) (i := q) hql
              have hleft := hc.v.left _ hmr
              have hlong := hc.v.long _ hmr
              have hE := ends_spec g w hc L2 t2 hM2.si (g.rules.getD q default).right hlong (fun k hk => hc.v.right _ hmr _ (getD_mem' (l := (g.rules.getD q default).right) (i := k) hk)) fr (by omega)
              obtain ⟨a, ha⟩ : ∃ a : Nat, (g.rules.getD q default).left = a := ⟨(g.rules.getD q default).left.toNat, by omega⟩
              have hS : ndS g w t2 (g.rules.getD q default).right fr < 2 ^ (w.length + 1) := setOf_lt
              have hp : 2 ^ (w.length + 1) ≤ 8192 := Nat.le_trans (Nat.pow_le_pow_right (show 0 < 2 by omega) (show w.length + 1 ≤ 13 by omega)) (by decide)
              repeat' first | (refine Br.dec (fun h => ?_) (fun h => ?_) <;> try (exfalso; omega)) | (refine Br.eqi (fun h => ?_) (fun h => ?_) <;> try (exfalso; omega)) | (simp (disch := (first | omega | (simp only [vlen]; first | done | omega))) only [vse, hfr, ↓va0, ↓va1, ↓va2, ↓va3, vb0, vb1, vb2, vb3, vb4, vb5, vb6, vb7, vb8, vb9, vb10, vz0, vz1, vy0, vx0, ↓reduceIte, Nat.reduceBEq, Nat.reduceEqDiff, Nat.reduceLT, Nat.reduceLeDiff, Nat.reduceAdd, Nat.reduceMul, Nat.reduceSub, reduceCtorEq, Int.reduceToNat]) | (refine Br.mk (fun h => ?_) (fun h => ?_)) | (refine BrN.mk (fun h => ?_) ?_) | (refine AltVC.mk ?_ ?_)
              refine CallVC.lendE [1] [.mp 0, .ag (graD g), .sl 1 (i64s w), .sl 1 (i64s (g.rules.getD q default).right), iv .i64 fr] (spO L2) hE (by simp) (by rfl) (by unfold spO; (simp (disch := (first | omega | (simp only [vlen]; first | done | omega))) only [vle0, ↓va0, ↓va1, ↓va2, ↓va3, vb0, vb1, vb2, vb3, vb4, vb5, vb6, vb7, vb8, vb9, vb10, vz0, vz1, vy0, vx0, ↓reduceIte, Nat.reduceBEq, Nat.reduceEqDiff, Nat.reduceLT, Nat.reduceLeDiff, Nat.reduceAdd, Nat.reduceMul, Nat.reduceSub, reduceCtorEq, Int.reduceToNat] <;> (repeat' first | rfl | apply And.intro))) ?_
              rintro _ _ ⟨rfl, rfl⟩
              unfold spO
              repeat' first | (refine Br.dec (fun h => ?_) (fun h => ?_) <;> try (exfalso; omega)) | (refine Br.eqi (fun h => ?_) (fun h => ?_) <;> try (exfalso; omega)) | (simp (disch := (first | omega | (simp only [vlen]; first | done | omega))) only [vse, hfr, ↓va0, ↓va1, ↓va2, ↓va3, vb0, vb1, vb2, vb3, vb4, vb5, vb6, vb7, vb8, vb9, vb10, vz0, vz1, vy0, vx0, ↓reduceIte, Nat.reduceBEq, Nat.reduceEqDiff, Nat.reduceLT, Nat.reduceLeDiff, Nat.reduceAdd, Nat.reduceMul, Nat.reduceSub, reduceCtorEq, Int.reduceToNat]) | (refine Br.mk (fun h => ?_) (fun h => ?_)) | (refine BrN.mk (fun h => ?_) ?_) | (refine AltVC.mk ?_ ?_)
              refine LoopVC.mk (X := List SE × (Nat → Nat → Nat) × Bool × Nat) (fun x => [(5, .mp 1), (6, .v (.bool x.2.2.1)), (11, iv .i64 x.2.2.2)]) (fun x => mkO g x.1 ++ [(2, ⟨2, [[iv .i64 (g.rules.getD q default).left, .sl 1 (i64s (g.rules.getD q default).right)]], true, false, .fix⟩)]) (fun x => w.length + 1 - x.2.2.2) (fun x => MK g w x.1 x.2.1 ∧ fr ≤ x.2.2.2 ∧ x.2.2.2 ≤ w.length + 1 ∧ wgt w.length t0 + (if x.2.2.1 then 1 else 0) ≤ wgt w.length x.2.1 ∧ (x.2.2.1 = false → x.2.1 = t2 ∧ g2 = false ∧ ∀ j, fr ≤ j → j < x.2.2.2 → ovB g w (tbB t2) (g.rules.getD q default).right fr j = true → tbB t2 a fr j = true)) (L2, t2, g2, fr) ⟨hM2, Nat.le_refl _, by show fr ≤ w.length + 1; omega, hw2, fun h => ⟨rfl, h, fun j h1 h2 => by simp only at h2; omega⟩⟩ ?_ ?_
              · simp only [mkO, List.cons_append, List.nil_append]
                (simp (disch := (first | omega | (simp only [vlen]; first | done | omega))) only [Fits_u, Fits_m, Fits_nil, List.length_append, vse, hfr, ↓va0, ↓va1, ↓va2, ↓va3, vb0, vb1, vb2, vb3, vb4, vb5, vb6, vb7, vb8, vb9, vb10, vz0, vz1, vy0, vx0, ↓reduceIte, Nat.reduceBEq, Nat.reduceEqDiff, Nat.reduceLT, Nat.reduceLeDiff, Nat.reduceAdd, Nat.reduceMul, Nat.reduceSub, reduceCtorEq, Int.reduceToNat] <;> (repeat' first | rfl | apply And.intro))
                all_goals first | rfl | skip
              · rintro ⟨L3, t3, g3, j⟩ ⟨hM3, hj1, hj2, hw3, hc3⟩
                simp only at hM3 hj1 hj2 hw3 hc3 ⊢
                simp only [mkO, List.cons_append, List.nil_append]
                have hW3 := hM3.le hw
                by_cases hj : j ≤ w.length
                · have hH := has_spec (ndS g w t2 (g.rules.getD q default).right fr) j (by omega) (by omega)
                  rw [nd_bit hj] at hH
                  cases hb : ovB g w (tbB t2) (g.rules.getD q default).right fr j with
                  | false =>
                    rw [hb] at hH
                    repeat' first | (refine Br.dec (fun h => ?_) (fun h => ?_) <;> try (exfalso; omega)) | (refine Br.eqi (fun h => ?_) (fun h => ?_) <;> try (exfalso; omega)) | (simp (disch := (first | omega | (simp only [vlen]; first | done | omega))) only [vse, hfr, ↓va0, ↓va1, ↓va2, ↓va3, vb0, vb1, vb2, vb3, vb4, vb5, vb6, vb7, vb8, vb9, vb10, vz0, vz1, vy0, vx0, ↓reduceIte, Nat.reduceBEq, Nat.reduceEqDiff, Nat.reduceLT, Nat.reduceLeDiff, Nat.reduceAdd, Nat.reduceMul, Nat.reduceSub, reduceCtorEq, Int.reduceToNat]) | (refine Br.mk (fun h => ?_) (fun h => ?_)) | (refine BrN.mk (fun h => ?_) ?_) | (refine AltVC.mk ?_ ?_)
                    refine CallVC.eq hH ?_
                    repeat' first | (refine Br.dec (fun h => ?_) (fun h => ?_) <;> try (exfalso; omega)) | (refine Br.eqi (fun h => ?_) (fun h => ?_) <;> try (exfalso; omega)) | (simp (disch := (first | omega | (simp only [vlen]; first | done | omega))) only [vse, hfr, ↓va0, ↓va1, ↓va2, ↓va3, vb0, vb1, vb2, vb3, vb4, vb5, vb6, vb7, vb8, vb9, vb10, vz0, vz1, vy0, vx0, ↓reduceIte, Nat.reduceBEq, Nat.reduceEqDiff, Nat.reduceLT, Nat.reduceLeDiff, Nat.reduceAdd, Nat.reduceMul, Nat.reduceSub, reduceCtorEq, Int.reduceToNat]) | (refine Br.mk (fun h => ?_) (fun h => ?_)) | (refine BrN.mk (fun h => ?_) ?_) | (refine AltVC.mk ?_ ?_)
                    refine loopK.mk (L3, t3, g3, j + 1) (by simp (disch := (first | omega | (simp only [vlen]; first | done | omega))) only [↓va0, ↓va1, ↓va2, ↓va3, vb0, vb1, vb2, vb3, vb4, vb5, vb6, vb7, vb8, vb9, vb10, vz0, vz1, vy0, vx0, ↓reduceIte, Nat.reduceBEq, Nat.reduceEqDiff, Nat.reduceLT, Nat.reduceLeDiff, Nat.reduceAdd, Nat.reduceMul, Nat.reduceSub, reduceCtorEq, Int.reduceToNat]) ⟨hM3, by show fr ≤ j + 1; omega, by show j + 1 ≤ w.length + 1; omega, hw3, fun h => ⟨(hc3 h).1, (hc3 h).2.1, fun j' h1 h2 h3 => ?_⟩⟩ (by show w.length + 1 - (j + 1) < w.length + 1 - j; omega) ?_
                    · by_cases e : j' = j
                      · subst e; rw [hb] at h3; cases h3
                      · exact (hc3 h).2.2 j' h1 (by have : j' < j + 1 := h2; omega) h3
                    · (simp (disch := (first | omega | (simp only [vlen]; first | done | omega))) only [Fits_u, Fits_m, Fits_nil, List.length_append, vse, hfr, ↓va0, ↓va1, ↓va2, ↓va3, vb0, vb1, vb2, vb3, vb4, vb5, vb6, vb7, vb8, vb9, vb10, vz0, vz1, vy0, vx0, ↓reduceIte, Nat.reduceBEq, Nat.reduceEqDiff, Nat.reduceLT, Nat.reduceLeDiff, Nat.reduceAdd, Nat.reduceMul, Nat.reduceSub, reduceCtorEq, Int.reduceToNat] <;> (repeat' first | rfl | apply And.intro))
                      all_goals first | rfl | skip
                  | true =>
                    rw [hb] at hH
                    have hlt3 := hM3.si.lt fr j
                    have hHa := has_spec (t3 fr j) a (by omega) (by omega)
                    have hkeep : tbB t3 a fr j = true → ∀ (h : g3 = false), ∀ j', fr ≤ j' → j' < j + 1 → ovB g w (tbB t2) (g.rules.getD q default).right fr j' = true → tbB t2 a fr j' = true := fun hbt h j' h1 h2 h3 => by
                      by_cases e : j' = j
                      · subst e; rw [← (hc3 h).1]; exact hbt
                      · exact (hc3 h).2.2 j' h1 (by omega) h3
                    repeat' first | (refine Br.dec (fun h => ?_) (fun h => ?_) <;> try (exfalso; omega)) | (refine Br.eqi (fun h => ?_) (fun h => ?_) <;> try (exfalso; omega)) | (simp (disch := (first | omega | (simp only [vlen]; first | done | omega))) only [vse, hfr, ↓va0, ↓va1, ↓va2, ↓va3, vb0, vb1, vb2, vb3, vb4, vb5, vb6, vb7, vb8, vb9, vb10, vz0, vz1, vy0, vx0, ↓reduceIte, Nat.reduceBEq, Nat.reduceEqDiff, Nat.reduceLT, Nat.reduceLeDiff, Nat.reduceAdd, Nat.reduceMul, Nat.reduceSub, reduceCtorEq, Int.reduceToNat]) | (refine Br.mk (fun h => ?_) (fun h => ?_)) | (refine BrN.mk (fun h => ?_) ?_) | (refine AltVC.mk ?_ ?_)
                    refine CallVC.eq hH ?_
                    repeat' first | (refine Br.dec (fun h => ?_) (fun h => ?_) <;> try (exfalso; omega)) | (refine Br.eqi (fun h => ?_) (fun h => ?_) <;> try (exfalso; omega)) | (simp (disch := (first | omega | (simp only [vlen]; first | done | omega))) only [vse, hfr, ↓va0, ↓va1, ↓va2, ↓va3, vb0, vb1, vb2, vb3, vb4, vb5, vb6, vb7, vb8, vb9, vb10, vz0, vz1, vy0, vx0, ↓reduceIte, Nat.reduceBEq, Nat.reduceEqDiff, Nat.reduceLT, Nat.reduceLeDiff, Nat.reduceAdd, Nat.reduceMul, Nat.reduceSub, reduceCtorEq, Int.reduceToNat]) | (refine Br.mk (fun h => ?_) (fun h => ?_)) | (refine BrN.mk (fun h => ?_) ?_) | (refine AltVC.mk ?_ ?_)
                    refine BrK.mk (fun r hr he => ?_) (fun hnn => ?_)
                    · obtain ⟨hr1, hr2, hr3, hR⟩ := se_in hM3.si hr he
                      cases hbt : (t3 fr j).testBit a with
                      | true =>
                        rw [hbt] at hHa
                        repeat' first | (refine Br.dec (fun h => ?_) (fun h => ?_) <;> try (exfalso; omega)) | (refine Br.eqi (fun h => ?_) (fun h => ?_) <;> try (exfalso; omega)) | (simp (disch := (first | omega | (simp only [vlen]; first | done | omega))) only [vse, hfr, hR, ha, ↓va0, ↓va1, ↓va2, ↓va3, vb0, vb1, vb2, vb3, vb4, vb5, vb6, vb7, vb8, vb9, vb10, vz0, vz1, vy0, vx0, ↓reduceIte, Nat.reduceBEq, Nat.reduceEqDiff, Nat.reduceLT, Nat.reduceLeDiff, Nat.reduceAdd, Nat.reduceMul, Nat.reduceSub, reduceCtorEq, Int.reduceToNat]) | (refine Br.mk (fun h => ?_) (fun h => ?_)) | (refine BrN.mk (fun h => ?_) ?_) | (refine AltVC.mk ?_ ?_)
                        refine CallVC.eq hHa ?_
                        repeat' first | (refine Br.dec (fun h => ?_) (fun h => ?_) <;> try (exfalso; omega)) | (refine Br.eqi (fun h => ?_) (fun h => ?_) <;> try (exfalso; omega)) | (simp (disch := (first | omega | (simp only [vlen]; first | done | omega))) only [vse, hfr, ha, ↓va0, ↓va1, ↓va2, ↓va3, vb0, vb1, vb2, vb3, vb4, vb5, vb6, vb7, vb8, vb9, vb10, vz0, vz1, vy0, vx0, ↓reduceIte, Nat.reduceBEq, Nat.reduceEqDiff, Nat.reduceLT, Nat.reduceLeDiff, Nat.reduceAdd, Nat.reduceMul, Nat.reduceSub, reduceCtorEq, Int.reduceToNat]) | (refine Br.mk (fun h => ?_) (fun h => ?_)) | (refine BrN.mk (fun h => ?_) ?_) | (refine AltVC.mk ?_ ?_)
                        refine loopK.mk (L3, t3, g3, j + 1) (by simp (disch := (first | omega | (simp only [vlen]; first | done | omega))) only [↓va0, ↓va1, ↓va2, ↓va3, vb0, vb1, vb2, vb3, vb4, vb5, vb6, vb7, vb8, vb9, vb10, vz0, vz1, vy0, vx0, ↓reduceIte, Nat.reduceBEq, Nat.reduceEqDiff, Nat.reduceLT, Nat.reduceLeDiff, Nat.reduceAdd, Nat.reduceMul, Nat.reduceSub, reduceCtorEq, Int.reduceToNat]) ⟨hM3, by show fr ≤ j + 1; omega, by show j + 1 ≤ w.length + 1; omega, hw3, fun h => ⟨(hc3 h).1, (hc3 h).2.1, hkeep hbt h⟩⟩ (by show w.length + 1 - (j + 1) < w.length + 1 - j; omega) ?_
                        (simp (disch := (first | omega | (simp only [vlen]; first | done | omega))) only [Fits_u, Fits_m, Fits_nil, List.length_append, vse, hfr, ha, ↓va0, ↓va1, ↓va2, ↓va3, vb0, vb1, vb2, vb3, vb4, vb5, vb6, vb7, vb8, vb9, vb10, vz0, vz1, vy0, vx0, ↓reduceIte, Nat.reduceBEq, Nat.reduceEqDiff, Nat.reduceLT, Nat.reduceLeDiff, Nat.reduceAdd, Nat.reduceMul, Nat.reduceSub, reduceCtorEq, Int.reduceToNat] <;> (repeat' first | rfl | apply And.intro))
                        all_goals first | rfl | skip
                      | false =>
                        rw [hbt] at hHa
                        have hV : t3 fr j ||| 2 ^ a < 32 := or_two_lt (n := 5) hlt3 (by omega)
                        have hgt : t3 fr j < t3 fr j ||| 2 ^ a := Nat.lt_of_le_of_ne le_or fun e => by
                          have h2 := or_bit (S := t3 fr j) (l := a) (x := a)
                          rw [← e, hbt] at h2; simp at h2
                        have hwn : wgt w.length t0 + (if true then 1 else 0) ≤ wgt w.length (upd2 t3 fr j (t3 fr j ||| 2 ^ a)) := by
                          have := wgt_upd (n := w.length) (i := fr) (j := j) (by omega) hj hgt
                          simp only [if_true]; omega
                        have hsd : Snd g w (upd2 t3 fr j (t3 fr j ||| 2 ^ a)) := by
                          have := hM3.sd.add (by omega) hql hleft hj1 hj (hM2.sd.ov hb)
                          rwa [ha, Int.toNat_natCast] at this
                        have hsh := @shlN a (by omega)
                        have hor := @orN (t3 fr j) (2 ^ a) (by omega) (by have := @pow_le31 a (by omega); omega)
                        have hr1' := hr1
                        have hset : ∀ r', r' < L3.length → (L3.getD r' default).i = fr → (L3.getD r' default).j = j → MK g w (L3.set r' ⟨fr, j, t3 fr j ||| 2 ^ a⟩) (upd2 t3 fr j (t3 fr j ||| 2 ^ a)) := fun r' h1 h2 h3 => ⟨hM3.si.set h1 h2 h3 hV, hsd⟩
                        repeat' first | (refine Br.dec (fun h => ?_) (fun h => ?_) <;> try (exfalso; omega)) | (refine Br.eqi (fun h => ?_) (fun h => ?_) <;> try (exfalso; omega)) | (simp (disch := (first | omega | (simp only [vlen]; first | done | omega))) only [vse, hfr, hR, ha, ↓va0, ↓va1, ↓va2, ↓va3, vb0, vb1, vb2, vb3, vb4, vb5, vb6, vb7, vb8, vb9, vb10, vz0, vz1, vy0, vx0, ↓reduceIte, Nat.reduceBEq, Nat.reduceEqDiff, Nat.reduceLT, Nat.reduceLeDiff, Nat.reduceAdd, Nat.reduceMul, Nat.reduceSub, reduceCtorEq, Int.reduceToNat]) | (refine Br.mk (fun h => ?_) (fun h => ?_)) | (refine BrN.mk (fun h => ?_) ?_) | (refine AltVC.mk ?_ ?_)
                        refine CallVC.eq hHa ?_
                        repeat' first | (refine Br.dec (fun h => ?_) (fun h => ?_) <;> try (exfalso; omega)) | (refine Br.eqi (fun h => ?_) (fun h => ?_) <;> try (exfalso; omega)) | (simp (disch := (first | omega | (simp only [vlen]; first | done | omega))) only [vse, hfr, ha, ↓va0, ↓va1, ↓va2, ↓va3, vb0, vb1, vb2, vb3, vb4, vb5, vb6, vb7, vb8, vb9, vb10, vz0, vz1, vy0, vx0, ↓reduceIte, Nat.reduceBEq, Nat.reduceEqDiff, Nat.reduceLT, Nat.reduceLeDiff, Nat.reduceAdd, Nat.reduceMul, Nat.reduceSub, reduceCtorEq, Int.reduceToNat]) | (refine Br.mk (fun h => ?_) (fun h => ?_)) | (refine BrN.mk (fun h => ?_) ?_) | (refine AltVC.mk ?_ ?_)
                        refine DrawVC.t ?_
                        repeat' first | (refine Br.dec (fun h => ?_) (fun h => ?_) <;> try (exfalso; omega)) | (refine Br.eqi (fun h => ?_) (fun h => ?_) <;> try (exfalso; omega)) | (simp (disch := (first | omega | (simp only [vlen]; first | done | omega))) only [vse, hfr, ha, ↓va0, ↓va1, ↓va2, ↓va3, vb0, vb1, vb2, vb3, vb4, vb5, vb6, vb7, vb8, vb9, vb10, vz0, vz1, vy0, vx0, ↓reduceIte, Nat.reduceBEq, Nat.reduceEqDiff, Nat.reduceLT, Nat.reduceLeDiff, Nat.reduceAdd, Nat.reduceMul, Nat.reduceSub, reduceCtorEq, Int.reduceToNat]) | (refine Br.mk (fun h => ?_) (fun h => ?_)) | (refine BrN.mk (fun h => ?_) ?_) | (refine AltVC.mk ?_ ?_)
                        · refine BrK.mk (fun r1 hr1 he1 => ?_) (fun hnn => absurd ⟨hr2, hr3⟩ (se_out hnn r hr1'))
                          obtain ⟨k1, k2, k3, hR1⟩ := se_in hM3.si hr1 he1
                          repeat' first | (refine Br.dec (fun h => ?_) (fun h => ?_) <;> try (exfalso; omega)) | (refine Br.eqi (fun h => ?_) (fun h => ?_) <;> try (exfalso; omega)) | (simp (disch := (first | omega | (simp only [vlen]; first | done | omega))) only [vse, vmk, hfr, hR1, ha, hsh, hor, ↓va0, ↓va1, ↓va2, ↓va3, vb0, vb1, vb2, vb3, vb4, vb5, vb6, vb7, vb8, vb9, vb10, vz0, vz1, vy0, vx0, ↓reduceIte, Nat.reduceBEq, Nat.reduceEqDiff, Nat.reduceLT, Nat.reduceLeDiff, Nat.reduceAdd, Nat.reduceMul, Nat.reduceSub, reduceCtorEq, Int.reduceToNat]) | (refine Br.mk (fun h => ?_) (fun h => ?_)) | (refine BrN.mk (fun h => ?_) ?_) | (refine AltVC.mk ?_ ?_)
                          refine BrK.mk (fun r2 hr2' he2 => ?_) (fun hnn => absurd ⟨hr2, hr3⟩ (se_out hnn r hr1'))
                          obtain ⟨m1, m2, m3, hR2⟩ := se_in hM3.si hr2' he2
                          repeat' first | (refine Br.dec (fun h => ?_) (fun h => ?_) <;> try (exfalso; omega)) | (refine Br.eqi (fun h => ?_) (fun h => ?_) <;> try (exfalso; omega)) | (simp (disch := (first | omega | (simp only [vlen]; first | done | omega))) only [vse, vmk, hfr, hR2, ha, hsh, hor, ↓va0, ↓va1, ↓va2, ↓va3, vb0, vb1, vb2, vb3, vb4, vb5, vb6, vb7, vb8, vb9, vb10, vz0, vz1, vy0, vx0, ↓reduceIte, Nat.reduceBEq, Nat.reduceEqDiff, Nat.reduceLT, Nat.reduceLeDiff, Nat.reduceAdd, Nat.reduceMul, Nat.reduceSub, reduceCtorEq, Int.reduceToNat]) | (refine Br.mk (fun h => ?_) (fun h => ?_)) | (refine BrN.mk (fun h => ?_) ?_) | (refine AltVC.mk ?_ ?_)
                          refine loopK.mk (L3.set r2 ⟨fr, j, t3 fr j ||| 2 ^ a⟩, upd2 t3 fr j (t3 fr j ||| 2 ^ a), true, j + 1) (by simp (disch := (first | omega | (simp only [vlen]; first | done | omega))) only [↓va0, ↓va1, ↓va2, ↓va3, vb0, vb1, vb2, vb3, vb4, vb5, vb6, vb7, vb8, vb9, vb10, vz0, vz1, vy0, vx0, ↓reduceIte, Nat.reduceBEq, Nat.reduceEqDiff, Nat.reduceLT, Nat.reduceLeDiff, Nat.reduceAdd, Nat.reduceMul, Nat.reduceSub, reduceCtorEq, Int.reduceToNat]) ⟨hset r2 m1 m2 m3, by show fr ≤ j + 1; omega, by show j + 1 ≤ w.length + 1; omega, hwn, fun h => by cases h⟩ (by show w.length + 1 - (j + 1) < w.length + 1 - j; omega) ?_
                          (simp (disch := (first | omega | (simp only [vlen]; first | done | omega))) only [Fits_u, Fits_m, Fits_nil, List.length_append, vse, vmk, hfr, ha, ↓va0, ↓va1, ↓va2, ↓va3, vb0, vb1, vb2, vb3, vb4, vb5, vb6, vb7, vb8, vb9, vb10, vz0, vz1, vy0, vx0, ↓reduceIte, Nat.reduceBEq, Nat.reduceEqDiff, Nat.reduceLT, Nat.reduceLeDiff, Nat.reduceAdd, Nat.reduceMul, Nat.reduceSub, reduceCtorEq, Int.reduceToNat] <;> (repeat' first | rfl | apply And.intro))
                          all_goals first | rfl | skip
                        · refine BrK.mk (fun r2 hr2' he2 => ?_) (fun hnn => absurd ⟨hr2, hr3⟩ (se_out hnn r hr1'))
                          obtain ⟨m1, m2, m3, hR2⟩ := se_in hM3.si hr2' he2
                          repeat' first | (refine Br.dec (fun h => ?_) (fun h => ?_) <;> try (exfalso; omega)) | (refine Br.eqi (fun h => ?_) (fun h => ?_) <;> try (exfalso; omega)) | (simp (disch := (first | omega | (simp only [vlen]; first | done | omega))) only [vse, vmk, hfr, hR2, ha, hsh, hor, ↓va0, ↓va1, ↓va2, ↓va3, vb0, vb1, vb2, vb3, vb4, vb5, vb6, vb7, vb8, vb9, vb10, vz0, vz1, vy0, vx0, ↓reduceIte, Nat.reduceBEq, Nat.reduceEqDiff, Nat.reduceLT, Nat.reduceLeDiff, Nat.reduceAdd, Nat.reduceMul, Nat.reduceSub, reduceCtorEq, Int.reduceToNat]) | (refine Br.mk (fun h => ?_) (fun h => ?_)) | (refine BrN.mk (fun h => ?_) ?_) | (refine AltVC.mk ?_ ?_)
                          refine BrK.mk (fun r1 hr1 he1 => ?_) (fun hnn => absurd ⟨hr2, hr3⟩ (se_out hnn r hr1'))
                          obtain ⟨k1, k2, k3, hR1⟩ := se_in hM3.si hr1 he1
                          repeat' first | (refine Br.dec (fun h => ?_) (fun h => ?_) <;> try (exfalso; omega)) | (refine Br.eqi (fun h => ?_) (fun h => ?_) <;> try (exfalso; omega)) | (simp (disch := (first | omega | (simp only [vlen]; first | done | omega))) only [vse, vmk, hfr, hR1, hR2, ha, hsh, hor, ↓va0, ↓va1, ↓va2, ↓va3, vb0, vb1, vb2, vb3, vb4, vb5, vb6, vb7, vb8, vb9, vb10, vz0, vz1, vy0, vx0, ↓reduceIte, Nat.reduceBEq, Nat.reduceEqDiff, Nat.reduceLT, Nat.reduceLeDiff, Nat.reduceAdd, Nat.reduceMul, Nat.reduceSub, reduceCtorEq, Int.reduceToNat]) | (refine Br.mk (fun h => ?_) (fun h => ?_)) | (refine BrN.mk (fun h => ?_) ?_) | (refine AltVC.mk ?_ ?_)
                          refine loopK.mk (L3.set r2 ⟨fr, j, t3 fr j ||| 2 ^ a⟩, upd2 t3 fr j (t3 fr j ||| 2 ^ a), true, j + 1) (by simp (disch := (first | omega | (simp only [vlen]; first | done | omega))) only [↓va0, ↓va1, ↓va2, ↓va3, vb0, vb1, vb2, vb3, vb4, vb5, vb6, vb7, vb8, vb9, vb10, vz0, vz1, vy0, vx0, ↓reduceIte, Nat.reduceBEq, Nat.reduceEqDiff, Nat.reduceLT, Nat.reduceLeDiff, Nat.reduceAdd, Nat.reduceMul, Nat.reduceSub, reduceCtorEq, Int.reduceToNat]) ⟨hset r2 m1 m2 m3, by show fr ≤ j + 1; omega, by show j + 1 ≤ w.length + 1; omega, hwn, fun h => by cases h⟩ (by show w.length + 1 - (j + 1) < w.length + 1 - j; omega) ?_
                          (simp (disch := (first | omega | (simp only [vlen]; first | done | omega))) only [Fits_u, Fits_m, Fits_nil, List.length_append, vse, vmk, hfr, ha, ↓va0, ↓va1, ↓va2, ↓va3, vb0, vb1, vb2, vb3, vb4, vb5, vb6, vb7, vb8, vb9, vb10, vz0, vz1, vy0, vx0, ↓reduceIte, Nat.reduceBEq, Nat.reduceEqDiff, Nat.reduceLT, Nat.reduceLeDiff, Nat.reduceAdd, Nat.reduceMul, Nat.reduceSub, reduceCtorEq, Int.reduceToNat] <;> (repeat' first | rfl | apply And.intro))
                          all_goals first | rfl | skip
                    · have h0 := hM3.si.no fr j (se_out hnn)
                      have hno := se_out hnn
                      have hbt : (t3 fr j).testBit a = false := by rw [h0, Nat.zero_testBit]
                      have hV : t3 fr j ||| 2 ^ a < 32 := or_two_lt (n := 5) hlt3 (by omega)
                      have hgt : t3 fr j < t3 fr j ||| 2 ^ a := Nat.lt_of_le_of_ne le_or fun e => by
                        have h2 := or_bit (S := t3 fr j) (l := a) (x := a)
                        rw [← e, hbt] at h2; simp at h2
                      have hwn : wgt w.length t0 + (if true then 1 else 0) ≤ wgt w.length (upd2 t3 fr j (t3 fr j ||| 2 ^ a)) := by
                        have := wgt_upd (n := w.length) (i := fr) (j := j) (by omega) hj hgt
                        simp only [if_true]; omega
                      have hsd : Snd g w (upd2 t3 fr j (t3 fr j ||| 2 ^ a)) := by
                        have := hM3.sd.add (by omega) hql hleft hj1 hj (hM2.sd.ov hb)
                        rwa [ha, Int.toNat_natCast] at this
                      have hsh := @shlN a (by omega)
                      have hadd : MK g w (L3 ++ [⟨fr, j, 2 ^ a⟩]) (upd2 t3 fr j (t3 fr j ||| 2 ^ a)) := by
                        have e : t3 fr j ||| 2 ^ a = 2 ^ a := by rw [h0, Nat.zero_or]
                        rw [e] at hV hsd ⊢
                        exact ⟨hM3.si.add hno hV, hsd⟩
                      have hsi0 : SI (L3 ++ [⟨fr, j, 0⟩]) t3 := by
                        have := hM3.si.add hno (v := 0) (by omega)
                        rwa [upd2_self h0] at this
                      have hend : ∀ h : (∀ r, r < (tbl seD (L3 ++ [⟨fr, j, 0⟩])).length → ((tbl seD (L3 ++ [⟨fr, j, 0⟩])).getD r []).take 2 ≠ [.v (.int .i64 fr), .v (.int .i64 j)]), ¬ (fr = fr ∧ j = j) := fun h _ => by
                        have := h L3.length (by rw [tbl_len]; simp)
                        rw [se_end] at this
                        exact this rfl
                      have hor0 := @orN 0 (2 ^ a) (by omega) (by have := @pow_le31 a (by omega); omega)
                      rw [show ((0 : Nat) : Int) = 0 from rfl, Nat.zero_or] at hor0
                      rw [h0, Nat.zero_testBit, show ((0 : Nat) : Int) = 0 from rfl] at hHa
                      repeat' first | (refine Br.dec (fun h => ?_) (fun h => ?_) <;> try (exfalso; omega)) | (refine Br.eqi (fun h => ?_) (fun h => ?_) <;> try (exfalso; omega)) | (simp (disch := (first | omega | (simp only [vlen]; first | done | omega))) only [vse, hfr, ha, ↓va0, ↓va1, ↓va2, ↓va3, vb0, vb1, vb2, vb3, vb4, vb5, vb6, vb7, vb8, vb9, vb10, vz0, vz1, vy0, vx0, ↓reduceIte, Nat.reduceBEq, Nat.reduceEqDiff, Nat.reduceLT, Nat.reduceLeDiff, Nat.reduceAdd, Nat.reduceMul, Nat.reduceSub, reduceCtorEq, Int.reduceToNat]) | (refine Br.mk (fun h => ?_) (fun h => ?_)) | (refine BrN.mk (fun h => ?_) ?_) | (refine AltVC.mk ?_ ?_)
                      refine CallVC.eq hHa ?_
                      repeat' first | (refine Br.dec (fun h => ?_) (fun h => ?_) <;> try (exfalso; omega)) | (refine Br.eqi (fun h => ?_) (fun h => ?_) <;> try (exfalso; omega)) | (simp (disch := (first | omega | (simp only [vlen]; first | done | omega))) only [vse, hfr, ha, ↓va0, ↓va1, ↓va2, ↓va3, vb0, vb1, vb2, vb3, vb4, vb5, vb6, vb7, vb8, vb9, vb10, vz0, vz1, vy0, vx0, ↓reduceIte, Nat.reduceBEq, Nat.reduceEqDiff, Nat.reduceLT, Nat.reduceLeDiff, Nat.reduceAdd, Nat.reduceMul, Nat.reduceSub, reduceCtorEq, Int.reduceToNat]) | (refine Br.mk (fun h => ?_) (fun h => ?_)) | (refine BrN.mk (fun h => ?_) ?_) | (refine AltVC.mk ?_ ?_)
                      refine DrawVC.t ?_
                      repeat' first | (refine Br.dec (fun h => ?_) (fun h => ?_) <;> try (exfalso; omega)) | (refine Br.eqi (fun h => ?_) (fun h => ?_) <;> try (exfalso; omega)) | (simp (disch := (first | omega | (simp only [vlen]; first | done | omega))) only [vse, hfr, ha, ↓va0, ↓va1, ↓va2, ↓va3, vb0, vb1, vb2, vb3, vb4, vb5, vb6, vb7, vb8, vb9, vb10, vz0, vz1, vy0, vx0, ↓reduceIte, Nat.reduceBEq, Nat.reduceEqDiff, Nat.reduceLT, Nat.reduceLeDiff, Nat.reduceAdd, Nat.reduceMul, Nat.reduceSub, reduceCtorEq, Int.reduceToNat]) | (refine Br.mk (fun h => ?_) (fun h => ?_)) | (refine BrN.mk (fun h => ?_) ?_) | (refine AltVC.mk ?_ ?_)
                      · refine BrK.mk (fun r1 hr1 he1 => absurd ⟨(se_in hM3.si hr1 he1).2.1, (se_in hM3.si hr1 he1).2.2.1⟩ (hno r1 (se_in hM3.si hr1 he1).1)) (fun _ => ?_)
                        repeat' first | (refine Br.dec (fun h => ?_) (fun h => ?_) <;> try (exfalso; omega)) | (refine Br.eqi (fun h => ?_) (fun h => ?_) <;> try (exfalso; omega)) | (simp (disch := (first | omega | (simp only [vlen]; first | done | omega))) only [vse, vmk, hfr, ha, hsh, hor0, ↓va0, ↓va1, ↓va2, ↓va3, vb0, vb1, vb2, vb3, vb4, vb5, vb6, vb7, vb8, vb9, vb10, vz0, vz1, vy0, vx0, ↓reduceIte, Nat.reduceBEq, Nat.reduceEqDiff, Nat.reduceLT, Nat.reduceLeDiff, Nat.reduceAdd, Nat.reduceMul, Nat.reduceSub, reduceCtorEq, Int.reduceToNat]) | (refine Br.mk (fun h => ?_) (fun h => ?_)) | (refine BrN.mk (fun h => ?_) ?_) | (refine AltVC.mk ?_ ?_)
                        refine BrK.mk (fun r1 hr1 he1 => absurd ⟨(se_in hM3.si hr1 he1).2.1, (se_in hM3.si hr1 he1).2.2.1⟩ (hno r1 (se_in hM3.si hr1 he1).1)) (fun _ => ?_)
                        repeat' first | (refine Br.dec (fun h => ?_) (fun h => ?_) <;> try (exfalso; omega)) | (refine Br.eqi (fun h => ?_) (fun h => ?_) <;> try (exfalso; omega)) | (simp (disch := (first | omega | (simp only [vlen]; first | done | omega))) only [vse, vmk, hfr, ha, hsh, hor0, ↓va0, ↓va1, ↓va2, ↓va3, vb0, vb1, vb2, vb3, vb4, vb5, vb6, vb7, vb8, vb9, vb10, vz0, vz1, vy0, vx0, ↓reduceIte, Nat.reduceBEq, Nat.reduceEqDiff, Nat.reduceLT, Nat.reduceLeDiff, Nat.reduceAdd, Nat.reduceMul, Nat.reduceSub, reduceCtorEq, Int.reduceToNat]) | (refine Br.mk (fun h => ?_) (fun h => ?_)) | (refine BrN.mk (fun h => ?_) ?_) | (refine AltVC.mk ?_ ?_)
                        refine loopK.mk (L3 ++ [⟨fr, j, 2 ^ a⟩], upd2 t3 fr j (t3 fr j ||| 2 ^ a), true, j + 1) (by simp (disch := (first | omega | (simp only [vlen]; first | done | omega))) only [↓va0, ↓va1, ↓va2, ↓va3, vb0, vb1, vb2, vb3, vb4, vb5, vb6, vb7, vb8, vb9, vb10, vz0, vz1, vy0, vx0, ↓reduceIte, Nat.reduceBEq, Nat.reduceEqDiff, Nat.reduceLT, Nat.reduceLeDiff, Nat.reduceAdd, Nat.reduceMul, Nat.reduceSub, reduceCtorEq, Int.reduceToNat]) ⟨hadd, by show fr ≤ j + 1; omega, by show j + 1 ≤ w.length + 1; omega, hwn, fun h => by cases h⟩ (by show w.length + 1 - (j + 1) < w.length + 1 - j; omega) ?_
                        (simp (disch := (first | omega | (simp only [vlen]; first | done | omega))) only [Fits_u, Fits_m, Fits_nil, List.length_append, vse, vmk, hfr, ha, ↓va0, ↓va1, ↓va2, ↓va3, vb0, vb1, vb2, vb3, vb4, vb5, vb6, vb7, vb8, vb9, vb10, vz0, vz1, vy0, vx0, ↓reduceIte, Nat.reduceBEq, Nat.reduceEqDiff, Nat.reduceLT, Nat.reduceLeDiff, Nat.reduceAdd, Nat.reduceMul, Nat.reduceSub, reduceCtorEq, Int.reduceToNat] <;> (repeat' first | rfl | apply And.intro))
                        all_goals first | rfl | skip
                      · refine BrK.mk (fun r1 hr1 he1 => absurd ⟨(se_in hM3.si hr1 he1).2.1, (se_in hM3.si hr1 he1).2.2.1⟩ (hno r1 (se_in hM3.si hr1 he1).1)) (fun _ => ?_)
                        repeat' first | (refine Br.dec (fun h => ?_) (fun h => ?_) <;> try (exfalso; omega)) | (refine Br.eqi (fun h => ?_) (fun h => ?_) <;> try (exfalso; omega)) | (simp (disch := (first | omega | (simp only [vlen]; first | done | omega))) only [vse, vmk, hfr, ha, hsh, hor0, ↓va0, ↓va1, ↓va2, ↓va3, vb0, vb1, vb2, vb3, vb4, vb5, vb6, vb7, vb8, vb9, vb10, vz0, vz1, vy0, vx0, ↓reduceIte, Nat.reduceBEq, Nat.reduceEqDiff, Nat.reduceLT, Nat.reduceLeDiff, Nat.reduceAdd, Nat.reduceMul, Nat.reduceSub, reduceCtorEq, Int.reduceToNat]) | (refine Br.mk (fun h => ?_) (fun h => ?_)) | (refine BrN.mk (fun h => ?_) ?_) | (refine AltVC.mk ?_ ?_)
                        refine BrK.mk (fun r1 hr1 he1 => ?_) (fun hnn2 => absurd ⟨rfl, rfl⟩ (hend hnn2))
                        obtain ⟨k1, k2, k3, hR1⟩ := se_in hsi0 hr1 he1
                        rw [h0, show ((0 : Nat) : Int) = 0 from rfl] at hR1
                        repeat' first | (refine Br.dec (fun h => ?_) (fun h => ?_) <;> try (exfalso; omega)) | (refine Br.eqi (fun h => ?_) (fun h => ?_) <;> try (exfalso; omega)) | (simp (disch := (first | omega | (simp only [vlen]; first | done | omega))) only [vse, vmk, hfr, hR1, ha, hsh, hor0, ↓va0, ↓va1, ↓va2, ↓va3, vb0, vb1, vb2, vb3, vb4, vb5, vb6, vb7, vb8, vb9, vb10, vz0, vz1, vy0, vx0, ↓reduceIte, Nat.reduceBEq, Nat.reduceEqDiff, Nat.reduceLT, Nat.reduceLeDiff, Nat.reduceAdd, Nat.reduceMul, Nat.reduceSub, reduceCtorEq, Int.reduceToNat]) | (refine Br.mk (fun h => ?_) (fun h => ?_)) | (refine BrN.mk (fun h => ?_) ?_) | (refine AltVC.mk ?_ ?_)
                        refine loopK.mk (L3 ++ [⟨fr, j, 2 ^ a⟩], upd2 t3 fr j (t3 fr j ||| 2 ^ a), true, j + 1) (by simp (disch := (first | omega | (simp only [vlen]; first | done | omega))) only [↓va0, ↓va1, ↓va2, ↓va3, vb0, vb1, vb2, vb3, vb4, vb5, vb6, vb7, vb8, vb9, vb10, vz0, vz1, vy0, vx0, ↓reduceIte, Nat.reduceBEq, Nat.reduceEqDiff, Nat.reduceLT, Nat.reduceLeDiff, Nat.reduceAdd, Nat.reduceMul, Nat.reduceSub, reduceCtorEq, Int.reduceToNat]) ⟨hadd, by show fr ≤ j + 1; omega, by show j + 1 ≤ w.length + 1; omega, hwn, fun h => by cases h⟩ (by show w.length + 1 - (j + 1) < w.length + 1 - j; omega) ?_
                        (simp (disch := (first | omega | (simp only [vlen]; first | done | omega))) only [Fits_u, Fits_m, Fits_nil, List.length_append, vse, vmk, hfr, ha, ↓va0, ↓va1, ↓va2, ↓va3, vb0, vb1, vb2, vb3, vb4, vb5, vb6, vb7, vb8, vb9, vb10, vz0, vz1, vy0, vx0, ↓reduceIte, Nat.reduceBEq, Nat.reduceEqDiff, Nat.reduceLT, Nat.reduceLeDiff, Nat.reduceAdd, Nat.reduceMul, Nat.reduceSub, reduceCtorEq, Int.reduceToNat] <;> (repeat' first | rfl | apply And.intro))
                        all_goals first | rfl | skip
                · repeat' first | (refine Br.dec (fun h => ?_) (fun h => ?_) <;> try (exfalso; omega)) | (refine Br.eqi (fun h => ?_) (fun h => ?_) <;> try (exfalso; omega)) | (simp (disch := (first | omega | (simp only [vlen]; first | done | omega))) only [vse, hfr, ↓va0, ↓va1, ↓va2, ↓va3, vb0, vb1, vb2, vb3, vb4, vb5, vb6, vb7, vb8, vb9, vb10, vz0, vz1, vy0, vx0, ↓reduceIte, Nat.reduceBEq, Nat.reduceEqDiff, Nat.reduceLT, Nat.reduceLeDiff, Nat.reduceAdd, Nat.reduceMul, Nat.reduceSub, reduceCtorEq, Int.reduceToNat]) | (refine Br.mk (fun h => ?_) (fun h => ?_)) | (refine BrN.mk (fun h => ?_) ?_) | (refine AltVC.mk ?_ ?_)
                  refine loopK.mk (L3, t3, g3, q + 1) (by simp (disch := (first | omega | (simp only [vlen]; first | done | omega))) only [↓va0, ↓va1, ↓va2, ↓va3, vb0, vb1, vb2, vb3, vb4, vb5, vb6, vb7, vb8, vb9, vb10, vz0, vz1, vy0, vx0, ↓reduceIte, Nat.reduceBEq, Nat.reduceEqDiff, Nat.reduceLT, Nat.reduceLeDiff, Nat.reduceAdd, Nat.reduceMul, Nat.reduceSub, reduceCtorEq, Int.reduceToNat]) ⟨hM3, by show q + 1 ≤ g.rules.length; omega, hw3, fun h => ?_⟩ (by show g.rules.length - (q + 1) < g.rules.length - q; omega) ?_
                  · obtain ⟨e1, e2, e3⟩ := hc3 h
                    subst e1
                    refine ⟨(hc2 e2).1, fun q' hq' => ?_⟩
                    by_cases e : q' = q
                    · subst e
                      intro j' h1 h2 h3
                      rw [ha, Int.toNat_natCast]
                      exact e3 j' h1 (by omega) h3
                    · exact (hc2 e2).2 q' (by have : q' < q + 1 := hq'; omega)
                  · (simp (disch := (first | omega | (simp only [vlen]; first | done | omega))) only [Fits_u, Fits_m, Fits_nil, List.length_append, vse, hfr, ↓va0, ↓va1, ↓va2, ↓va3, vb0, vb1, vb2, vb3, vb4, vb5, vb6, vb7, vb8, vb9, vb10, vz0, vz1, vy0, vx0, ↓reduceIte, Nat.reduceBEq, Nat.reduceEqDiff, Nat.reduceLT, Nat.reduceLeDiff, Nat.reduceAdd, Nat.reduceMul, Nat.reduceSub, reduceCtorEq, Int.reduceToNat] <;> (repeat' first | rfl | apply And.intro))
                    all_goals first | rfl | skip
            · repeat' first | (refine Br.dec (fun h => ?_) (fun h => ?_) <;> try (exfalso; omega)) | (refine Br.eqi (fun h => ?_) (fun h => ?_) <;> try (exfalso; omega)) | (simp (disch := (first | omega | (simp only [vlen]; first | done | omega))) only [vse, hfr, ↓va0, ↓va1, ↓va2, ↓va3, vb0, vb1, vb2, vb3, vb4, vb5, vb6, vb7, vb8, vb9, vb10, vz0, vz1, vy0, vx0, ↓reduceIte, Nat.reduceBEq, Nat.reduceEqDiff, Nat.reduceLT, Nat.reduceLeDiff, Nat.reduceAdd, Nat.reduceMul, Nat.reduceSub, reduceCtorEq, Int.reduceToNat]) | (refine Br.mk (fun h => ?_) (fun h => ?_)) | (refine BrN.mk (fun h => ?_) ?_) | (refine AltVC.mk ?_ ?_)
              refine loopK.mk (L2, t2, g2, fr) (by simp (disch := (first | omega | (simp only [vlen]; first | done | omega))) only [↓va0, ↓va1, ↓va2, ↓va3, vb0, vb1, vb2, vb3, vb4, vb5, vb6, vb7, vb8, vb9, vb10, vz0, vz1, vy0, vx0, ↓reduceIte, Nat.reduceBEq, Nat.reduceEqDiff, Nat.reduceLT, Nat.reduceLeDiff, Nat.reduceAdd, Nat.reduceMul, Nat.reduceSub, reduceCtorEq, Int.reduceToNat]) ⟨hM2, by show fr ≤ w.length + 1; omega, hw2, fun h i q' h1 h2 h3 => ?_⟩ (by show fr < fr + 1; omega) ?_
              · by_cases e : i = fr
                · subst e; exact (hc2 h).2 q' (by omega)
                · exact (hc2 h).1 i q' (by have : fr ≤ i := h1; omega) h2 h3
              · (simp (disch := (first | omega | (simp only [vlen]; first | done | omega))) only [Fits_u, Fits_m, Fits_nil, List.length_append, vse, hfr, ↓va0, ↓va1, ↓va2, ↓va3, vb0, vb1, vb2, vb3, vb4, vb5, vb6, vb7, vb8, vb9, vb10, vz0, vz1, vy0, vx0, ↓reduceIte, Nat.reduceBEq, Nat.reduceEqDiff, Nat.reduceLT, Nat.reduceLeDiff, Nat.reduceAdd, Nat.reduceMul, Nat.reduceSub, reduceCtorEq, Int.reduceToNat] <;> (repeat' first | rfl | apply And.intro))
                all_goals first | rfl | skip
end Go.Proofs.Ythjpahmcgpnogaa
