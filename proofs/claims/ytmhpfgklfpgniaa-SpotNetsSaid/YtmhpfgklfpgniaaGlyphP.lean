/-
  Positions say which words an expression takes (Glushkov).
-/
import Derived.Test.YtmhpfgklfpgniaaGlyphM
namespace Go.Proofs.Ytmhpfgklfpgniaa
open Go.Dm
set_option linter.unusedSimpArgs false
set_option linter.unnecessarySimpa false
set_option linter.unusedVariables false
/-- From a position on by a word. -/
inductive Pth (f : Nat → Nat → Bool) (s : List Int) : Nat → List Int → Nat → Prop
  | nil (p : Nat) : Pth f s p [] p
  | cons {p q r : Nat} {w : List Int} {c : Int} (h : f p q = true) (hc : s.getD q 0 = c) (t : Pth f s q w r) : Pth f s p (c :: w) r
theorem Pth.app {f : Nat → Nat → Bool} {s : List Int} {p q r : Nat} {v w : List Int} (h : Pth f s p v q) (k : Pth f s q w r) : Pth f s p (v ++ w) r := by
  induction h with
  | nil _ => exact k
  | cons h hc _ ih => exact .cons h hc (ih k)
theorem Pth.snoc {f : Nat → Nat → Bool} {s : List Int} {p q r : Nat} {v : List Int} {c : Int} (h : Pth f s p v q) (k : f q r = true) (hc : s.getD r 0 = c) : Pth f s p (v ++ [c]) r := h.app (.cons k hc (.nil _))
/-- Within a region that is not left. -/
theorem Pth.congr {f g : Nat → Nat → Bool} {s t : List Int} {R : Nat → Prop} (hR : ∀ p q, R p → f p q = true → R q) (hf : ∀ p q, R p → f p q = true → g p q = true) (hs : ∀ p, R p → t.getD p 0 = s.getD p 0) {p q : Nat} {w : List Int} (h : Pth f s p w q) (hp : R p) : Pth g t p w q ∧ R q := by
  induction h with
  | nil _ => exact ⟨.nil _, hp⟩
  | @cons p q r w c h hc _ ih =>
    have hq := hR _ _ hp h
    exact ⟨.cons (hf _ _ hp h) (by rw [hs _ hq]; exact hc) (ih hq).1, (ih hq).2⟩
structure Gk (l : List Dm.Node) (i : Nat) (u : Au) (x : Ps) (u' : Au) : Prop where
  pre : ∃ t, u'.syms = u.syms ++ t
  fi : ∀ p, x.first p = true → u.syms.length ≤ p ∧ p < u'.syms.length
  la : ∀ p, x.last p = true → u.syms.length ≤ p ∧ p < u'.syms.length
  lo : ∀ p, p < u.syms.length → ∀ q, u'.fol p q = u.fol p q
  hi : ∀ p q, u.syms.length ≤ p → p < u'.syms.length → u'.fol p q = true → u.syms.length ≤ q ∧ q < u'.syms.length
  ac : ∀ c w, lang l i (c :: w) ↔ ∃ p q, x.first p = true ∧ u'.syms.getD p 0 = c ∧ Pth u'.fol u'.syms p w q ∧ x.last q = true
  em : x.empty = ebB l i
theorem Gk.len {l : List Dm.Node} {i : Nat} {u u' : Au} {x : Ps} (h : Gk l i u x u') : u.syms.length ≤ u'.syms.length := by
  obtain ⟨t, e⟩ := h.pre; rw [e, List.length_append]; omega
theorem Gk.get {l : List Dm.Node} {i : Nat} {u u' : Au} {x : Ps} (h : Gk l i u x u') {p : Nat} (hp : p < u.syms.length) : u'.syms.getD p 0 = u.syms.getD p 0 := by
  obtain ⟨t, e⟩ := h.pre; rw [e]; simp [List.getD, List.getElem?_append_left hp]
section
variable {k0 : Int} {l : List Dm.Node} {i a b : Nat} {u u1 u2 : Au} {x y : Ps}
/-- Paths behind a join of two parts. -/
theorem cat_path (hx : Gk l a u x u1) (hy : Gk l b u1 y u2) {p q : Nat} {w : List Int} (h : Pth (gJo x.last y.first u2.fol) u2.syms p w q) (hp : u.syms.length ≤ p ∧ p < u2.syms.length) :
    (p < u1.syms.length → (q < u1.syms.length ∧ Pth u1.fol u1.syms p w q) ∨ ∃ w1 c w2 m m', w = w1 ++ c :: w2 ∧ Pth u1.fol u1.syms p w1 m ∧ x.last m = true ∧ y.first m' = true ∧ u2.syms.getD m' 0 = c ∧ Pth u2.fol u2.syms m' w2 q ∧ u1.syms.length ≤ q) ∧
    (u1.syms.length ≤ p → Pth u2.fol u2.syms p w q ∧ u1.syms.length ≤ q) := by
  have h01 := hx.len
  have h12 := hy.len
  induction h with
  | nil p => exact ⟨fun h => .inl ⟨h, .nil _⟩, fun h => ⟨.nil _, h⟩⟩
  | @cons p q r w c h hc t ih =>
    unfold gJo at h
    rw [Bool.or_eq_true, Bool.and_eq_true] at h
    refine ⟨fun hlt => ?_, fun hge => ?_⟩
    · rcases h with h | ⟨h1, h2⟩
      · rw [hy.lo p hlt q] at h
        have hq := hx.hi p q hp.1 hlt h
        have hg := hy.get hq.2
        rw [hc] at hg
        rcases (ih ⟨hq.1, by omega⟩).1 hq.2 with ⟨k1, k2⟩ | ⟨w1, c', w2, m, m', e, k1, k2⟩
        · exact .inl ⟨k1, .cons h hg.symm k2⟩
        · exact .inr ⟨c :: w1, c', w2, m, m', by rw [e]; rfl, .cons h hg.symm k1, k2⟩
      · have hq := hy.fi q h2
        obtain ⟨k1, k2⟩ := (ih ⟨by omega, hq.2⟩).2 hq.1
        exact .inr ⟨[], c, w, p, q, rfl, .nil _, h1, h2, hc, k1, k2⟩
    · rcases h with h | ⟨h1, h2⟩
      · have hq := hy.hi p q hge hp.2 h
        obtain ⟨k1, k2⟩ := (ih ⟨by omega, hq.2⟩).2 hq.1
        exact ⟨.cons h hc k1, k2⟩
      · have := hx.la p h1
        omega
theorem up1 (hx : Gk l a u x u1) (hy : Gk l b u1 y u2) {g : Nat → Nat → Bool} (hg : ∀ p q, u2.fol p q = true → g p q = true) {p q : Nat} {w : List Int} (h : Pth u1.fol u1.syms p w q) (hp : u.syms.length ≤ p ∧ p < u1.syms.length) : Pth g u2.syms p w q ∧ (u.syms.length ≤ q ∧ q < u1.syms.length) :=
  h.congr (R := fun p => u.syms.length ≤ p ∧ p < u1.syms.length) (fun p q hp h => hx.hi p q hp.1 hp.2 h) (fun p q hp h => hg p q (by rw [hy.lo p hp.2 q]; exact h)) (fun p hp => hy.get hp.2) hp
theorem gk_cat (hv : NodesOk k0 l) (hi : i < l.length) (hk : (l.getD i default).kind = 4) (ha : (l.getD i default).a.toNat = a) (hb : (l.getD i default).b.toNat = b) (hx : Gk l a u x u1) (hy : Gk l b u1 y u2) :
    Gk l i u ⟨if x.empty then gOr x.first y.first else x.first, if y.empty then gOr y.last x.last else y.last, ebB l i⟩ ⟨u2.syms, gJo x.last y.first u2.fol⟩ := by
  have h01 := hx.len
  have h12 := hy.len
  have hL := lang_4 hv hi hk
  rw [ha, hb] at hL
  refine ⟨?_, fun p hp => ?_, fun p hp => ?_, fun p hp q => ?_, fun p q h1 h2 h => ?_, fun c w => ?_, rfl⟩
  · obtain ⟨t1, e1⟩ := hx.pre
    obtain ⟨t2, e2⟩ := hy.pre
    exact ⟨t1 ++ t2, by show u2.syms = _; rw [e2, e1, List.append_assoc]⟩
  · simp only at hp ⊢
    split at hp
    · unfold gOr at hp; rw [Bool.or_eq_true] at hp
      rcases hp with hp | hp
      · have := hx.fi p hp; omega
      · have := hy.fi p hp; omega
    · have := hx.fi p hp; omega
  · simp only at hp ⊢
    split at hp
    · unfold gOr at hp; rw [Bool.or_eq_true] at hp
      rcases hp with hp | hp
      · have := hy.la p hp; omega
      · have := hx.la p hp; omega
    · have := hy.la p hp; omega
  · show gJo x.last y.first u2.fol p q = _
    unfold gJo
    have h1 : x.last p = false := by
      cases h : x.last p with
      | false => rfl
      | true => have := hx.la p h; omega
    rw [h1, Bool.false_and, Bool.or_false, hy.lo p (by omega) q, hx.lo p hp q]
  · simp only at h1 h2 h ⊢
    unfold gJo at h
    rw [Bool.or_eq_true, Bool.and_eq_true] at h
    rcases h with h | ⟨h3, h4⟩
    · by_cases hp : p < u1.syms.length
      · rw [hy.lo p hp q] at h
        have := hx.hi p q h1 hp h; omega
      · have := hy.hi p q (by omega) h2 h; omega
    · have := hy.fi q h4; omega
  · rw [hL]
    simp only
    have hg : ∀ p q, u2.fol p q = true → gJo x.last y.first u2.fol p q = true := fun p q h => by unfold gJo; rw [h]; rfl
    constructor
    · rintro ⟨v, v', h1, h2, e⟩
      cases v with
      | nil =>
        rw [List.nil_append] at e
        subst e
        have hem : x.empty = true := by rw [hx.em, ebB_iff]; exact h1
        obtain ⟨p, q, k1, k2, k3, k4⟩ := (hy.ac c w).mp h2
        refine ⟨p, q, ?_, k2, (k3.congr (R := fun _ => True) (fun _ _ _ _ => trivial) (fun p q _ h => hg p q h) (fun _ _ => rfl) trivial).1, ?_⟩
        · rw [if_pos hem]; unfold gOr; rw [k1, Bool.or_true]
        · split
          · unfold gOr; rw [k4]; rfl
          · exact k4
      | cons c' v =>
        rw [List.cons_append, List.cons.injEq] at e
        obtain ⟨rfl, rfl⟩ := e
        obtain ⟨p, m, k1, k2, k3, k4⟩ := (hx.ac c v).mp h1
        have hp := hx.fi p k1
        obtain ⟨k5, hm⟩ := up1 hx hy hg k3 hp
        have hfp : (if x.empty = true then gOr x.first y.first else x.first) p = true := by
          split
          · unfold gOr; rw [k1]; rfl
          · exact k1
        have hsp : u2.syms.getD p 0 = c := by rw [hy.get hp.2]; exact k2
        cases v' with
        | nil =>
          have hem : y.empty = true := by rw [hy.em, ebB_iff]; exact h2
          rw [List.append_nil]
          refine ⟨p, m, hfp, hsp, k5, ?_⟩
          rw [if_pos hem]; unfold gOr; rw [k4, Bool.or_true]
        | cons c2 v2 =>
          obtain ⟨m', q, j1, j2, j3, j4⟩ := (hy.ac c2 v2).mp h2
          refine ⟨p, q, hfp, hsp, k5.app (.cons (by unfold gJo; rw [k4, j1]; simp) j2 (j3.congr (R := fun _ => True) (fun _ _ _ _ => trivial) (fun p q _ h => hg p q h) (fun _ _ => rfl) trivial).1), ?_⟩
          split
          · unfold gOr; rw [j4]; rfl
          · exact j4
    · rintro ⟨p, q, k1, k2, k3, k4⟩
      have hfr : (x.first p = true) ∨ (x.empty = true ∧ y.first p = true) := by
        by_cases hem : x.empty = true
        · rw [if_pos hem] at k1
          unfold gOr at k1
          rw [Bool.or_eq_true] at k1
          exact k1.imp id fun h => ⟨hem, h⟩
        · rw [if_neg hem] at k1; exact .inl k1
      have hla : (y.last q = true) ∨ (y.empty = true ∧ x.last q = true) := by
        by_cases hem : y.empty = true
        · rw [if_pos hem] at k4
          unfold gOr at k4
          rw [Bool.or_eq_true] at k4
          exact k4.imp id fun h => ⟨hem, h⟩
        · rw [if_neg hem] at k4; exact .inl k4
      rcases hfr with hfr | ⟨hem, hfr⟩
      · have hp := hx.fi p hfr
        have hsp : u1.syms.getD p 0 = c := by rw [← hy.get hp.2]; exact k2
        rcases (cat_path hx hy k3 ⟨hp.1, by omega⟩).1 hp.2 with ⟨hq, j⟩ | ⟨w1, c', w2, m, m', e, j1, j2, j3, j4, j5, hq⟩
        · rcases hla with hla | ⟨hem2, hla⟩
          · have := hy.la q hla; omega
          · exact ⟨c :: w, [], (hx.ac c w).mpr ⟨p, q, hfr, hsp, j, hla⟩, by rw [hy.em, ebB_iff] at hem2; exact hem2, by simp⟩
        · rcases hla with hla | ⟨hem2, hla⟩
          · exact ⟨c :: w1, c' :: w2, (hx.ac c w1).mpr ⟨p, m, hfr, hsp, j1, j2⟩, (hy.ac c' w2).mpr ⟨m', q, j3, j4, j5, hla⟩, by rw [e]; rfl⟩
          · have := hx.la q hla; omega
      · have hp := hy.fi p hfr
        obtain ⟨j, hq⟩ := (cat_path hx hy k3 ⟨by omega, hp.2⟩).2 hp.1
        rcases hla with hla | ⟨hem2, hla⟩
        · exact ⟨[], c :: w, by rw [hx.em, ebB_iff] at hem; exact hem, (hy.ac c w).mpr ⟨p, q, hfr, k2, j, hla⟩, rfl⟩
        · have := hx.la q hla; omega
theorem gk_or (hv : NodesOk k0 l) (hi : i < l.length) (hk : (l.getD i default).kind = 5) (ha : (l.getD i default).a.toNat = a) (hb : (l.getD i default).b.toNat = b) (hx : Gk l a u x u1) (hy : Gk l b u1 y u2) :
    Gk l i u ⟨gOr x.first y.first, gOr x.last y.last, ebB l i⟩ u2 := by
  have h01 := hx.len
  have h12 := hy.len
  have hL := lang_5 hv hi hk
  rw [ha, hb] at hL
  have lox : ∀ p q, u.syms.length ≤ p → p < u1.syms.length → u2.fol p q = u1.fol p q := fun p q _ h => hy.lo p h q
  refine ⟨?_, fun p hp => ?_, fun p hp => ?_, fun p hp q => ?_, fun p q h1 h2 h => ?_, fun c w => ?_, rfl⟩
  · obtain ⟨t1, e1⟩ := hx.pre
    obtain ⟨t2, e2⟩ := hy.pre
    exact ⟨t1 ++ t2, by rw [e2, e1, List.append_assoc]⟩
  · simp only [gOr, Bool.or_eq_true] at hp
    rcases hp with hp | hp
    · have := hx.fi p hp; omega
    · have := hy.fi p hp; omega
  · simp only [gOr, Bool.or_eq_true] at hp
    rcases hp with hp | hp
    · have := hx.la p hp; omega
    · have := hy.la p hp; omega
  · rw [hy.lo p (by omega) q, hx.lo p hp q]
  · by_cases hp : p < u1.syms.length
    · rw [hy.lo p hp q] at h
      have := hx.hi p q h1 hp h; omega
    · have := hy.hi p q (by omega) h2 h; omega
  · rw [hL]
    constructor
    · rintro (h | h)
      · obtain ⟨p, q, k1, k2, k3, k4⟩ := (hx.ac c w).mp h
        have hp := hx.fi p k1
        exact ⟨p, q, by simp [gOr, k1], by rw [hy.get hp.2]; exact k2, (up1 hx hy (fun _ _ h => h) k3 hp).1, by simp [gOr, k4]⟩
      · obtain ⟨p, q, k1, k2, k3, k4⟩ := (hy.ac c w).mp h
        exact ⟨p, q, by simp [gOr, k1], k2, k3, by simp [gOr, k4]⟩
    · rintro ⟨p, q, k1, k2, k3, k4⟩
      simp only [gOr, Bool.or_eq_true] at k1 k4
      rcases k1 with k1 | k1
      · have hp := hx.fi p k1
        have hc := k3.congr (g := u1.fol) (t := u1.syms) (R := fun p => u.syms.length ≤ p ∧ p < u1.syms.length) (fun p q hp h => by rw [hy.lo p hp.2 q] at h; exact hx.hi p q hp.1 hp.2 h) (fun p q hp h => by rw [hy.lo p hp.2 q] at h; exact h) (fun p hp => (hy.get hp.2).symm) hp
        have hq : x.last q = true := by
          rcases k4 with k4 | k4
          · exact k4
          · have := hy.la q k4
            have := hc.2.2
            omega
        exact .inl ((hx.ac c w).mpr ⟨p, q, k1, by rw [← hy.get hp.2]; exact k2, hc.1, hq⟩)
      · have hp := hy.fi p k1
        have hc := k3.congr (g := u2.fol) (t := u2.syms) (R := fun p => u1.syms.length ≤ p ∧ p < u2.syms.length) (fun p q hp h => hy.hi p q hp.1 hp.2 h) (fun p q hp h => h) (fun p hp => rfl) hp
        have hq : y.last q = true := by
          rcases k4 with k4 | k4
          · have := hx.la q k4
            have := hc.2.1
            omega
          · exact k4
        exact .inr ((hy.ac c w).mpr ⟨p, q, k1, k2, k3, hq⟩)
/-- Paths behind a loop. -/
theorem star_path (hx : Gk l a u x u1) {p q : Nat} {w : List Int} (h : Pth (gJo x.last x.first u1.fol) u1.syms p w q) (hq : x.last q = true) : ∃ w1 w2 m, w = w1 ++ w2 ∧ Pth u1.fol u1.syms p w1 m ∧ x.last m = true ∧ Star (lang l a) w2 := by
  induction h with
  | nil p => exact ⟨[], [], p, rfl, .nil _, hq, .nil⟩
  | @cons p q r w c h hc t ih =>
    obtain ⟨w1, w2, m, e, k1, k2, k3⟩ := ih hq
    unfold gJo at h
    rw [Bool.or_eq_true, Bool.and_eq_true] at h
    rcases h with h | ⟨h1, h2⟩
    · exact ⟨c :: w1, w2, m, by rw [e]; rfl, .cons h hc k1, k2, k3⟩
    · refine ⟨[], c :: w, p, rfl, .nil _, h1, ?_⟩
      have := Star.app ((hx.ac c w1).mpr ⟨q, m, h2, hc, k1, k2⟩) k3
      rw [List.cons_append, ← e] at this
      exact this
theorem star_ext (hx : Gk l a u x u1) {w : List Int} (h : Star (lang l a) w) : ∀ {p m : Nat} {v : List Int}, Pth (gJo x.last x.first u1.fol) u1.syms p v m → x.last m = true → ∃ q, Pth (gJo x.last x.first u1.fol) u1.syms p (v ++ w) q ∧ x.last q = true := by
  have hg : ∀ p q, u1.fol p q = true → gJo x.last x.first u1.fol p q = true := fun p q h => by unfold gJo; rw [h]; rfl
  induction h with
  | nil => exact fun h hm => ⟨_, by rw [List.append_nil]; exact h, hm⟩
  | @app v1 v2 h1 t ih =>
    intro p m v hp hm
    cases v1 with
    | nil => exact ih hp hm
    | cons c v1 =>
      obtain ⟨p', q', k1, k2, k3, k4⟩ := (hx.ac c v1).mp h1
      have k5 := (k3.congr (R := fun _ => True) (fun _ _ _ _ => trivial) (fun p q _ h => hg p q h) (fun _ _ => rfl) trivial).1
      have := ih (v := v ++ c :: v1) (hp.app (.cons (by unfold gJo; rw [hm, k1]; simp) k2 k5)) k4
      rwa [List.append_assoc] at this
theorem gk_star (hv : NodesOk k0 l) (hi : i < l.length) (hk : (l.getD i default).kind = 6) (ha : (l.getD i default).a.toNat = a) (hx : Gk l a u x u1) :
    Gk l i u ⟨x.first, x.last, ebB l i⟩ ⟨u1.syms, gJo x.last x.first u1.fol⟩ := by
  have hL := lang_6 hv hi hk
  rw [ha] at hL
  have hg : ∀ p q, u1.fol p q = true → gJo x.last x.first u1.fol p q = true := fun p q h => by unfold gJo; rw [h]; rfl
  refine ⟨hx.pre, hx.fi, hx.la, fun p hp q => ?_, fun p q h1 h2 h => ?_, fun c w => ?_, rfl⟩
  · show gJo x.last x.first u1.fol p q = _
    unfold gJo
    have h1 : x.last p = false := by
      cases h : x.last p with
      | false => rfl
      | true => have := hx.la p h; omega
    rw [h1, Bool.false_and, Bool.or_false, hx.lo p hp q]
  · simp only [gJo, Bool.or_eq_true, Bool.and_eq_true] at h
    rcases h with h | ⟨_, h⟩
    · exact hx.hi p q h1 h2 h
    · exact hx.fi q h
  · rw [hL]
    constructor
    · intro h
      rcases star_front h with e | ⟨v, v', hne, h1, h2, e⟩
      · cases e
      · cases v with
        | nil => exact absurd rfl hne
        | cons c' v =>
          rw [List.cons_append, List.cons.injEq] at e
          obtain ⟨rfl, rfl⟩ := e
          obtain ⟨p, m, k1, k2, k3, k4⟩ := (hx.ac c v).mp h1
          have k5 := (k3.congr (R := fun _ => True) (fun _ _ _ _ => trivial) (fun p q _ h => hg p q h) (fun _ _ => rfl) trivial).1
          obtain ⟨q, j1, j2⟩ := star_ext hx h2 k5 k4
          exact ⟨p, q, k1, k2, j1, j2⟩
    · rintro ⟨p, q, k1, k2, k3, k4⟩
      obtain ⟨w1, w2, m, e, j1, j2, j3⟩ := star_path hx k3 k4
      have := Star.app ((hx.ac c w1).mpr ⟨p, m, k1, k2, j1, j2⟩) j3
      rw [List.cons_append, ← e] at this
      exact this
end
/-- All of it. -/
theorem bl_gk {k0 : Int} {l : List Dm.Node} (hv : NodesOk k0 l) {i : Nat} {u u' : Au} {x : Ps} (h : Bl l i u x u') : i < l.length → Gk l i u x u' := by
  induction h with
  | @none i u h =>
    intro hi
    refine ⟨⟨[], by simp⟩, fun p h => (by cases h), fun p h => (by cases h), fun _ _ _ => rfl, fun p q h1 h2 _ => by omega, fun c w => ?_, rfl⟩
    have hk := (hv i hi).1
    constructor
    · intro hw
      rcases (show (l.getD i default).kind = 1 ∨ (l.getD i default).kind = 2 by omega) with e | e
      · rw [lang_1 hi e] at hw; exact hw.elim
      · rw [lang_2 hi e] at hw; cases hw
    · rintro ⟨p, q, h, _⟩; cases h
  | @sym i u h =>
    intro hi
    refine ⟨⟨_, rfl⟩, fun p hp => ?_, fun p hp => ?_, fun p hp q => ?_, fun p q h1 h2 hf => ?_, fun c w => ?_, rfl⟩
    · have := of_decide_eq_true hp
      simp only [List.length_append, List.length_cons, List.length_nil]; omega
    · have := of_decide_eq_true hp
      simp only [List.length_append, List.length_cons, List.length_nil]; omega
    · show (if p = u.syms.length then false else u.fol p q) = _
      rw [if_neg (by omega)]
    · simp only [List.length_append, List.length_cons, List.length_nil] at h2 hf
      rw [if_pos (by omega)] at hf; cases hf
    · have hg : (u.syms ++ [(l.getD i default).a]).getD u.syms.length 0 = (l.getD i default).a := by simp [List.getD]
      rw [lang_3 hi h]
      constructor
      · intro hw
        have hw : c :: w = [(l.getD i default).a] := hw
        rw [List.cons.injEq] at hw
        obtain ⟨e1, e2⟩ := hw
        subst e2
        exact ⟨u.syms.length, u.syms.length, decide_eq_true rfl, by rw [e1]; exact hg, .nil _, decide_eq_true rfl⟩
      · rintro ⟨p, q, k1, k2, k3, k4⟩
        have hp := of_decide_eq_true k1
        subst hp
        cases k3 with
        | nil _ =>
          have k2 : (u.syms ++ [(l.getD i default).a]).getD u.syms.length 0 = c := k2
          show c :: [] = [_]
          rw [← k2, hg]
        | cons h2 _ _ =>
          simp only [if_true] at h2
          cases h2
  | @cat i u u1 u2 x y h _ _ ih1 ih2 =>
    intro hi
    obtain ⟨_, _, _, h4, h5⟩ := hv i hi
    have h4 := h4 (by omega)
    have h5 := h5 (.inl h)
    exact gk_cat hv hi h rfl rfl (ih1 (by omega)) (ih2 (by omega))
  | @or i u u1 u2 x y h _ _ ih1 ih2 =>
    intro hi
    obtain ⟨_, _, _, h4, h5⟩ := hv i hi
    have h4 := h4 (by omega)
    have h5 := h5 (.inr h)
    exact gk_or hv hi h rfl rfl (ih1 (by omega)) (ih2 (by omega))
  | @star i u u1 x h _ ih =>
    intro hi
    obtain ⟨_, _, _, h4, _⟩ := hv i hi
    have h4 := h4 (by omega)
    exact gk_star hv hi h rfl (ih (by omega))
end Go.Proofs.Ytmhpfgklfpgniaa
