/-
  grammar.Makes, Void: the names of which some rule has signs of a kind; the laws GrammarMakes, GrammarVoids.
-/
import Derived.Test.YtplkkacfjepgpaaGram
import Derived.Test.YtplkkacfjepgpaaBits
set_option linter.unusedVariables false
set_option linter.unusedSimpArgs false
set_option linter.unnecessarySimpa false
namespace Go.Proofs.Ytplkkacfjepgpaa
open Go.Dm
theorem chain_stable {n : Nat} (S : Nat → Nat → Bool) (F : (Nat → Bool) → Nat → Bool) (hF : ∀ a b : Nat → Bool, (∀ x, x < n → a x = b x) → ∀ x, x < n → F a x = F b x)
    (hS : ∀ k x, S (k + 1) x = F (S k) x) (hm : ∀ k x, S k x = true → S (k + 1) x = true) : ∀ x, x < n → ∀ k, n ≤ k → S k x = S n x := by
  have still : ∀ k, (∀ x, x < n → S k x = S (k + 1) x) → ∀ j, k ≤ j → ∀ x, x < n → S j x = S k x := by
    intro k hk j hj
    induction j with
    | zero => intro x _; rw [show k = 0 by omega]
    | succ j ih =>
      by_cases e : k = j + 1
      · intro x _; rw [e]
      · intro x hx
        rw [hS, hF _ (S k) (ih (by omega)) x hx, ← hS, hk x hx]
  have cnt : ∀ k, (∃ j, j ≤ k ∧ ∀ x, x < n → S j x = S (j + 1) x) ∨ k < ((List.range n).filter (S (k + 1))).length := by
    intro k
    have step : ∀ k, (¬ ∀ x, x < n → S k x = S (k + 1) x) → ((List.range n).filter (S k)).length < ((List.range n).filter (S (k + 1))).length := by
      intro k hk
      simp only [Classical.not_forall, Classical.not_imp] at hk
      obtain ⟨x, hx, hne⟩ := hk
      rw [← List.countP_eq_length_filter, ← List.countP_eq_length_filter]
      have h1 : S k x = false := by
        cases h : S k x
        · rfl
        · exact absurd (by rw [h, hm k x h]) hne
      have h2 : S (k + 1) x = true := by
        cases h : S (k + 1) x
        · exact absurd (by rw [h1, h]) hne
        · rfl
      have aux : ∀ l : List Nat, l.countP (S k) ≤ l.countP (S (k + 1)) := fun l => List.countP_mono_left fun y _ h => hm k y h
      obtain ⟨l1, l2, e⟩ := List.append_of_mem (List.mem_range.2 hx)
      rw [e, List.countP_append, List.countP_append, List.countP_cons, List.countP_cons, h1, h2]
      have := aux l1
      have := aux l2
      simp
      omega
    induction k with
    | zero =>
      by_cases h : ∀ x, x < n → S 0 x = S 1 x
      · exact .inl ⟨0, by omega, h⟩
      · exact .inr (Nat.lt_of_le_of_lt (Nat.zero_le _) (step 0 h))
    | succ k ih =>
      rcases ih with ⟨j, hj, h⟩ | h
      · exact .inl ⟨j, by omega, h⟩
      · by_cases h2 : ∀ x, x < n → S (k + 1) x = S (k + 2) x
        · exact .inl ⟨k + 1, by omega, h2⟩
        · exact .inr (Nat.lt_of_le_of_lt h (step (k + 1) h2))
  intro x hx k hk
  rcases cnt n with ⟨j, hj, h⟩ | h
  · rw [still j h k (by omega) x hx, still j h n hj x hx]
  · have := List.length_filter_le (S (n + 1)) (List.range n)
    rw [List.length_range] at this
    omega
def mkS (g : Grammar) (void : Bool) : Nat → Int → Bool
  | 0, x => decide (x < g.k) && !void
  | d + 1, x => if x < g.k then !void else g.rules.any fun r => decide (r.left = x - g.k) && r.right.all fun y => mkS g void d y
theorem mkS_sym {g : Grammar} {void : Bool} {d : Nat} {x : Int} (h : x < g.k) : mkS g void d x = !void := by
  cases d
  · rw [mkS, decide_eq_true h, Bool.true_and]
  · rw [mkS, if_pos h]
theorem mkS_mono {g : Grammar} {void : Bool} : ∀ {d : Nat} {x : Int}, mkS g void d x = true → mkS g void (d + 1) x = true
  | 0, x, h => by
    rw [mkS, Bool.and_eq_true, decide_eq_true_eq] at h
    rw [mkS_sym h.1]; exact h.2
  | d + 1, x, h => by
    rw [mkS] at h ⊢
    split
    · next hx => rw [if_pos hx] at h; exact h
    · next hx =>
      rw [if_neg hx] at h
      simp only [List.any_eq_true, Bool.and_eq_true, List.all_eq_true] at h ⊢
      obtain ⟨r, hr, h1, h2⟩ := h
      exact ⟨r, hr, h1, fun y hy => mkS_mono (h2 y hy)⟩
def mkN (g : Grammar) (void : Bool) (d i : Nat) : Bool := mkS g void d (g.k + i)
def allOf (g : Grammar) (symbols : Bool) (S : Nat → Bool) (l : List Int) : Bool := l.all fun y => if y < g.k then symbols else S (y - g.k).toNat
theorem mkN_succ {g : Grammar} {void : Bool} {d i : Nat} : mkN g void (d + 1) i = g.rules.any fun r => decide (r.left = (i : Int)) && allOf g (!void) (mkN g void d) r.right := by
  unfold mkN
  rw [mkS, if_neg (by omega)]
  congr 1
  funext r
  rw [show g.k + (i : Int) - g.k = i by omega]
  congr 1
  unfold allOf
  congr 1
  funext y
  split
  · next h => exact mkS_sym h
  · next h =>
    show _ = mkS g void d (g.k + ((y - g.k).toNat : Int))
    rw [show g.k + ((y - g.k).toNat : Int) = y by omega]
theorem mkN_zero {g : Grammar} {void : Bool} {i : Nat} : mkN g void 0 i = false := by
  unfold mkN
  rw [mkS, decide_eq_false (by omega)]; rfl
theorem mkN_mono {g : Grammar} {void : Bool} {d i : Nat} (h : mkN g void d i = true) : mkN g void (d + 1) i = true := mkS_mono h
theorem mkN_le {g : Grammar} {void : Bool} {d e i : Nat} (he : d ≤ e) (h : mkN g void d i = true) : mkN g void e i = true := by
  obtain ⟨c, rfl⟩ := Nat.exists_eq_add_of_le he
  induction c with
  | zero => exact h
  | succ c ih => exact mkN_mono (ih (by omega))
structure Valid (g : Grammar) : Prop where
  k : 1 ≤ g.k ∧ g.k ≤ 3
  n : 1 ≤ g.n ∧ g.n ≤ 5
  start : 0 ≤ g.start ∧ g.start < g.n
  len : g.rules.length ≤ 10
  left : ∀ r, r ∈ g.rules → 0 ≤ r.left ∧ r.left < g.n
  long : ∀ r, r ∈ g.rules → r.right.length ≤ 4
  right : ∀ r, r ∈ g.rules → ∀ y, y ∈ r.right → 0 ≤ y ∧ y < g.k + g.n
theorem valid_of {g : Grammar} (h : gcode g = 0) : Valid g := by
  rw [gcode_b] at h
  split at h
  · omega
  · next h1 =>
    split at h
    · omega
    · next h2 =>
      split at h
      · omega
      · next h3 =>
        split at h
        · omega
        · next h4 =>
          have hr : ∀ r, r ∈ g.rules → badRule g r = false := fun r hm => by
            cases hb : badRule g r
            · rfl
            · exact absurd (List.any_eq_true.2 ⟨r, hm, hb⟩) h4
          have hs : ∀ r, r ∈ g.rules → (0 ≤ r.left ∧ r.left < g.n) ∧ isSigns g r.right = true := fun r hm => by
            have := hr r hm
            simpa [badRule] using this
          refine ⟨by omega, by omega, by omega, by omega, fun r hm => (hs r hm).1, fun r hm => ?_, fun r hm y hy => ?_⟩
          · have : ¬ (4 < r.right.length) := fun hl => h2 (List.any_eq_true.2 ⟨r, hm, decide_eq_true hl⟩)
            omega
          · have := List.all_eq_true.1 (hs r hm).2 y hy
            exact of_decide_eq_true this
theorem allOf_congr {g : Grammar} {sy : Bool} {S T : Nat → Bool} {l : List Int} (hl : ∀ y, y ∈ l → 0 ≤ y ∧ y < g.k + g.n) (h : ∀ x, x < g.n.toNat → S x = T x) : allOf g sy S l = allOf g sy T l := by
  unfold allOf
  rw [Bool.eq_iff_iff, List.all_eq_true, List.all_eq_true]
  have hh : ∀ y, y ∈ l → (if y < g.k then sy else S (y - g.k).toNat) = (if y < g.k then sy else T (y - g.k).toNat) := fun y hy => by
    split
    · rfl
    · exact h _ (by have := hl y hy; omega)
  exact ⟨fun a y hy => by rw [← hh y hy]; exact a y hy, fun a y hy => by rw [hh y hy]; exact a y hy⟩
theorem any_congr {α : Type} {p q : α → Bool} {l : List α} (h : ∀ a, a ∈ l → p a = q a) : l.any p = l.any q := by
  rw [Bool.eq_iff_iff, List.any_eq_true, List.any_eq_true]
  exact ⟨fun ⟨a, ha, hp⟩ => ⟨a, ha, by rw [← h a ha]; exact hp⟩, fun ⟨a, ha, hp⟩ => ⟨a, ha, by rw [h a ha]; exact hp⟩⟩
theorem mkN_stable {g : Grammar} (hv : Valid g) {void : Bool} {d i : Nat} (hi : (i : Int) < g.n) (h : mkN g void d i = true) : mkN g void g.n.toNat i = true := by
  have hs := chain_stable (n := g.n.toNat) (fun d i => mkN g void d i) (fun S i => g.rules.any fun r => decide (r.left = (i : Int)) && allOf g (!void) S r.right)
    (fun a b hab x hx => any_congr fun r hr => by rw [allOf_congr (hv.right r hr) hab]) (fun k x => mkN_succ) (fun k x => mkN_mono) i (by omega)
  by_cases hd : g.n.toNat ≤ d
  · rw [← hs d hd]; exact h
  · exact mkN_le (by omega) h
def nameSet (g : Grammar) (void : Bool) : Nat := setOf (mkN g void g.n.toNat) g.n.toNat
theorem closed_all {g : Grammar} (hv : Valid g) {void : Bool} {S : Nat} (hc : ∀ r, r ∈ g.rules → allOf g (!void) S.testBit r.right = true → S.testBit r.left.toNat = true) : ∀ {d i : Nat}, mkN g void d i = true → S.testBit i = true
  | 0, i, h => by rw [mkN_zero] at h; cases h
  | d + 1, i, h => by
    rw [mkN_succ] at h
    simp only [List.any_eq_true, Bool.and_eq_true, decide_eq_true_eq] at h
    obtain ⟨r, hr, h1, h2⟩ := h
    have h3 := hc r hr (by
      unfold allOf at h2 ⊢
      rw [List.all_eq_true] at h2 ⊢
      intro y hy
      have := h2 y hy
      split
      · next hk => rw [if_pos hk] at this; exact this
      · next hk => rw [if_neg hk] at this; exact closed_all hv hc this)
    rw [h1, Int.toNat_natCast] at h3
    exact h3
theorem sound_step {g : Grammar} {void : Bool} {S : Nat} {r : Rule} (hv : Valid g) (hr : r ∈ g.rules) (hs : ∀ x, S.testBit x = true → ∃ d, mkN g void d x = true) (h : allOf g (!void) S.testBit r.right = true) : ∃ d, mkN g void d r.left.toNat = true := by
  have : ∀ l : List Int, (∀ y, y ∈ l → (if y < g.k then !void else S.testBit (y - g.k).toNat) = true) → ∃ d, allOf g (!void) (mkN g void d) l = true := by
    intro l
    induction l with
    | nil => intro _; exact ⟨0, rfl⟩
    | cons y l ih =>
      intro hl
      obtain ⟨d, hd⟩ := ih fun z hz => hl z (by simp [hz])
      have hy := hl y (by simp)
      unfold allOf at hd ⊢
      by_cases hk : y < g.k
      · rw [if_pos hk] at hy
        exact ⟨d, by rw [List.all_cons, if_pos hk, hd, hy]; rfl⟩
      · rw [if_neg hk] at hy
        obtain ⟨e, he⟩ := hs _ hy
        refine ⟨max d e, ?_⟩
        rw [List.all_cons, if_neg hk, mkN_le (Nat.le_max_right d e) he, Bool.true_and]
        rw [List.all_eq_true] at hd ⊢
        intro z hz
        have := hd z hz
        split
        · next hz2 => rw [if_pos hz2] at this; exact this
        · next hz2 => rw [if_neg hz2] at this; exact mkN_le (Nat.le_max_left d e) this
  unfold allOf at h
  rw [List.all_eq_true] at h
  obtain ⟨d, hd⟩ := this r.right h
  refine ⟨d + 1, ?_⟩
  rw [mkN_succ]
  have hl := (hv.left r hr).1
  exact List.any_eq_true.2 ⟨r, hr, by rw [hd, decide_eq_true (by omega)]; rfl⟩
set_option maxRecDepth 10000 in
set_option maxHeartbeats 4000000 in
theorem allOf1_spec (g : Grammar) (hk : 0 ≤ g.k ∧ g.k ≤ 1000) (S : Nat) (hS : (S : Int) ≤ 4294967295) (b : Bool) (y : Int) (hy : -1000 ≤ y ∧ y < g.k + 32) : Dm.Spec Try.prog 61 [iv .i64 y, .ip (graD g) 0, .ip [.v (.bool b)] 0, .ip [iv .u32 S] 0] (· = .v (.bool (!(if y < g.k then b else S.testBit (y - g.k).toNat)))) := by
  refine spec_of_vc mixed Try.func61 c61 (by rw [show Try.f61.ntmps = _ from Try.ntmps61]; simp) ?_
  unfold m61 r61
  repeat' first | ((first | refine Br.dec ?_ ?_ | refine Br.eqi ?_ ?_) <;> intro h <;> try (exfalso; omega)) | (simp (disch := (first | omega | (simp only [vlen]; first | done | omega))) only [↓vAq, vBq, ↓reduceIte, Nat.reduceBEq, Nat.reduceEqDiff, Nat.reduceLT, Nat.reduceLeDiff, Nat.reduceAdd, Nat.reduceMul, Nat.reduceSub, reduceCtorEq, Int.reduceToNat]) | (refine Br.mk ?_ ?_ <;> intro h) | (refine BrN.mk (fun h => ?_) ?_) | (refine AltVC.mk ?_ ?_)
  · exact fin_mk (by rw [if_pos (by assumption)])
  · have e : y - g.k = ((y - g.k).toNat : Int) := by omega
    rw [e]
    refine CallVC.eq (has_spec S _ hS (by omega)) ?_
    repeat' first | ((first | refine Br.dec ?_ ?_ | refine Br.eqi ?_ ?_) <;> intro h <;> try (exfalso; omega)) | (simp (disch := (first | omega | (simp only [vlen]; first | done | omega))) only [↓vAq, vBq, ↓reduceIte, Nat.reduceBEq, Nat.reduceEqDiff, Nat.reduceLT, Nat.reduceLeDiff, Nat.reduceAdd, Nat.reduceMul, Nat.reduceSub, reduceCtorEq, Int.reduceToNat]) | (refine Br.mk ?_ ?_ <;> intro h) | (refine BrN.mk (fun h => ?_) ?_) | (refine AltVC.mk ?_ ?_)
    exact fin_mk (by rw [if_neg (by assumption)])
set_option maxRecDepth 10000 in
set_option maxHeartbeats 4000000 in
theorem allOf_spec (g : Grammar) (hk : 0 ≤ g.k ∧ g.k ≤ 1000) (l : List Int) (hl : l.length ≤ 9223372036854775807) (S : Nat) (hS : (S : Int) ≤ 4294967295) (b : Bool) (hy : ∀ y, y ∈ l → -1000 ≤ y ∧ y < g.k + 32) : Dm.Spec Try.prog 30 [.ag (graD g), .sl 1 (i64s l), iv .u32 S, .v (.bool b)] (· = .v (.bool (allOf g b S.testBit l))) := by
  refine spec_of_vc mixed Try.func30 c30 (by rw [show Try.f30.ntmps = _ from Try.ntmps30]; simp) ?_
  unfold m30 r30
  repeat' first | ((first | refine Br.dec ?_ ?_ | refine Br.eqi ?_ ?_) <;> intro h <;> try (exfalso; omega)) | (simp (disch := (first | omega | (simp only [vlen]; first | done | omega))) only [↓vAq, vBq, ↓reduceIte, Nat.reduceBEq, Nat.reduceEqDiff, Nat.reduceLT, Nat.reduceLeDiff, Nat.reduceAdd, Nat.reduceMul, Nat.reduceSub, reduceCtorEq, Int.reduceToNat]) | (refine Br.mk ?_ ?_ <;> intro h) | (refine BrN.mk (fun h => ?_) ?_) | (refine AltVC.mk ?_ ?_)
  refine CallVC.eqo (conF_int l (fun y => !(if y < g.k then b else S.testBit (y - g.k).toNat)) _ [.ip (graD g) 0, .ip [.v (.bool b)] 0, .ip [iv .u32 S] 0] hl (by simp (disch := (first | omega | (simp only [vlen]; first | done | omega))) only [↓vAq, vBq, ↓reduceIte, Nat.reduceBEq, Nat.reduceEqDiff, Nat.reduceLT, Nat.reduceLeDiff, Nat.reduceAdd, Nat.reduceMul, Nat.reduceSub, reduceCtorEq, Int.reduceToNat]) fun a ha => allOf1_spec g hk S hS b a (hy a ha)) (by simp (disch := (first | omega | (simp only [vlen]; first | done | omega))) only [↓vAq, vBq, ↓reduceIte, Nat.reduceBEq, Nat.reduceEqDiff, Nat.reduceLT, Nat.reduceLeDiff, Nat.reduceAdd, Nat.reduceMul, Nat.reduceSub, reduceCtorEq, Int.reduceToNat]) ?_
  repeat' first | ((first | refine Br.dec ?_ ?_ | refine Br.eqi ?_ ?_) <;> intro h <;> try (exfalso; omega)) | (simp (disch := (first | omega | (simp only [vlen]; first | done | omega))) only [↓vAq, vBq, ↓reduceIte, Nat.reduceBEq, Nat.reduceEqDiff, Nat.reduceLT, Nat.reduceLeDiff, Nat.reduceAdd, Nat.reduceMul, Nat.reduceSub, reduceCtorEq, Int.reduceToNat]) | (refine Br.mk ?_ ?_ <;> intro h) | (refine BrN.mk (fun h => ?_) ?_) | (refine AltVC.mk ?_ ?_)
  exact fin_mk (vbEq all_not')
set_option maxRecDepth 10000 in
set_option maxHeartbeats 4000000 in
theorem derive_spec (g : Grammar) (hv : Valid g) (void : Bool) : Dm.Spec Try.prog 59 [.ag (graD g), .v (.bool (!void))] (· = iv .u32 (nameSet g void)) := by
  refine spec_of_vc mixed Try.func59 c59 (by rw [show Try.f59.ntmps = _ from Try.ntmps59]; simp) ?_
  unfold m59 r59
  obtain ⟨hk, hn, hst, hlen, hleft, hlong, hright⟩ := hv
  have hv : Valid g := ⟨hk, hn, hst, hlen, hleft, hlong, hright⟩
  have hp : 2 ^ g.n.toNat ≤ 32 := Nat.le_trans (Nat.pow_le_pow_right (show 0 < 2 by omega) (show g.n.toNat ≤ 5 by omega)) (by decide)
  repeat' first | ((first | refine Br.dec ?_ ?_ | refine Br.eqi ?_ ?_) <;> intro h <;> try (exfalso; omega)) | (simp (disch := (first | omega | (simp only [vlen]; first | done | omega))) only [↓vAq, vBq, ↓reduceIte, Nat.reduceBEq, Nat.reduceEqDiff, Nat.reduceLT, Nat.reduceLeDiff, Nat.reduceAdd, Nat.reduceMul, Nat.reduceSub, reduceCtorEq, Int.reduceToNat]) | (refine Br.mk ?_ ?_ <;> intro h) | (refine BrN.mk (fun h => ?_) ?_) | (refine AltVC.mk ?_ ?_)
  refine LoopVC.mk (X := Nat) (fun S => [(5, iv .u32 S)]) (fun _ => [(0, ⟨4, [[iv .i64 g.k, iv .i64 g.n, iv .i64 g.start, .sl 2 (tbl rulD g.rules)]], true, false, .fix⟩)]) (fun S => 32 - S) (fun S => S < 2 ^ g.n.toNat ∧ ∀ x, S.testBit x = true → ∃ d, mkN g void d x = true) 0 ⟨Nat.pow_pos (by omega), fun x h => by simp at h⟩ ?_ ?_
  · (simp (disch := (first | omega | (simp only [vlen]; first | done | omega))) only [Fits_u, Fits_m, Fits_nil, List.length_append, ↓vAq, vBq, ↓reduceIte, Nat.reduceBEq, Nat.reduceEqDiff, Nat.reduceLT, Nat.reduceLeDiff, Nat.reduceAdd, Nat.reduceMul, Nat.reduceSub, reduceCtorEq, Int.reduceToNat] <;> (repeat' first | rfl | apply And.intro))
  · rintro W ⟨hW, hs⟩
    repeat' first | ((first | refine Br.dec ?_ ?_ | refine Br.eqi ?_ ?_) <;> intro h <;> try (exfalso; omega)) | (simp (disch := (first | omega | (simp only [vlen]; first | done | omega))) only [↓vAq, vBq, ↓reduceIte, Nat.reduceBEq, Nat.reduceEqDiff, Nat.reduceLT, Nat.reduceLeDiff, Nat.reduceAdd, Nat.reduceMul, Nat.reduceSub, reduceCtorEq, Int.reduceToNat]) | (refine Br.mk ?_ ?_ <;> intro h) | (refine BrN.mk (fun h => ?_) ?_) | (refine AltVC.mk ?_ ?_)
    refine LoopVC.mk (X := Nat × Nat) (fun x => [(5, iv .u32 x.1), (13, iv .i64 x.2)]) (fun _ => [(0, ⟨4, [[iv .i64 g.k, iv .i64 g.n, iv .i64 g.start, .sl 2 (tbl rulD g.rules)]], true, false, .fix⟩)]) (fun x => g.rules.length - x.2) (fun x => x.2 ≤ g.rules.length ∧ x.1 < 2 ^ g.n.toNat ∧ W ≤ x.1 ∧ (∀ y, x.1.testBit y = true → ∃ d, mkN g void d y = true) ∧ (x.1 = W → ∀ j, j < x.2 → allOf g (!void) W.testBit (g.rules.getD j default).right = true → W.testBit (g.rules.getD j default).left.toNat = true)) (W, 0) ⟨by simp, hW, by simp, hs, fun _ j hj => by simp at hj⟩ ?_ ?_
    · (simp (disch := (first | omega | (simp only [vlen]; first | done | omega))) only [Fits_u, Fits_m, Fits_nil, List.length_append, ↓vAq, vBq, ↓reduceIte, Nat.reduceBEq, Nat.reduceEqDiff, Nat.reduceLT, Nat.reduceLeDiff, Nat.reduceAdd, Nat.reduceMul, Nat.reduceSub, reduceCtorEq, Int.reduceToNat] <;> (repeat' first | rfl | apply And.intro))
    · rintro ⟨S, i⟩ ⟨h1, h2, h3, h4, h5⟩
      simp only at h1 h2 h3 h4 h5
      have hS32 : (S : Int) ≤ 4294967295 := by omega
      repeat' first | ((first | refine Br.dec ?_ ?_ | refine Br.eqi ?_ ?_) <;> intro h <;> try (exfalso; omega)) | (simp (disch := (first | omega | (simp only [vlen]; first | done | omega))) only [↓vAq, vBq, ↓reduceIte, Nat.reduceBEq, Nat.reduceEqDiff, Nat.reduceLT, Nat.reduceLeDiff, Nat.reduceAdd, Nat.reduceMul, Nat.reduceSub, reduceCtorEq, Int.reduceToNat]) | (refine Br.mk ?_ ?_ <;> intro h) | (refine BrN.mk (fun h => ?_) ?_) | (refine AltVC.mk ?_ ?_)
      · have hm : g.rules.getD i default ∈ g.rules := getD_mem' (by omega)
        have hl := hleft _ hm
        have hq := hlong _ hm
        refine CallVC.eq (allOf_spec g (by omega) _ (by omega) S hS32 (!void) (fun y hy => by have := hright _ hm y hy; omega)) ?_
        repeat' first | ((first | refine Br.dec ?_ ?_ | refine Br.eqi ?_ ?_) <;> intro h <;> try (exfalso; omega)) | (simp (disch := (first | omega | (simp only [vlen]; first | done | omega))) only [↓vAq, vBq, ↓reduceIte, Nat.reduceBEq, Nat.reduceEqDiff, Nat.reduceLT, Nat.reduceLeDiff, Nat.reduceAdd, Nat.reduceMul, Nat.reduceSub, reduceCtorEq, Int.reduceToNat]) | (refine Br.mk ?_ ?_ <;> intro h) | (refine BrN.mk (fun h => ?_) ?_) | (refine AltVC.mk ?_ ?_)
        · have ha : allOf g (!void) S.testBit (g.rules.getD i default).right = true := by assumption
          have e2 : (g.rules.getD i default).left = (((g.rules.getD i default).left.toNat : Nat) : Int) := by omega
          have hp2 := @pow_le31 (g.rules.getD i default).left.toNat (by omega)
          rw [shlN (by omega), orN hS32 (by omega)]
          have hlt := or_two_lt h2 (show (g.rules.getD i default).left.toNat < g.n.toNat by omega)
          have hle := @le_or S (2 ^ (g.rules.getD i default).left.toNat)
          refine loopK.mk (S ||| 2 ^ (g.rules.getD i default).left.toNat, i + 1) (by simp (disch := (first | omega | (simp only [vlen]; first | done | omega))) only [↓vAq, vBq, ↓reduceIte, Nat.reduceBEq, Nat.reduceEqDiff, Nat.reduceLT, Nat.reduceLeDiff, Nat.reduceAdd, Nat.reduceMul, Nat.reduceSub, reduceCtorEq, Int.reduceToNat]) ⟨by simp only; omega, hlt, by simp only; omega, fun y hy => ?_, fun he j hj => ?_⟩ (by simp only; omega) (by (simp (disch := (first | omega | (simp only [vlen]; first | done | omega))) only [Fits_u, Fits_m, Fits_nil, List.length_append, ↓vAq, vBq, ↓reduceIte, Nat.reduceBEq, Nat.reduceEqDiff, Nat.reduceLT, Nat.reduceLeDiff, Nat.reduceAdd, Nat.reduceMul, Nat.reduceSub, reduceCtorEq, Int.reduceToNat] <;> (repeat' first | rfl | apply And.intro)))
          · rw [or_bit, Bool.or_eq_true] at hy
            rcases hy with hy | hy
            · exact h4 y hy
            · rw [decide_eq_true_eq] at hy; rw [hy]; exact sound_step hv hm h4 ha
          · simp only at he hj
            have e3 : S = W := by omega
            intro hja
            by_cases ej : j = i
            · subst ej
              rw [← he, or_bit]; simp
            · exact h5 e3 j (by omega) hja
        · have ha : allOf g (!void) S.testBit (g.rules.getD i default).right = false := by assumption
          refine loopK.mk (S, i + 1) (by simp (disch := (first | omega | (simp only [vlen]; first | done | omega))) only [↓vAq, vBq, ↓reduceIte, Nat.reduceBEq, Nat.reduceEqDiff, Nat.reduceLT, Nat.reduceLeDiff, Nat.reduceAdd, Nat.reduceMul, Nat.reduceSub, reduceCtorEq, Int.reduceToNat]) ⟨by simp only; omega, h2, h3, h4, fun he j hj => ?_⟩ (by simp only; omega) (by (simp (disch := (first | omega | (simp only [vlen]; first | done | omega))) only [Fits_u, Fits_m, Fits_nil, List.length_append, ↓vAq, vBq, ↓reduceIte, Nat.reduceBEq, Nat.reduceEqDiff, Nat.reduceLT, Nat.reduceLeDiff, Nat.reduceAdd, Nat.reduceMul, Nat.reduceSub, reduceCtorEq, Int.reduceToNat] <;> (repeat' first | rfl | apply And.intro)))
          simp only at he hj
          by_cases ej : j = i
          · subst ej; subst he; intro hja; rw [ha] at hja; cases hja
          · exact h5 he j (by omega)
      · have e : S = W := by omega
        subst e
        have hc : ∀ r, r ∈ g.rules → allOf g (!void) S.testBit r.right = true → S.testBit r.left.toNat = true := fun r hr => by
          obtain ⟨j, hj, ej⟩ := mem_getD hr
          rw [← ej]; exact h5 rfl j (by omega)
        refine fin_mk ?_
        have hx : S = nameSet g void := set_ext h2 fun x hx => by
          rw [Bool.eq_iff_iff]
          constructor
          · intro hb
            obtain ⟨d, hd⟩ := h4 x hb
            exact mkN_stable hv (by omega) hd
          · intro hb
            exact closed_all hv hc hb
        rw [hx]
      · refine loopK.mk S (by simp (disch := (first | omega | (simp only [vlen]; first | done | omega))) only [↓vAq, vBq, ↓reduceIte, Nat.reduceBEq, Nat.reduceEqDiff, Nat.reduceLT, Nat.reduceLeDiff, Nat.reduceAdd, Nat.reduceMul, Nat.reduceSub, reduceCtorEq, Int.reduceToNat]) ⟨h2, h4⟩ (by omega) (by (simp (disch := (first | omega | (simp only [vlen]; first | done | omega))) only [Fits_u, Fits_m, Fits_nil, List.length_append, ↓vAq, vBq, ↓reduceIte, Nat.reduceBEq, Nat.reduceEqDiff, Nat.reduceLT, Nat.reduceLeDiff, Nat.reduceAdd, Nat.reduceMul, Nat.reduceSub, reduceCtorEq, Int.reduceToNat] <;> (repeat' first | rfl | apply And.intro)))
set_option maxRecDepth 10000 in
set_option maxHeartbeats 4000000 in
theorem nullable_spec (g : Grammar) (hv : Valid g) : Dm.Spec Try.prog 69 [.ag (graD g)] (· = iv .u32 (nameSet g true)) := by
  refine spec_of_vc mixed Try.func69 c69 (by rw [show Try.f69.ntmps = _ from Try.ntmps69]; simp) ?_
  unfold m69 r69
  repeat' first | ((first | refine Br.dec ?_ ?_ | refine Br.eqi ?_ ?_) <;> intro h <;> try (exfalso; omega)) | (simp (disch := (first | omega | (simp only [vlen]; first | done | omega))) only [↓vAq, vBq, ↓reduceIte, Nat.reduceBEq, Nat.reduceEqDiff, Nat.reduceLT, Nat.reduceLeDiff, Nat.reduceAdd, Nat.reduceMul, Nat.reduceSub, reduceCtorEq, Int.reduceToNat]) | (refine Br.mk ?_ ?_ <;> intro h) | (refine BrN.mk (fun h => ?_) ?_) | (refine AltVC.mk ?_ ?_)
  refine CallVC.eq (derive_spec g hv true) ?_
  repeat' first | ((first | refine Br.dec ?_ ?_ | refine Br.eqi ?_ ?_) <;> intro h <;> try (exfalso; omega)) | (simp (disch := (first | omega | (simp only [vlen]; first | done | omega))) only [↓vAq, vBq, ↓reduceIte, Nat.reduceBEq, Nat.reduceEqDiff, Nat.reduceLT, Nat.reduceLeDiff, Nat.reduceAdd, Nat.reduceMul, Nat.reduceSub, reduceCtorEq, Int.reduceToNat]) | (refine Br.mk ?_ ?_ <;> intro h) | (refine BrN.mk (fun h => ?_) ?_) | (refine AltVC.mk ?_ ?_)
  exact fin_mk rfl
end Go.Proofs.Ytplkkacfjepgpaa
