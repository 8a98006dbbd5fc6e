/-
  Parsing with one symbol of lookahead: plain laws.
-/
import Derived.Test.YtplkkacfjepgpaaAheadH
import Derived.Test.YtplkkacfjepgpaaFollow
import Derived.Test.YtplkkacfjepgpaaDer
set_option linter.unusedVariables false
set_option linter.unusedSimpArgs false
set_option linter.unnecessarySimpa false
namespace Go.Proofs.Ytplkkacfjepgpaa
open Go.Dm
set_option linter.defProp false
theorem fol_lt {g : Grammar} (hv : Valid g) {N n x : Nat} (h : Fol g N n x) : x < 4 := by
  have := hv.k
  induction h with
  | start => omega
  | fst r p x hr hc hp hk h => have := fstLL_lt hv h; omega
  | pas r p x hr hc hp hk he h ih => exact ih
open Classical in
theorem folS_bit {g : Grammar} (hv : Valid g) {N i x : Nat} : (folS g N i).testBit x = true ↔ Fol g N i x := by
  unfold folS
  rw [setOf_bit, Bool.and_eq_true]
  exact ⟨fun h => of_decide_eq_true h.2, fun h => ⟨decide_eq_true (fol_lt hv h), decide_eq_true h⟩⟩
open Classical in
theorem fstS_bit2 {g : Grammar} (hv : Valid g) {N x : Nat} {l : List Int} : (fstS g N l).testBit x = true ↔ FstL g N l x := by
  unfold fstS
  rw [setOf_bit, Bool.and_eq_true]
  exact ⟨fun h => of_decide_eq_true h.2, fun h => ⟨decide_eq_true (fstLL_lt hv h), decide_eq_true h⟩⟩
theorem lk_bit {g : Grammar} (hv : Valid g) {N x : Nat} {r : Rule} : (lk g N r).testBit x = true ↔ FstL g N r.right x ∨ (emp g N r.right = true ∧ Fol g N r.left.toNat x) := by
  unfold lk
  rw [Nat.testBit_or, Bool.or_eq_true, fstS_bit2 hv]
  cases emp g N r.right with
  | true => simp only [if_true, folS_bit hv, true_and]
  | false => simp
theorem getD_appl {a b : List Int} {p : Nat} (h : p < a.length) : (a ++ b).getD p 0 = a.getD p 0 := by
  simp only [List.getD_eq_getElem?_getD]; rw [List.getElem?_append_left h]
theorem getD_appr {a b : List Int} {p : Nat} (h : a.length ≤ p) : (a ++ b).getD p 0 = b.getD (p - a.length) 0 := by
  simp only [List.getD_eq_getElem?_getD]; rw [List.getElem?_append_right h]
structure Cf where
  st : List Int
  at_ : Nat
  out : List Int
def symAt (g : Grammar) (w : List Int) (i : Nat) : Int := if i < w.length then w.getD i 0 else g.k
def Hit (g : Grammar) (N : Nat) (x c : Int) (q : Nat) : Prop := (g.rules.getD q default).left = x - g.k ∧ (lk g N (g.rules.getD q default)).testBit c.toNat = true
def Chs (g : Grammar) (N : Nat) (x c : Int) (q : Nat) : Prop := q < g.rules.length ∧ Hit g N x c q ∧ ∀ j, j < q → ¬ Hit g N x c j
inductive Sp (g : Grammar) (N : Nat) (w : List Int) : Cf → Cf → Prop
  | eat (x : Int) (st : List Int) (i : Nat) (out : List Int) (hx : x < g.k) (he : x = symAt g w i) : Sp g N w ⟨x :: st, i, out⟩ ⟨st, i + 1, out⟩
  | exp (x : Int) (st : List Int) (i : Nat) (out : List Int) (q : Nat) (hx : ¬ x < g.k) (hq : Chs g N x (symAt g w i) q) : Sp g N w ⟨x :: st, i, out⟩ ⟨(g.rules.getD q default).right ++ st, i, out ++ [(q : Int)]⟩
inductive Sps (g : Grammar) (N : Nat) (w : List Int) : Nat → Cf → Cf → Prop
  | refl (c : Cf) : Sps g N w 0 c c
  | head (n : Nat) (a b c : Cf) (h : Sp g N w a b) (t : Sps g N w n b c) : Sps g N w (n + 1) a c
theorem Sps.trans {g : Grammar} {N : Nat} {w : List Int} {m n : Nat} {a b c : Cf} (h : Sps g N w m a b) (k : Sps g N w n b c) : Sps g N w (m + n) a c := by
  induction h with
  | refl => rw [Nat.zero_add]; exact k
  | head m a b c h t ih => rw [show m + 1 + n = m + n + 1 by omega]; exact .head _ _ _ _ h (ih k)
theorem clr_one {g : Grammar} {N : Nat} (hcl : Clr g N g.rules.length) {x c : Int} {p q : Nat} (hp : p < g.rules.length) (hq : q < g.rules.length) (h1 : Hit g N x c p) (h2 : Hit g N x c q) : p = q := by
  rcases Nat.lt_trichotomy p q with h | h | h
  · exact (and_bit (hcl q hq p h (h2.1.trans h1.1.symm)) h2.2 h1.2).elim
  · exact h
  · exact (and_bit (hcl p hp q h (h1.1.trans h2.1.symm)) h1.2 h2.2).elim
theorem chs_of {g : Grammar} {N : Nat} (hcl : Clr g N g.rules.length) {x c : Int} {q : Nat} (hq : q < g.rules.length) (h : Hit g N x c q) : Chs g N x c q :=
  ⟨hq, h, fun j hj h' => absurd (clr_one hcl (by omega) hq h' h) (by omega)⟩
def Gd (g : Grammar) (l : List Int) : Prop := ∀ y, y ∈ l → (0 ≤ y ∧ y < g.k + g.n) ∧ (¬ y < g.k → Rch g (y - g.k).toNat)
theorem gd_right {g : Grammar} (hv : Valid g) {r : Rule} (hr : r ∈ g.rules) (hc : Rch g r.left.toNat) : Gd g r.right := fun y hy => ⟨hv.right r hr y hy, fun h => .step hr hc hy (by omega)⟩
theorem gd_app {g : Grammar} {a b : List Int} (ha : Gd g a) (hb : Gd g b) : Gd g (a ++ b) := fun y hy => (List.mem_append.1 hy).elim (ha y) (hb y)
theorem emp_all {g : Grammar} {N : Nat} : ∀ {l : List Int}, emp g N l = true ↔ ∀ y, y ∈ l → ¬ y < g.k ∧ N.testBit (y - g.k).toNat = true
  | [] => by simp [emp_nil]
  | x :: l => by
    rw [emp_cons]
    by_cases h : x < g.k
    · rw [if_pos h]
      simp only [Bool.false_eq_true, false_iff]
      intro h2
      exact (h2 x (by simp)).1 h
    · rw [if_neg h, Bool.and_eq_true, emp_all]
      simp only [List.mem_cons, forall_eq_or_imp, h, not_false_eq_true, true_and]
theorem rule_is {g : Grammar} {r : Rule} (h : r ∈ g.rules) : ∃ q, q < g.rules.length ∧ g.rules.getD q default = r := rule_at h
def er : Nat → Nat
  | 0 => 0
  | d + 1 => 1 + 4 * er d
theorem erase {g : Grammar} (hv : Valid g) {N : Nat} (hNe : N = nameSet g true) (hcl : Clr g N g.rules.length) {w : List Int} {i : Nat} : ∀ (d X : Nat), mkN g true d X = true → Rch g X → Fol g N X (symAt g w i).toNat → ∀ (st out : List Int), ∃ m out', m ≤ er d ∧ Sps g N w m ⟨(g.k + (X : Int)) :: st, i, out⟩ ⟨st, i, out'⟩
  | 0, X, h, _, _, st, out => by rw [mkN_zero] at h; cases h
  | d + 1, X, h, hc, hf, st, out => by
    rw [mkN_succ] at h
    simp only [List.any_eq_true, Bool.and_eq_true, decide_eq_true_eq] at h
    obtain ⟨r, hr, h1, h2⟩ := h
    obtain ⟨q, hq, hre⟩ := rule_is hr
    unfold allOf at h2
    rw [List.all_eq_true] at h2
    have hkn : ∀ y, y ∈ r.right → ¬ y < g.k ∧ mkN g true d (y - g.k).toNat = true := fun y hy => by
      have := h2 y hy
      split at this
      · cases this
      · exact ⟨by assumption, this⟩
    have hrl : r.left.toNat = X := by rw [h1]; rfl
    have hbit : ∀ y, y ∈ r.right → ¬ y < g.k ∧ N.testBit (y - g.k).toNat = true := fun y hy => by
      have hy2 := hkn y hy
      have hyr := hv.right r hr y hy
      refine ⟨hy2.1, ?_⟩
      rw [hNe]
      unfold nameSet
      rw [setOf_bit, Bool.and_eq_true]
      exact ⟨decide_eq_true (by omega), mkN_stable hv (by omega) hy2.2⟩
    have hemp : emp g N r.right = true := emp_all.2 hbit
    have hhit : Hit g N (g.k + (X : Int)) (symAt g w i) q := by
      refine ⟨by rw [hre, h1]; omega, ?_⟩
      rw [hre, lk_bit hv, hrl]
      exact .inr ⟨hemp, hf⟩
    -- the signs go, one behind another
    have all : ∀ (suf pre : List Int), r.right = pre ++ suf → ∀ (out : List Int), ∃ m out', m ≤ suf.length * er d ∧ Sps g N w m ⟨suf ++ st, i, out⟩ ⟨st, i, out'⟩ := by
      intro suf
      induction suf with
      | nil => intro pre _ out; exact ⟨0, out, by omega, .refl _⟩
      | cons y suf ih =>
        intro pre e out
        have hy : y ∈ r.right := by rw [e]; simp
        obtain ⟨hyk, hyd⟩ := hkn y hy
        have hpl : pre.length < r.right.length := by rw [e]; simp
        have hget : r.right.getD pre.length 0 = y := by rw [e]; simp [List.getD]
        have hdrop : r.right.drop (pre.length + 1) = suf := by rw [e]; simp
        have hfy : Fol g N (y - g.k).toNat (symAt g w i).toNat := by
          have := Fol.pas (N := N) r pre.length (symAt g w i).toNat hr (by rw [hrl]; exact hc) hpl (by rw [hget]; exact hyk) (by rw [hdrop]; exact emp_all.2 fun z hz => hbit z (by rw [e]; simp [hz])) (by rw [hrl]; exact hf)
          rwa [hget] at this
        obtain ⟨m1, out1, hm1, hs1⟩ := erase hv hNe hcl d (y - g.k).toNat hyd (.step hr (by rw [hrl]; exact hc) hy (by omega)) hfy (suf ++ st) out
        rw [show g.k + ((y - g.k).toNat : Int) = y by omega] at hs1
        obtain ⟨m2, out2, hm2, hs2⟩ := ih (pre ++ [y]) (by rw [e]; simp) out1
        exact ⟨m1 + m2, out2, by rw [List.length_cons, Nat.add_mul]; omega, hs1.trans hs2⟩
    obtain ⟨m, out', hm, hs⟩ := all r.right [] rfl (out ++ [(q : Int)])
    have hlong := hv.long r hr
    refine ⟨m + 1, out', ?_, .head _ _ _ _ (.exp _ _ _ _ q (by omega) (chs_of hcl hq hhit)) (by rw [hre]; exact hs)⟩
    have : r.right.length * er d ≤ 4 * er d := Nat.mul_le_mul_right _ hlong
    show m + 1 ≤ 1 + 4 * er d
    omega
theorem hds_split {g : Grammar} {N : Nat} : ∀ {l : List Int} {y : Int}, y ∈ hds g N l → ∃ pre suf, l = pre ++ y :: suf ∧ ∀ z, z ∈ pre → ¬ z < g.k ∧ N.testBit (z - g.k).toNat = true
  | [], y, h => by simp [hds] at h
  | x :: l, y, h => by
    rw [hds_cons] at h
    rcases List.mem_cons.1 h with rfl | h
    · exact ⟨[], l, rfl, by simp⟩
    · split at h
      · cases h
      · next hx =>
        split at h
        · next hb =>
          obtain ⟨pre, suf, e, hp⟩ := hds_split h
          exact ⟨x :: pre, suf, by rw [e]; rfl, fun z hz => by
            rcases List.mem_cons.1 hz with rfl | hz
            · exact ⟨hx, hb⟩
            · exact hp z hz⟩
        · cases h
theorem hds_join {g : Grammar} {N : Nat} {y : Int} {suf : List Int} : ∀ {pre : List Int}, (∀ z, z ∈ pre → ¬ z < g.k ∧ N.testBit (z - g.k).toNat = true) → y ∈ hds g N (pre ++ y :: suf)
  | [], _ => by rw [List.nil_append, hds_cons]; simp
  | x :: pre, h => by
    rw [List.cons_append, hds_cons, if_neg (h x (by simp)).1, if_pos (h x (by simp)).2]
    exact List.mem_cons_of_mem _ (hds_join fun z hz => h z (by simp [hz]))
def fsD (g : Grammar) (N c : Nat) : Nat → Nat → Bool
  | 0, _ => false
  | d + 1, i => g.rules.any fun r => decide (r.left = (i : Int)) && (hds g N r.right).any fun y => if y < g.k then decide (y.toNat = c) else fsD g N c d (y - g.k).toNat
theorem fsD_succ {g : Grammar} {N c d i : Nat} : fsD g N c (d + 1) i = g.rules.any fun r => decide (r.left = (i : Int)) && (hds g N r.right).any fun y => if y < g.k then decide (y.toNat = c) else fsD g N c d (y - g.k).toNat := by rw [fsD]
theorem fsD_mono {g : Grammar} {N c : Nat} : ∀ {d i : Nat}, fsD g N c d i = true → fsD g N c (d + 1) i = true
  | 0, i, h => by cases h
  | d + 1, i, h => by
    rw [fsD_succ] at h ⊢
    simp only [List.any_eq_true, Bool.and_eq_true] at h ⊢
    obtain ⟨r, hr, h1, y, hy, h2⟩ := h
    refine ⟨r, hr, h1, y, hy, ?_⟩
    split
    · next hk => rw [if_pos hk] at h2; exact h2
    · next hk => rw [if_neg hk] at h2; exact fsD_mono h2
theorem fsD_stable {g : Grammar} (hv : Valid g) {N c d i : Nat} (hi : (i : Int) < g.n) (h : fsD g N c d i = true) : fsD g N c g.n.toNat i = true := by
  have hs := chain_stable (n := g.n.toNat) (fun d i => fsD g N c d i) (fun S i => g.rules.any fun r => decide (r.left = (i : Int)) && (hds g N r.right).any fun y => if y < g.k then decide (y.toNat = c) else S (y - g.k).toNat)
    (fun a b hab x hx => any_congr fun r hr => by
      congr 1
      refine any_congr fun y hy => ?_
      split
      · rfl
      · exact hab _ (by have := hv.right r hr y (hds_sub hy); omega)) (fun k x => fsD_succ) (fun k x => fsD_mono) i (by omega)
  by_cases hd : g.n.toNat ≤ d
  · rw [← hs d hd]; exact h
  · have : ∀ e, d ≤ e → fsD g N c e i = true := fun e he => by
      obtain ⟨j, rfl⟩ := Nat.exists_eq_add_of_le he
      induction j with
      | zero => exact h
      | succ j ih => exact fsD_mono (ih (by omega))
    exact this _ (by omega)
theorem fst_fsD {g : Grammar} (hv : Valid g) {N n c : Nat} (h : Fst g N n c) : ∃ d, fsD g N c d n = true := by
  induction h with
  | sym r y hr hy hk =>
    refine ⟨1, ?_⟩
    rw [fsD_succ]
    simp only [List.any_eq_true, Bool.and_eq_true, decide_eq_true_eq]
    exact ⟨r, hr, by have := hv.left r hr; omega, y, hy, by rw [if_pos hk]; simp⟩
  | nam r y x hr hy hk hf ih =>
    obtain ⟨d, hd⟩ := ih
    refine ⟨d + 1, ?_⟩
    rw [fsD_succ]
    simp only [List.any_eq_true, Bool.and_eq_true, decide_eq_true_eq]
    exact ⟨r, hr, by have := hv.left r hr; omega, y, hy, by rw [if_neg hk]; exact hd⟩
theorem fsD_fst {g : Grammar} {N c : Nat} : ∀ {d n : Nat}, fsD g N c d n = true → Fst g N n c
  | 0, n, h => by cases h
  | d + 1, n, h => by
    rw [fsD_succ] at h
    simp only [List.any_eq_true, Bool.and_eq_true, decide_eq_true_eq] at h
    obtain ⟨r, hr, h1, y, hy, h2⟩ := h
    have e : n = r.left.toNat := by omega
    rw [e]
    split at h2
    · next hk => have := of_decide_eq_true h2; subst this; exact .sym r y hr hy hk
    · next hk => exact .nam r y c hr hy hk (fsD_fst h2)
def fr : Nat → Nat
  | 0 => 0
  | d + 1 => 1 + 4 * er 5 + fr d
theorem er_le {d : Nat} (h : d ≤ 5) : er d ≤ 341 := by
  match d, h with
  | 0, _ | 1, _ | 2, _ | 3, _ | 4, _ | 5, _ => decide
theorem null5 {g : Grammar} (hv : Valid g) {N X : Nat} (hNe : N = nameSet g true) (h : N.testBit X = true) : mkN g true 5 X = true := by
  have hn := hv.n
  rw [hNe] at h
  unfold nameSet at h
  rw [setOf_bit, Bool.and_eq_true] at h
  exact mkN_le (by omega) h.2
theorem emp_left {g : Grammar} (hv : Valid g) {N : Nat} (hNe : N = nameSet g true) {r : Rule} (hr : r ∈ g.rules) (h : emp g N r.right = true) : N.testBit r.left.toNat = true := by
  have hl := hv.left r hr
  obtain ⟨d, hd⟩ := sound_step (S := N) hv hr (fun x hx => ⟨5, null5 hv hNe hx⟩) (by
    unfold allOf
    rw [List.all_eq_true]
    intro y hy
    obtain ⟨h1, h2⟩ := emp_all.1 h y hy
    rw [if_neg h1]; exact h2)
  rw [hNe]
  unfold nameSet
  rw [setOf_bit, Bool.and_eq_true]
  exact ⟨decide_eq_true (by omega), mkN_stable hv (by omega) hd⟩
theorem toFst {g : Grammar} (hv : Valid g) {N : Nat} (hNe : N = nameSet g true) (hcl : Clr g N g.rules.length) {w : List Int} {i c : Nat} (hc : symAt g w i = (c : Int)) : ∀ (d X : Nat), fsD g N c d X = true → Rch g X → ∀ (st out : List Int),
    ∃ m γ out', m ≤ fr d ∧ γ.length ≤ 4 * d ∧ Gd g γ ∧ Sps g N w m ⟨(g.k + (X : Int)) :: st, i, out⟩ ⟨(c : Int) :: (γ ++ st), i, out'⟩
  | 0, X, h, _, st, out => by cases h
  | d + 1, X, h, hX, st, out => by
    rw [fsD_succ] at h
    simp only [List.any_eq_true, Bool.and_eq_true, decide_eq_true_eq] at h
    obtain ⟨r, hr, h1, y, hy, h2⟩ := h
    obtain ⟨q, hq, hre⟩ := rule_is hr
    have hrl : r.left.toNat = X := by rw [h1]; rfl
    have hrc : Rch g r.left.toNat := by rw [hrl]; exact hX
    have hyr := hv.right r hr y (hds_sub hy)
    have hsg : sgn g (Fst g N) y c := by
      split at h2
      · next hk => exact .inl ⟨hk, of_decide_eq_true h2⟩
      · next hk => exact .inr ⟨hk, fsD_fst h2⟩
    have hhit : Hit g N (g.k + (X : Int)) (symAt g w i) q := by
      refine ⟨by rw [hre, h1]; omega, ?_⟩
      rw [hre, lk_bit hv, hc, Int.toNat_natCast]
      exact .inl ⟨y, hy, hsg⟩
    obtain ⟨pre, suf, e, hpre⟩ := hds_split hy
    have hgd := gd_right hv hr hrc
    have all : ∀ (p2 p1 : List Int), pre = p1 ++ p2 → ∀ (out : List Int), ∃ m out', m ≤ p2.length * er 5 ∧ Sps g N w m ⟨p2 ++ (y :: (suf ++ st)), i, out⟩ ⟨y :: (suf ++ st), i, out'⟩ := by
      intro p2
      induction p2 with
      | nil => intro p1 _ out; exact ⟨0, out, by omega, .refl _⟩
      | cons z p2 ih =>
        intro p1 e2 out
        have hz := hpre z (by rw [e2]; simp)
        have hzr : z ∈ r.right := by rw [e, e2]; simp
        have hzb := hv.right r hr z hzr
        have hpl : p1.length < r.right.length := by rw [e, e2]; simp
        have hget : r.right.getD p1.length 0 = z := by rw [e, e2]; simp [List.getD]
        have hdrop : r.right.drop (p1.length + 1) = p2 ++ y :: suf := by rw [e, e2]; simp
        have hfy : Fol g N (z - g.k).toNat (symAt g w i).toNat := by
          have := Fol.fst (N := N) r p1.length c hr hrc hpl (by rw [hget]; exact hz.1) (by rw [hdrop]; exact ⟨y, hds_join fun z' hz' => hpre z' (by rw [e2]; simp [hz']), hsg⟩)
          rw [hget] at this
          rw [hc, Int.toNat_natCast]; exact this
        obtain ⟨m1, out1, hm1, hs1⟩ := erase hv hNe hcl 5 (z - g.k).toNat (null5 hv hNe hz.2) (.step hr hrc hzr (by omega)) hfy (p2 ++ (y :: (suf ++ st))) out
        rw [show g.k + ((z - g.k).toNat : Int) = z by omega] at hs1
        obtain ⟨m2, out2, hm2, hs2⟩ := ih (p1 ++ [z]) (by rw [e2]; simp) out1
        exact ⟨m1 + m2, out2, by rw [List.length_cons, Nat.add_mul]; omega, hs1.trans hs2⟩
    obtain ⟨m, out1, hm, hs⟩ := all pre [] rfl (out ++ [(q : Int)])
    have hlong := hv.long r hr
    have hlen : pre.length + (suf.length + 1) ≤ 4 := by rw [e] at hlong; simpa using hlong
    have hm2 : pre.length * er 5 ≤ 4 * er 5 := Nat.mul_le_mul_right _ (by omega)
    have hst : Sps g N w (m + 1) ⟨(g.k + (X : Int)) :: st, i, out⟩ ⟨y :: (suf ++ st), i, out1⟩ := by
      refine .head _ _ _ _ (.exp _ _ _ _ q (by omega) (chs_of hcl hq hhit)) ?_
      rw [hre, e]
      simpa using hs
    have hgs : Gd g suf := fun z hz => hgd z (by rw [e]; simp [hz])
    split at h2
    · next hk =>
      have hyc : y = (c : Int) := by have := of_decide_eq_true h2; omega
      rw [hyc] at hst
      exact ⟨m + 1, suf, out1, by show m + 1 ≤ 1 + 4 * er 5 + fr d; omega, by omega, hgs, hst⟩
    · next hk =>
      obtain ⟨m3, γ, out3, hm3, hγ, hg3, hs3⟩ := toFst hv hNe hcl hc d (y - g.k).toNat h2 (.step hr hrc (hds_sub hy) (by omega)) (suf ++ st) out1
      rw [show g.k + ((y - g.k).toNat : Int) = y by omega] at hs3
      refine ⟨m + 1 + m3, γ ++ suf, out3, by show m + 1 + m3 ≤ 1 + 4 * er 5 + fr d; omega, by rw [List.length_append]; omega, gd_app hg3 hgs, ?_⟩
      rw [List.append_assoc]
      exact hst.trans hs3
theorem fst_k {g : Grammar} (hv : Valid g) {N n x : Nat} (h : Fst g N n x) : (x : Int) < g.k := by
  have := hv.k
  induction h with
  | sym r y hr hy hk => omega
  | nam r y x hr hy hk hf ih => exact ih
def Stk (g : Grammar) (N : Nat) (w : List Int) (c : Cf) : Prop := ∀ c', ¬ Sp g N w c c'
theorem fr5 : fr 5 = 6825 := by decide
theorem runs {g : Grammar} (hv : Valid g) {N : Nat} (hNe : N = nameSet g true) (hcl : Clr g N g.rules.length) {w : List Int} (hw : ∀ s, s ∈ w → 0 ≤ s ∧ s < g.k) : ∀ (rem : Nat) (st : List Int) (i : Nat) (out : List Int), w.length - i = rem → Gd g st →
    ∃ m c', Sps g N w m ⟨st, i, out⟩ c' ∧ Stk g N w c' ∧ m ≤ 400 * st.length + 16000 * rem := by
  have hk := hv.k
  have hn := hv.n
  have hsym : ∀ i, 0 ≤ symAt g w i ∧ (symAt g w i < g.k → i < w.length) := fun i => by
    unfold symAt
    split
    · next h => exact ⟨(hw _ (getD_mem h)).1, fun _ => h⟩
    · exact ⟨by omega, fun h => by omega⟩
  intro rem
  induction rem using Nat.strongRecOn with
  | _ rem ihr =>
    intro st
    induction st with
    | nil => intro i out _ _; exact ⟨0, _, .refl _, fun c' h => (by cases h), by omega⟩
    | cons x st ihs =>
      intro i out hri hgd
      have hgs : Gd g st := fun y hy => hgd y (by simp [hy])
      have hxg := hgd x (by simp)
      have hsi := hsym i
      have hs0 := hsi.1
      by_cases hx : x < g.k
      · by_cases he : x = symAt g w i
        · have hi := hsi.2 (by omega)
          obtain ⟨m, c', h1, h2, h3⟩ := ihr (rem - 1) (by omega) st (i + 1) out (by omega) hgs
          exact ⟨m + 1, c', .head _ _ _ _ (.eat x st i out hx he) h1, h2, by rw [List.length_cons]; omega⟩
        · exact ⟨0, _, .refl _, fun c' h => by
            cases h with
            | eat _ _ _ _ _ h => exact he h
            | exp _ _ _ _ _ h _ => exact h hx, by omega⟩
      · by_cases hq : ∃ q, Chs g N x (symAt g w i) q
        · obtain ⟨q, hq1, hq2, hq3⟩ := hq
          have hqm : g.rules.getD q default ∈ g.rules := getD_mem' hq1
          have hl := hv.left _ hqm
          have hX : g.k + ((x - g.k).toNat : Int) = x := by omega
          have hlX : (g.rules.getD q default).left.toNat = (x - g.k).toNat := by rw [hq2.1]
          rcases (lk_bit hv).1 hq2.2 with hf | ⟨hem, hfo⟩
          · obtain ⟨y, hy, hs⟩ := hf
            have hfst : Fst g N (x - g.k).toNat (symAt g w i).toNat := by rw [← hlX]; exact Fst.of hqm hy hs
            have hck := fst_k hv hfst
            have hi := hsi.2 (by omega)
            obtain ⟨d, hd⟩ := fst_fsD hv hfst
            have hd2 := fsD_stable hv (by omega) hd
            have hd5 : fsD g N (symAt g w i).toNat 5 (x - g.k).toNat = true := by
              have : ∀ j, fsD g N (symAt g w i).toNat (g.n.toNat + j) (x - g.k).toNat = true := fun j => by
                induction j with
                | zero => exact hd2
                | succ j ih => exact fsD_mono ih
              have := this (5 - g.n.toNat)
              rwa [show g.n.toNat + (5 - g.n.toNat) = 5 by omega] at this
            obtain ⟨m1, γ, out1, hm1, hγ, hgγ, hs1⟩ := toFst hv hNe hcl (w := w) (i := i) (c := (symAt g w i).toNat) (by omega) 5 _ hd5 (hxg.2 hx) st out
            rw [hX] at hs1
            obtain ⟨m2, c', h1, h2, h3⟩ := ihr (rem - 1) (by omega) (γ ++ st) (i + 1) out1 (by omega) (gd_app hgγ hgs)
            rw [List.length_append] at h3
            rw [fr5] at hm1
            refine ⟨m1 + (m2 + 1), c', hs1.trans (.head _ _ _ _ (.eat _ _ _ _ hck (by omega)) h1), h2, ?_⟩
            rw [List.length_cons]; omega
          · rw [hlX] at hfo
            have hnb := emp_left hv hNe hqm hem
            rw [hlX] at hnb
            obtain ⟨m1, out1, hm1, hs1⟩ := erase hv hNe hcl 5 (x - g.k).toNat (null5 hv hNe hnb) (hxg.2 hx) hfo st out
            rw [hX] at hs1
            obtain ⟨m2, c', h1, h2, h3⟩ := ihs i out1 hri hgs
            have := er_le (d := 5) (by omega)
            exact ⟨m1 + m2, c', hs1.trans h1, h2, by rw [List.length_cons]; omega⟩
        · exact ⟨0, _, .refl _, fun c' h => by
            cases h with
            | eat _ _ _ _ h _ => exact hx h
            | exp _ _ _ _ q _ h => exact hq ⟨q, h⟩, by omega⟩
def Pa (g : Grammar) (w : List Int) (c : Cf) : Prop := c.at_ ≤ w.length ∧ ∀ s v r, Pr g c.st s v r → Pr g [g.k + g.start] (c.out ++ s) (w.take c.at_ ++ v) r
theorem pa_step {g : Grammar} (hv : Valid g) {N : Nat} {w : List Int} {a b : Cf} (h : Sp g N w a b) (hp : Pa g w a) : Pa g w b := by
  cases h with
  | eat x st i out hx he =>
    have hi : i < w.length := by
      unfold symAt at he
      split at he
      · assumption
      · omega
    refine ⟨hi, fun s v r h => ?_⟩
    have := hp.2 s (x :: v) r (.sym hx h)
    have e : w.take (i + 1) ++ v = w.take i ++ x :: v := by
      rw [take_succ_getD hi 0, List.append_assoc]
      unfold symAt at he
      rw [if_pos hi] at he
      rw [he]; rfl
    show Pr g _ _ (w.take (i + 1) ++ v) r
    rw [e]; exact this
  | exp x st i out q hx hq =>
    refine ⟨hp.1, fun s v r h => ?_⟩
    have := hp.2 ((q : Int) :: s) v r (.name hx ⟨by omega, by have := hq.1; omega, by rw [Int.toNat_natCast]; exact hq.2.1.1⟩ (by rw [Int.toNat_natCast]; exact h))
    show Pr g _ ((out ++ [(q : Int)]) ++ s) _ r
    rw [List.append_assoc]; exact this
def Vb (g : Grammar) (N : Nat) (st : List Int) : Prop := ∀ p, p < st.length → ¬ st.getD p 0 < g.k → (∀ x, FstL g N (st.drop (p + 1)) x → Fol g N (st.getD p 0 - g.k).toNat x) ∧ (emp g N (st.drop (p + 1)) = true → Fol g N (st.getD p 0 - g.k).toNat g.k.toNat)
def Vi (g : Grammar) (N : Nat) (w : List Int) (c : Cf) : Prop := Der g w c.st c.at_ w.length ∧ Vb g N c.st ∧ Gd g c.st
theorem hds_app {g : Grammar} {N : Nat} {b : List Int} : ∀ {a : List Int} {y : Int}, y ∈ hds g N (a ++ b) ↔ y ∈ hds g N a ∨ (emp g N a = true ∧ y ∈ hds g N b)
  | [], y => by simp [hds, emp_nil]
  | x :: a, y => by
    rw [List.cons_append, hds_cons, hds_cons, emp_cons]
    by_cases hx : x < g.k
    · simp [hx]
    · rw [if_neg hx, if_neg hx, if_neg hx]
      cases hb : N.testBit (x - g.k).toNat with
      | true =>
        simp only [if_true, Bool.true_and, List.mem_cons]
        rw [hds_app, or_assoc]
      | false => simp
theorem fstL_app {g : Grammar} {N : Nat} {a b : List Int} {x : Nat} : FstL g N (a ++ b) x ↔ FstL g N a x ∨ (emp g N a = true ∧ FstL g N b x) := by
  unfold FstL
  constructor
  · rintro ⟨y, hy, h⟩
    rcases hds_app.1 hy with h' | ⟨he, h'⟩
    · exact .inl ⟨y, h', h⟩
    · exact .inr ⟨he, y, h', h⟩
  · rintro (⟨y, hy, h⟩ | ⟨he, y, hy, h⟩)
    · exact ⟨y, hds_app.2 (.inl hy), h⟩
    · exact ⟨y, hds_app.2 (.inr ⟨he, hy⟩), h⟩
theorem emp_app {g : Grammar} {N : Nat} {a b : List Int} : emp g N (a ++ b) = true ↔ emp g N a = true ∧ emp g N b = true := by
  simp only [emp_all, List.mem_append]
  exact ⟨fun h => ⟨fun y hy => h y (.inl hy), fun y hy => h y (.inr hy)⟩, fun ⟨h1, h2⟩ y hy => hy.elim (h1 y) (h2 y)⟩
theorem der_look {g : Grammar} (hv : Valid g) {N : Nat} (hNe : N = nameSet g true) {w : List Int} {l : List Int} {i j : Nat} (h : Der g w l i j) (hb : ∀ y, y ∈ l → 0 ≤ y) : (i = j → emp g N l = true) ∧ (i < j → FstL g N l (w.getD i 0).toNat) := by
  induction h with
  | nil => exact ⟨fun _ => emp_nil, fun h => absurd h (Nat.lt_irrefl _)⟩
  | @sym x s i j hx hi hw h ih =>
    have := h.le.1
    refine ⟨fun e => by omega, fun _ => ⟨x, by rw [hds_cons]; simp, .inl ⟨hx, by rw [hw]⟩⟩⟩
  | @name x s i m j q hx hq hl h1 h2 ih1 ih2 =>
    have hm : g.rules.getD q default ∈ g.rules := getD_mem' hq
    have ih1 := ih1 fun y hy => (hv.right _ hm y hy).1
    have ih2 := ih2 fun y hy => hb y (by simp [hy])
    have l1 := h1.le.1
    have l2 := h2.le.1
    have hX : (g.rules.getD q default).left.toNat = (x - g.k).toNat := by rw [hl]
    have hnull : i = m → N.testBit (x - g.k).toNat = true := fun e => by rw [← hX]; exact emp_left hv hNe hm (ih1.1 e)
    refine ⟨fun e => ?_, fun hlt => ?_⟩
    · rw [emp_cons, if_neg hx, hnull (by omega), ih2.1 (by omega)]; rfl
    · by_cases e : i = m
      · subst e
        obtain ⟨y, hy, hs⟩ := ih2.2 hlt
        exact ⟨y, by rw [hds_cons, if_neg hx, if_pos (hnull rfl)]; exact List.mem_cons_of_mem _ hy, hs⟩
      · obtain ⟨y, hy, hs⟩ := ih1.2 (by omega)
        exact ⟨x, by rw [hds_cons]; simp, .inr ⟨hx, by rw [← hX]; exact Fst.of hm hy hs⟩⟩
theorem vi_hit {g : Grammar} (hv : Valid g) {N : Nat} (hNe : N = nameSet g true) {w : List Int} {x : Int} {st : List Int} {i : Nat} (hi : i ≤ w.length) (hx : ¬ x < g.k) (h : Der g w (x :: st) i w.length) (hb : Vb g N (x :: st)) (hg : Gd g (x :: st)) : ∃ q, q < g.rules.length ∧ Hit g N x (symAt g w i) q ∧ Der g w ((g.rules.getD q default).right ++ st) i w.length := by
  have hk := hv.k
  cases h with
  | sym h => exact absurd h hx
  | @name _ _ _ m _ q _ hq hl h1 h2 =>
    have hm : g.rules.getD q default ∈ g.rules := getD_mem' hq
    refine ⟨q, hq, ⟨hl, ?_⟩, Der.app h1 h2⟩
    rw [lk_bit hv]
    have d1 := der_look hv hNe h1 fun y hy => (hv.right _ hm y hy).1
    have d2 := der_look hv hNe h2 fun y hy => (hg y (by simp [hy])).1.1
    have l1 := h1.le.1
    have l2 := h2.le.1
    have hX : (g.rules.getD q default).left.toNat = (x - g.k).toNat := by rw [hl]
    have hb0 := hb 0 (by simp) hx
    simp only [List.getD_cons_zero, List.drop_succ_cons, List.drop_zero] at hb0
    by_cases e : i = m
    · right
      refine ⟨d1.1 e, ?_⟩
      rw [hX]
      subst e
      by_cases e2 : i = w.length
      · have := hb0.2 (d2.1 e2)
        unfold symAt
        rw [if_neg (by omega)]; exact this
      · have := hb0.1 _ (d2.2 (by omega))
        unfold symAt
        rw [if_pos (by omega)]; exact this
    · left
      have := d1.2 (by omega)
      unfold symAt
      rw [if_pos (by omega)]; exact this
theorem vi_step {g : Grammar} (hv : Valid g) {N : Nat} (hNe : N = nameSet g true) (hcl : Clr g N g.rules.length) {w : List Int} {a b : Cf} (h : Sp g N w a b) (hi : a.at_ ≤ w.length) (hp : Vi g N w a) : Vi g N w b := by
  obtain ⟨h1, h2, h3⟩ := hp
  cases h with
  | eat x st i out hx he =>
    refine ⟨?_, fun p hp hk => ?_, fun y hy => h3 y (by simp only [List.mem_cons]; exact .inr hy)⟩
    · cases h1 with
      | sym _ _ _ h => exact h
      | name h => exact absurd hx h
    · have := h2 (p + 1) (by simp only [List.length_cons]; simp only at hp; omega) (by simpa using hk)
      simpa using this
  | exp x st i out q hx hq =>
    obtain ⟨q', hq1, hq2, hd⟩ := vi_hit hv hNe hi hx h1 h2 h3
    have := clr_one hcl hq1 hq.1 hq2 hq.2.1
    subst this
    have hm : g.rules.getD q' default ∈ g.rules := getD_mem' hq1
    have hl := hv.left _ hm
    have hX : (g.rules.getD q' default).left.toNat = (x - g.k).toNat := by rw [hq2.1]
    have hrc : Rch g (g.rules.getD q' default).left.toNat := by rw [hX]; exact (h3 x (by simp)).2 hx
    have hb0 := h2 0 (by simp) hx
    simp only [List.getD_cons_zero, List.drop_succ_cons, List.drop_zero] at hb0
    refine ⟨hd, fun p hp hk => ?_, gd_app (gd_right hv hm hrc) fun y hy => h3 y (by simp only [List.mem_cons]; exact .inr hy)⟩
    simp only at hp hk ⊢
    rcases Nat.lt_or_ge p (g.rules.getD q' default).right.length with hlt | hge
    · have e1 : ((g.rules.getD q' default).right ++ st).getD p 0 = (g.rules.getD q' default).right.getD p 0 := getD_appl hlt
      have e2 : ((g.rules.getD q' default).right ++ st).drop (p + 1) = (g.rules.getD q' default).right.drop (p + 1) ++ st := by rw [List.drop_append_of_le_length (by omega)]
      rw [e1] at hk ⊢
      rw [e2]
      refine ⟨fun y hy => ?_, fun he => ?_⟩
      · rcases fstL_app.1 hy with h' | ⟨he, h'⟩
        · exact .fst _ p y hm hrc hlt hk h'
        · exact .pas _ p y hm hrc hlt hk he (by rw [hX]; exact hb0.1 y h')
      · obtain ⟨e3, e4⟩ := emp_app.1 he
        exact .pas _ p _ hm hrc hlt hk e3 (by rw [hX]; exact hb0.2 e4)
    · have e1 : ((g.rules.getD q' default).right ++ st).getD p 0 = st.getD (p - (g.rules.getD q' default).right.length) 0 := getD_appr hge
      have e2 : ((g.rules.getD q' default).right ++ st).drop (p + 1) = st.drop (p - (g.rules.getD q' default).right.length + 1) := by
        rw [List.drop_append, List.drop_eq_nil_of_le (by omega), List.nil_append, show p + 1 - (g.rules.getD q' default).right.length = p - (g.rules.getD q' default).right.length + 1 by omega]
      rw [List.length_append] at hp
      have := h2 (p - (g.rules.getD q' default).right.length + 1) (by simp only [List.length_cons]; omega) (by rw [e1] at hk; simpa using hk)
      rw [e1, e2]
      simpa using this
theorem sps_inv {g : Grammar} {N : Nat} {w : List Int} {Q : Cf → Prop} (hs : ∀ a b, Sp g N w a b → Q a → Q b) {n : Nat} {a b : Cf} (h : Sps g N w n a b) (hq : Q a) : Q b := by
  induction h with
  | refl => exact hq
  | head n a b c h t ih => exact ih (hs a b h hq)
theorem vi_end {g : Grammar} (hv : Valid g) {N : Nat} (hNe : N = nameSet g true) (hcl : Clr g N g.rules.length) {w : List Int} {c : Cf} (hi : c.at_ ≤ w.length) (h : Vi g N w c) (hs : Stk g N w c) : c.st = [] ∧ c.at_ = w.length := by
  obtain ⟨st, i, out⟩ := c
  cases st with
  | nil => exact ⟨rfl, by cases h.1; rfl⟩
  | cons x st =>
    exfalso
    by_cases hx : x < g.k
    · have hd := h.1
      cases hd with
      | sym _ h1 h2 _ => exact hs _ (.eat x st i out hx (by unfold symAt; rw [if_pos h1]; exact h2.symm))
      | name h => exact absurd hx h
    · obtain ⟨q, h1, h2, _⟩ := vi_hit hv hNe hi hx h.1 h.2.1 h.2.2
      exact hs _ (.exp x st i out q hx (chs_of hcl h1 h2))
theorem pr_der {g : Grammar} (hv : Valid g) {s st u r : List Int} (h : Pr g s st u r) : ∀ {w pre post : List Int}, w = pre ++ u ++ post → Der g w s pre.length (pre.length + u.length) := by
  induction h with
  | nil => intro w pre post e; exact .nil
  | @sym x s st u r hx h ih =>
    intro w pre post e
    have := ih (w := w) (pre := pre ++ [x]) (post := post) (by rw [e]; simp)
    refine .sym hx (by rw [e]; simp) (by rw [e]; simp [List.getD]) ?_
    rw [List.length_append, List.length_singleton] at this
    rw [List.length_cons]
    rwa [show pre.length + 1 + u.length = pre.length + (u.length + 1) by omega] at this
  | @name x q s st u r hx hq h ih =>
    intro w pre post e
    obtain ⟨m, h1, h2⟩ := Der.split (ih e)
    exact .name hx (by have := hq.2.1; have := hq.1; omega) hq.2.2 h1 h2
end Go.Proofs.Ytplkkacfjepgpaa
