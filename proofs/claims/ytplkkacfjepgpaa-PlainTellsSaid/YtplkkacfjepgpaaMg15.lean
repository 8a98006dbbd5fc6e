/-
 Texts of this claim, one behind another.
-/
import Derived.Test.YtplkkacfjepgpaaTabG
import Derived.Test.YtplkkacfjepgpaaMg13
import Derived.Test.YtplkkacfjepgpaaMg11
namespace Go.Proofs.Ytplkkacfjepgpaa
open Go.Dm
set_option linter.unusedSimpArgs false
set_option linter.unnecessarySimpa false
set_option linter.unusedVariables false
set_option linter.defProp false
theorem sound_stepG {g : Grammar} {void : Bool} {S : Nat} {r : Rule} (hv : VaG g) (hr : r ∈ g.rules) (hs : ∀ x, S.testBit x = true → ∃ d, mkN g void d x = true) (h : allOf g (!void) S.testBit r.right = true) : ∃ d, mkN g void d r.left.toNat = true := by
  have : ∀ l : List Int, (∀ y, y ∈ l → (if y < g.k then !void else S.testBit (y - g.k).toNat) = true) → ∃ d, allOf g (!void) (mkN g void d) l = true := by
    intro l
    induction l with
    | nil => intro _; exact ⟨0, rfl⟩
    | cons y l ih =>
      intro hl
      obtain ⟨d, hd⟩ := ih fun z hz => hl z (by simp [hz])
      have hy := hl y (by simp)
      unfold allOf at hd ⊢
      by_cases hk : y < g.k
      · rw [if_pos hk] at hy
        exact ⟨d, by rw [List.all_cons, if_pos hk, hd, hy]; rfl⟩
      · rw [if_neg hk] at hy
        obtain ⟨e, he⟩ := hs _ hy
        refine ⟨max d e, ?_⟩
        rw [List.all_cons, if_neg hk, mkN_le (Nat.le_max_right d e) he, Bool.true_and]
        rw [List.all_eq_true] at hd ⊢
        intro z hz
        have := hd z hz
        split
        · next hz2 => rw [if_pos hz2] at this; exact this
        · next hz2 => rw [if_neg hz2] at this; exact mkN_le (Nat.le_max_left d e) this
  unfold allOf at h
  rw [List.all_eq_true] at h
  obtain ⟨d, hd⟩ := this r.right h
  refine ⟨d + 1, ?_⟩
  rw [mkN_succ]
  have hl := (hv.left r hr).1
  exact List.any_eq_true.2 ⟨r, hr, by rw [hd, decide_eq_true (by omega)]; rfl⟩
structure DvS (g : Grammar) (void : Bool) (S : Nat) : Prop where
  lt : S < 2 ^ g.n.toNat
  snd : ∀ x, S.testBit x = true → ∃ d, mkN g void d x = true
  cl : ∀ r, r ∈ g.rules → allOf g (!void) S.testBit r.right = true → S.testBit r.left.toNat = true
set_option maxRecDepth 10000 in
set_option maxHeartbeats 4000000 in
theorem deriveG_spec (g : Grammar) (hv : VaG g) (hn31 : g.n ≤ 31) (void : Bool) : Dm.Spec Try.prog 59 [.ag (graD g), .v (.bool (!void))] (fun d => ∃ S : Nat, d = iv .u32 S ∧ DvS g void S) := by
  refine spec_of_vc mixed Try.func59 c59 (by rw [show Try.f59.ntmps = _ from Try.ntmps59]; simp) ?_
  unfold m59 r59
  obtain ⟨hk, hn, hlen, hleft, hlong, hright⟩ := hv
  have hv : VaG g := ⟨hk, hn, hlen, hleft, hlong, hright⟩
  have hp : 2 ^ g.n.toNat ≤ 2147483648 := Nat.le_trans (Nat.pow_le_pow_right (show 0 < 2 by omega) (show g.n.toNat ≤ 31 by omega)) (by decide)
  repeat' first | ((first | refine Br.dec ?_ ?_ | refine Br.eqi ?_ ?_) <;> intro h <;> try (exfalso; omega)) | (simp (disch := first | omega | (simp only [vlen]; first | done | omega)) only [↓vAq, vBq, ↓reduceIte, Nat.reduceBEq, Nat.reduceEqDiff, Nat.reduceLT, Nat.reduceLeDiff, Nat.reduceAdd, Nat.reduceMul, Nat.reduceSub, reduceCtorEq, Int.reduceToNat]) | (refine Br.mk ?_ ?_ <;> intro h) | (refine BrN.mk (fun h => ?_) ?_) | (refine AltVC.mk ?_ ?_)
  refine LoopVC.mk (X := Nat) (fun S => [(5, iv .u32 S)]) (fun _ => [(0, ⟨4, [[iv .i64 g.k, iv .i64 g.n, iv .i64 g.start, .sl 2 (tbl rulD g.rules)]], true, false, .fix⟩)]) (fun S => 2147483648 - S) (fun S => S < 2 ^ g.n.toNat ∧ ∀ x, S.testBit x = true → ∃ d, mkN g void d x = true) 0 ⟨Nat.pow_pos (by omega), fun x h => by simp at h⟩ ?_ ?_
  · (simp (disch := first | omega | (simp only [vlen]; first | done | omega)) only [Fits_u, Fits_m, Fits_nil, List.length_append, ↓vAq, vBq, ↓reduceIte, Nat.reduceBEq, Nat.reduceEqDiff, Nat.reduceLT, Nat.reduceLeDiff, Nat.reduceAdd, Nat.reduceMul, Nat.reduceSub, reduceCtorEq, Int.reduceToNat] <;> (repeat' first | rfl | apply And.intro))
  · rintro W ⟨hW, hs⟩
    repeat' first | ((first | refine Br.dec ?_ ?_ | refine Br.eqi ?_ ?_) <;> intro h <;> try (exfalso; omega)) | (simp (disch := first | omega | (simp only [vlen]; first | done | omega)) only [↓vAq, vBq, ↓reduceIte, Nat.reduceBEq, Nat.reduceEqDiff, Nat.reduceLT, Nat.reduceLeDiff, Nat.reduceAdd, Nat.reduceMul, Nat.reduceSub, reduceCtorEq, Int.reduceToNat]) | (refine Br.mk ?_ ?_ <;> intro h) | (refine BrN.mk (fun h => ?_) ?_) | (refine AltVC.mk ?_ ?_)
    refine LoopVC.mk (X := Nat × Nat) (fun x => [(5, iv .u32 x.1), (13, iv .i64 x.2)]) (fun _ => [(0, ⟨4, [[iv .i64 g.k, iv .i64 g.n, iv .i64 g.start, .sl 2 (tbl rulD g.rules)]], true, false, .fix⟩)]) (fun x => g.rules.length - x.2) (fun x => x.2 ≤ g.rules.length ∧ x.1 < 2 ^ g.n.toNat ∧ W ≤ x.1 ∧ (∀ y, x.1.testBit y = true → ∃ d, mkN g void d y = true) ∧ (x.1 = W → ∀ j, j < x.2 → allOf g (!void) W.testBit (g.rules.getD j default).right = true → W.testBit (g.rules.getD j default).left.toNat = true)) (W, 0) ⟨by simp, hW, by simp, hs, fun _ j hj => by simp at hj⟩ ?_ ?_
    · (simp (disch := first | omega | (simp only [vlen]; first | done | omega)) only [Fits_u, Fits_m, Fits_nil, List.length_append, ↓vAq, vBq, ↓reduceIte, Nat.reduceBEq, Nat.reduceEqDiff, Nat.reduceLT, Nat.reduceLeDiff, Nat.reduceAdd, Nat.reduceMul, Nat.reduceSub, reduceCtorEq, Int.reduceToNat] <;> (repeat' first | rfl | apply And.intro))
    · rintro ⟨S, i⟩ ⟨h1, h2, h3, h4, h5⟩
      simp only at h1 h2 h3 h4 h5
      have hS32 : (S : Int) ≤ 4294967295 := by omega
      repeat' first | ((first | refine Br.dec ?_ ?_ | refine Br.eqi ?_ ?_) <;> intro h <;> try (exfalso; omega)) | (simp (disch := first | omega | (simp only [vlen]; first | done | omega)) only [↓vAq, vBq, ↓reduceIte, Nat.reduceBEq, Nat.reduceEqDiff, Nat.reduceLT, Nat.reduceLeDiff, Nat.reduceAdd, Nat.reduceMul, Nat.reduceSub, reduceCtorEq, Int.reduceToNat]) | (refine Br.mk ?_ ?_ <;> intro h) | (refine BrN.mk (fun h => ?_) ?_) | (refine AltVC.mk ?_ ?_)
      · have hm : g.rules.getD i default ∈ g.rules := getD_mem' (by omega)
        have hl := hleft _ hm
        have hq := hlong _ hm
        refine CallVC.eq (allOf_spec g (by omega) _ (by omega) S hS32 (!void) (fun y hy => by have := hright _ hm y hy; omega)) ?_
        repeat' first | ((first | refine Br.dec ?_ ?_ | refine Br.eqi ?_ ?_) <;> intro h <;> try (exfalso; omega)) | (simp (disch := first | omega | (simp only [vlen]; first | done | omega)) only [↓vAq, vBq, ↓reduceIte, Nat.reduceBEq, Nat.reduceEqDiff, Nat.reduceLT, Nat.reduceLeDiff, Nat.reduceAdd, Nat.reduceMul, Nat.reduceSub, reduceCtorEq, Int.reduceToNat]) | (refine Br.mk ?_ ?_ <;> intro h) | (refine BrN.mk (fun h => ?_) ?_) | (refine AltVC.mk ?_ ?_)
        · have ha : allOf g (!void) S.testBit (g.rules.getD i default).right = true := by assumption
          have e2 : (g.rules.getD i default).left = (((g.rules.getD i default).left.toNat : Nat) : Int) := by omega
          have hp2 := @pow_le31 (g.rules.getD i default).left.toNat (by omega)
          rw [shlN (by omega), orN hS32 (by omega)]
          have hlt := or_two_lt h2 (show (g.rules.getD i default).left.toNat < g.n.toNat by omega)
          have hle := @le_or S (2 ^ (g.rules.getD i default).left.toNat)
          refine loopK.mk (S ||| 2 ^ (g.rules.getD i default).left.toNat, i + 1) (by simp (disch := first | omega | (simp only [vlen]; first | done | omega)) only [↓vAq, vBq, ↓reduceIte, Nat.reduceBEq, Nat.reduceEqDiff, Nat.reduceLT, Nat.reduceLeDiff, Nat.reduceAdd, Nat.reduceMul, Nat.reduceSub, reduceCtorEq, Int.reduceToNat]) ⟨by simp only; omega, hlt, by simp only; omega, fun y hy => ?_, fun he j hj => ?_⟩ (by simp only; omega) (by (simp (disch := first | omega | (simp only [vlen]; first | done | omega)) only [Fits_u, Fits_m, Fits_nil, List.length_append, ↓vAq, vBq, ↓reduceIte, Nat.reduceBEq, Nat.reduceEqDiff, Nat.reduceLT, Nat.reduceLeDiff, Nat.reduceAdd, Nat.reduceMul, Nat.reduceSub, reduceCtorEq, Int.reduceToNat] <;> (repeat' first | rfl | apply And.intro)))
          · rw [or_bit, Bool.or_eq_true] at hy
            rcases hy with hy | hy
            · exact h4 y hy
            · rw [decide_eq_true_eq] at hy; rw [hy]; exact sound_stepG hv hm h4 ha
          · simp only at he hj
            have e3 : S = W := by omega
            intro hja
            by_cases ej : j = i
            · subst ej
              rw [← he, or_bit]; simp
            · exact h5 e3 j (by omega) hja
        · have ha : allOf g (!void) S.testBit (g.rules.getD i default).right = false := by assumption
          refine loopK.mk (S, i + 1) (by simp (disch := first | omega | (simp only [vlen]; first | done | omega)) only [↓vAq, vBq, ↓reduceIte, Nat.reduceBEq, Nat.reduceEqDiff, Nat.reduceLT, Nat.reduceLeDiff, Nat.reduceAdd, Nat.reduceMul, Nat.reduceSub, reduceCtorEq, Int.reduceToNat]) ⟨by simp only; omega, h2, h3, h4, fun he j hj => ?_⟩ (by simp only; omega) (by (simp (disch := first | omega | (simp only [vlen]; first | done | omega)) only [Fits_u, Fits_m, Fits_nil, List.length_append, ↓vAq, vBq, ↓reduceIte, Nat.reduceBEq, Nat.reduceEqDiff, Nat.reduceLT, Nat.reduceLeDiff, Nat.reduceAdd, Nat.reduceMul, Nat.reduceSub, reduceCtorEq, Int.reduceToNat] <;> (repeat' first | rfl | apply And.intro)))
          simp only at he hj
          by_cases ej : j = i
          · subst ej; subst he; intro hja; rw [ha] at hja; cases hja
          · exact h5 he j (by omega)
      · have e : S = W := by omega
        subst e
        have hc : ∀ r, r ∈ g.rules → allOf g (!void) S.testBit r.right = true → S.testBit r.left.toNat = true := fun r hr => by
          obtain ⟨j, hj, ej⟩ := mem_getD hr
          rw [← ej]; exact h5 rfl j (by omega)
        exact fin_mk ⟨S, rfl, h2, h4, hc⟩
      · refine loopK.mk S (by simp (disch := first | omega | (simp only [vlen]; first | done | omega)) only [↓vAq, vBq, ↓reduceIte, Nat.reduceBEq, Nat.reduceEqDiff, Nat.reduceLT, Nat.reduceLeDiff, Nat.reduceAdd, Nat.reduceMul, Nat.reduceSub, reduceCtorEq, Int.reduceToNat]) ⟨h2, h4⟩ (by omega) (by (simp (disch := first | omega | (simp only [vlen]; first | done | omega)) only [Fits_u, Fits_m, Fits_nil, List.length_append, ↓vAq, vBq, ↓reduceIte, Nat.reduceBEq, Nat.reduceEqDiff, Nat.reduceLT, Nat.reduceLeDiff, Nat.reduceAdd, Nat.reduceMul, Nat.reduceSub, reduceCtorEq, Int.reduceToNat] <;> (repeat' first | rfl | apply And.intro)))
set_option maxRecDepth 10000 in
set_option maxHeartbeats 4000000 in
theorem nullableG_spec (g : Grammar) (hv : VaG g) (hn31 : g.n ≤ 31) : Dm.Spec Try.prog 69 [.ag (graD g)] (fun d => ∃ S : Nat, d = iv .u32 S ∧ DvS g true S) := by
  refine spec_of_vc mixed Try.func69 c69 (by rw [show Try.f69.ntmps = _ from Try.ntmps69]; simp) ?_
  unfold m69 r69
  repeat' first | ((first | refine Br.dec ?_ ?_ | refine Br.eqi ?_ ?_) <;> intro h <;> try (exfalso; omega)) | (simp (disch := first | omega | (simp only [vlen]; first | done | omega)) only [↓vAq, vBq, ↓reduceIte, Nat.reduceBEq, Nat.reduceEqDiff, Nat.reduceLT, Nat.reduceLeDiff, Nat.reduceAdd, Nat.reduceMul, Nat.reduceSub, reduceCtorEq, Int.reduceToNat]) | (refine Br.mk ?_ ?_ <;> intro h) | (refine BrN.mk (fun h => ?_) ?_) | (refine AltVC.mk ?_ ?_)
  refine CallVC.mk (deriveG_spec g hv hn31 true) ?_
  rintro _ ⟨S, rfl, h⟩
  repeat' first | ((first | refine Br.dec ?_ ?_ | refine Br.eqi ?_ ?_) <;> intro h <;> try (exfalso; omega)) | (simp (disch := first | omega | (simp only [vlen]; first | done | omega)) only [↓vAq, vBq, ↓reduceIte, Nat.reduceBEq, Nat.reduceEqDiff, Nat.reduceLT, Nat.reduceLeDiff, Nat.reduceAdd, Nat.reduceMul, Nat.reduceSub, reduceCtorEq, Int.reduceToNat]) | (refine Br.mk ?_ ?_ <;> intro h) | (refine BrN.mk (fun h => ?_) ?_) | (refine AltVC.mk ?_ ?_)
  exact fin_mk ⟨S, rfl, h⟩
theorem mkN_der {g : Grammar} (hk : 0 ≤ g.k) : ∀ {d x : Nat}, mkN g true d x = true → ∀ (w : List Int) (i : Nat), Der g w [g.k + x] i i
  | 0, x, h, _, _ => by rw [mkN_zero] at h; cases h
  | d + 1, x, h, w, i => by
    rw [mkN_succ] at h
    simp only [List.any_eq_true, Bool.and_eq_true, decide_eq_true_eq] at h
    obtain ⟨r, hr, h1, h2⟩ := h
    obtain ⟨q, hq, e⟩ := List.getElem_of_mem hr
    have e2 : g.rules.getD q default = r := by simp [List.getD, hq, e]
    refine (der_name (by omega)).2 ⟨q, hq, by rw [e2]; omega, ?_⟩
    rw [e2]
    unfold allOf at h2
    rw [List.all_eq_true] at h2
    generalize r.right = l at h2
    induction l with
    | nil => exact .nil
    | cons y l ih =>
      have hy := h2 y (by simp)
      by_cases hyk : y < g.k
      · rw [if_pos hyk] at hy; cases hy
      · rw [if_neg hyk] at hy
        have h3 := mkN_der hk hy w i
        rw [show g.k + (((y - g.k).toNat : Nat) : Int) = y by omega] at h3
        exact Der.app h3 (ih fun z hz => h2 z (List.mem_cons_of_mem _ hz))
theorem der_nul {g : Grammar} {S : Nat} (hc : ∀ r, r ∈ g.rules → allOf g false S.testBit r.right = true → S.testBit r.left.toNat = true) {w : List Int} {l : List Int} {i j : Nat} (h : Der g w l i j) : i = j → allOf g false S.testBit l = true := by
  induction h with
  | nil => intro _; rfl
  | sym hx hi hw h ih => intro e; have := h.le.1; omega
  | @name x s i m j q hx hq hl h1 h2 ih1 ih2 =>
    intro e
    have a1 := h1.le.1
    have a2 := h2.le.1
    have h3 := hc _ (getD_mem' (l := g.rules) (i := q) hq) (ih1 (by omega))
    have h4 := ih2 (by omega)
    unfold allOf at h4 ⊢
    rw [List.all_cons, h4, if_neg hx, ← hl, h3]; rfl
theorem DvS.nul {g : Grammar} {S : Nat} (hk : 0 ≤ g.k) (h : DvS g true S) (a : Nat) (w : List Int) (i : Nat) : S.testBit a = true ↔ Der g w [g.k + a] i i := by
  constructor
  · intro hb
    obtain ⟨d, hd⟩ := h.snd a hb
    exact mkN_der hk hd w i
  · intro hd
    have := der_nul (S := S) h.cl hd rfl
    unfold allOf at this
    rw [List.all_cons, if_neg (by omega), show (g.k + (a : Int) - g.k).toNat = a by omega] at this
    simpa using this
end Go.Proofs.Ytplkkacfjepgpaa

namespace Go.Dm
set_option linter.unusedSimpArgs false
set_option linter.unusedVariables false
set_option linter.unnecessarySimpa false
theorem Der.ofMem {g : Grammar} {w : List Int} {r : Rule} {x : Int} {s : List Int} {i m j : Nat} (hr : r ∈ g.rules) (hx : ¬ x < g.k) (hl : r.left = x - g.k) (h1 : Der g w r.right i m) (h2 : Der g w s m j) : Der g w (x :: s) i j := by
  obtain ⟨q, hq, e⟩ := List.getElem_of_mem hr
  have e2 : g.rules.getD q default = r := by simp [List.getD, hq, e]
  exact .name hx hq (by rw [e2]; exact hl) (by rw [e2]; exact h1) h2
theorem der_map {g g' : Grammar} {w : List Int} {φ : Int → List Int} (hsym : ∀ x i, x < g'.k → i < w.length → w.getD i 0 = x → Der g w (φ x) i (i + 1))
    (hrule : ∀ r, r ∈ g'.rules → ∀ i j, Der g w (r.right.flatMap φ) i j → Der g w (φ (g'.k + r.left)) i j) {l : List Int} {i j : Nat} (h : Der g' w l i j) : Der g w (l.flatMap φ) i j := by
  induction h with
  | nil => exact .nil
  | sym hx hi hw h ih => rw [List.flatMap_cons]; exact (hsym _ _ hx hi hw).app ih
  | @name x s i m j q hx hq hl h1 h2 ih1 ih2 =>
    rw [List.flatMap_cons]
    have := hrule _ (getD_mem' (l := g'.rules) (i := q) hq) _ _ ih1
    rw [show g'.k + (g'.rules.getD q default).left = x by omega] at this
    exact this.app ih2
theorem flatMap_one {l : List Int} {f : Int → Int} : l.flatMap (fun x => [f x]) = l.map f := by
  induction l with
  | nil => rfl
  | cons x l ih => rw [List.flatMap_cons, ih]; rfl
def nmS (g : Grammar) (x : Int) : Int := if x < g.k then g.k + (g.n + 1 + x) else x + 1
def binS (k : Int) : List Int → Int → Int → List Rule
  | [], L, _ => [⟨L, []⟩]
  | a :: t, L, N => if 2 ≤ t.length then ⟨L, [a, k + N]⟩ :: binS k t N (N + 1) else [⟨L, a :: t⟩]
theorem binS_big {k : Int} {l : List Int} {L N : Int} (h : 2 < l.length) : binS k l L N = ⟨L, [l.getD 0 0, k + N]⟩ :: binS k (l.drop 1) N (N + 1) := by
  cases l with
  | nil => simp at h
  | cons a t =>
    rw [List.length_cons] at h
    rw [binS, if_pos (by omega)]; rfl
theorem binS_small {k : Int} {l : List Int} {L N : Int} (h : l.length ≤ 2) : binS k l L N = [⟨L, l⟩] := by
  cases l with
  | nil => rfl
  | cons a t =>
    rw [List.length_cons] at h
    rw [binS, if_neg (by omega)]
def shN : List Rule → Int → Int
  | [], N => N
  | r :: rs, N => shN rs (N + ((r.right.length - 2 : Nat) : Int))
def shR (g : Grammar) : List Rule → Int → List Rule
  | [], _ => []
  | r :: rs, N => binS g.k (r.right.map (nmS g)) (r.left + 1) N ++ shR g rs (N + ((r.right.length - 2 : Nat) : Int))
theorem shN_snoc {r : Rule} : ∀ {rs : List Rule} {N : Int}, shN (rs ++ [r]) N = shN rs N + ((r.right.length - 2 : Nat) : Int)
  | [], N => rfl
  | x :: rs, N => shN_snoc (rs := rs)
theorem shR_snoc {g : Grammar} {r : Rule} : ∀ {rs : List Rule} {N : Int}, shR g (rs ++ [r]) N = shR g rs N ++ binS g.k (r.right.map (nmS g)) (r.left + 1) (shN rs N)
  | [], N => by simp [shR, shN]
  | x :: rs, N => by
    rw [List.cons_append, shR, shR, shR_snoc (rs := rs), shN, List.append_assoc]
theorem shN_le : ∀ {rs : List Rule} {N : Int}, N ≤ shN rs N
  | [], N => Int.le_refl _
  | x :: rs, N => by
    have := @shN_le rs (N + ((x.right.length - 2 : Nat) : Int))
    rw [shN]; omega
theorem shN_top : ∀ {rs : List Rule} {N : Int}, (∀ r, r ∈ rs → r.right.length ≤ 4) → shN rs N ≤ N + 2 * rs.length
  | [], N, _ => by simp [shN]
  | x :: rs, N, h => by
    have h1 := @shN_top rs (N + ((x.right.length - 2 : Nat) : Int)) fun r hr => h r (List.mem_cons_of_mem _ hr)
    have h2 := h x (by simp)
    rw [shN, List.length_cons]; omega
def letS (g : Grammar) : List Rule := (List.range g.k.toNat).map fun (s : Nat) => (⟨g.n + 1 + (s : Int), [(s : Int)]⟩ : Rule)
def n0S (g : Grammar) : Int := g.n + 1 + g.k
def shG (g : Grammar) : Grammar := ⟨g.k, shN g.rules (n0S g), 0, ⟨0, [g.k + g.start + 1]⟩ :: (letS g ++ shR g g.rules (n0S g))⟩
structure PG (g : Grammar) : Prop where
  k : 1 ≤ g.k
  n : 1 ≤ g.n
  s : 0 ≤ g.start ∧ g.start < g.n
  l : ∀ r, r ∈ g.rules → 0 ≤ r.left ∧ r.left < g.n
  r : ∀ r, r ∈ g.rules → ∀ x, x ∈ r.right → 0 ≤ x ∧ x < g.k + g.n
theorem nmS_ge {g : Grammar} (h : PG g) {x : Int} (hx : 0 ≤ x ∧ x < g.k + g.n) : g.k ≤ nmS g x ∧ nmS g x < g.k + n0S g := by
  have := h.n
  have := h.k
  unfold nmS n0S; split <;> omega
def sufS : List Rule → Int → Int → List Int
  | [], _, _ => []
  | r :: rs, N, f => if f < N + ((r.right.length - 2 : Nat) : Int) then r.right.drop ((f - N).toNat + 1) else sufS rs (N + ((r.right.length - 2 : Nat) : Int)) f
def phiS (g : Grammar) (x : Int) : List Int :=
  if x < g.k then [x] else if x = g.k then [g.k + g.start] else if x - g.k ≤ g.n then [x - 1] else if x - g.k < n0S g then [x - g.k - g.n - 1] else sufS g.rules (n0S g) (x - g.k)
theorem phi_nm {g : Grammar} (h : PG g) {x : Int} (hx : 0 ≤ x ∧ x < g.k + g.n) : phiS g (nmS g x) = [x] := by
  have hn := h.n
  have hk := h.k
  unfold nmS phiS n0S
  by_cases e : x < g.k
  · rw [if_pos e, if_neg (by omega), if_neg (by omega), if_neg (by omega), if_pos (by omega)]
    congr 1; omega
  · rw [if_neg e, if_neg (by omega), if_neg (by omega), if_pos (by omega)]
    congr 1; omega
theorem phi_nms {g : Grammar} (h : PG g) : ∀ {l : List Int}, (∀ x, x ∈ l → 0 ≤ x ∧ x < g.k + g.n) → (l.map (nmS g)).flatMap (phiS g) = l
  | [], _ => rfl
  | x :: l, hx => by
    rw [List.map_cons, List.flatMap_cons, phi_nm h (hx x (by simp)), phi_nms h fun y hy => hx y (List.mem_cons_of_mem _ hy)]; rfl
theorem bin_snd {g : Grammar} {w : List Int} (h : PG g) : ∀ {l : List Int} {L N : Int}, (∀ x, x ∈ l → 0 ≤ x ∧ x < g.k + g.n) → (∀ i j, Der g w l i j → Der g w (phiS g (g.k + L)) i j) → (∀ t : Nat, t + 2 < l.length → phiS g (g.k + (N + t)) = l.drop (t + 1)) →
    ∀ ρ, ρ ∈ binS g.k (l.map (nmS g)) L N → ∀ i j, Der g w (ρ.right.flatMap (phiS g)) i j → Der g w (phiS g (g.k + ρ.left)) i j
  | [], L, N, _, hL, _, ρ, hρ, i, j, hd => by
    rw [List.map_nil, binS, List.mem_singleton] at hρ
    subst hρ
    exact hL i j hd
  | a :: t, L, N, hx, hL, hf, ρ, hρ, i, j, hd => by
    by_cases hl : 2 ≤ t.length
    · rw [List.map_cons, binS, if_pos (by simpa using hl), List.mem_cons] at hρ
      have e0 : phiS g (g.k + N) = t := by
        have := hf 0 (by simp; omega)
        simpa using this
      rcases hρ with rfl | hρ
      · refine hL i j ?_
        have hd : Der g w (List.flatMap (phiS g) [nmS g a, g.k + N]) i j := hd
        rw [List.flatMap_cons, List.flatMap_cons, phi_nm h (hx a (by simp)), e0] at hd
        simpa using hd
      · refine bin_snd h (l := t) (L := N) (N := N + 1) (fun x hx2 => hx x (List.mem_cons_of_mem _ hx2)) (fun i j hd => by rw [e0]; exact hd) (fun t' ht' => ?_) ρ hρ i j hd
        have := hf (t' + 1) (by simp; omega)
        rw [show N + 1 + (t' : Int) = N + ((t' + 1 : Nat) : Int) by omega, this]; rfl
    · rw [List.map_cons, binS, if_neg (by simpa using hl), List.mem_singleton] at hρ
      subst hρ
      refine hL i j ?_
      have hd : Der g w (List.flatMap (phiS g) ((a :: t).map (nmS g))) i j := hd
      rw [phi_nms h hx] at hd
      exact hd
theorem shR_snd {g : Grammar} {w : List Int} (h : PG g) : ∀ {rs : List Rule} {N : Int}, n0S g ≤ N → (∀ r, r ∈ rs → r ∈ g.rules) → (∀ f, N ≤ f → phiS g (g.k + f) = sufS rs N f) →
    ∀ ρ, ρ ∈ shR g rs N → ∀ i j, Der g w (ρ.right.flatMap (phiS g)) i j → Der g w (phiS g (g.k + ρ.left)) i j
  | [], N, _, _, _, ρ, hρ, i, j, hd => by cases hρ
  | r :: rs, N, hN, hr, hf, ρ, hρ, i, j, hd => by
    have hrm := hr r (by simp)
    have hn := h.n
    have hk := h.k
    rw [shR, List.mem_append] at hρ
    rcases hρ with hρ | hρ
    · refine bin_snd h (l := r.right) (h.r r hrm) (fun i j hd => ?_) (fun t ht => ?_) ρ hρ i j hd
      · have hl := h.l r hrm
        have e : phiS g (g.k + (r.left + 1)) = [g.k + r.left] := by
          unfold phiS
          rw [if_neg (by omega), if_neg (by omega), if_pos (by omega)]
          congr 1; omega
        rw [e]
        exact .ofMem hrm (by omega) (by omega) hd .nil
      · rw [hf _ (by omega), sufS, if_pos (by omega)]
        congr 1; omega
    · refine shR_snd h (rs := rs) (by omega) (fun x hx => hr x (List.mem_cons_of_mem _ hx)) (fun f hf2 => ?_) ρ hρ i j hd
      rw [hf _ (by omega), sufS, if_neg (by omega)]
theorem sh_snd {g : Grammar} {w : List Int} (h : PG g) {l : List Int} {i j : Nat} (hd : Der (shG g) w l i j) : Der g w (l.flatMap (phiS g)) i j := by
  have hn := h.n
  have hk := h.k
  have hs := h.s
  refine der_map (g' := shG g) (φ := phiS g) (fun x i hx hi hw => ?_) (fun r hr i j hd => ?_) hd
  · have hx' : x < g.k := hx
    unfold phiS
    rw [if_pos hx']
    exact .sym hx' hi hw .nil
  · have hr : r ∈ ⟨0, [g.k + g.start + 1]⟩ :: (letS g ++ shR g g.rules (n0S g)) := hr
    rw [List.mem_cons, List.mem_append] at hr
    show Der g w (phiS g (g.k + r.left)) i j
    rcases hr with rfl | hr | hr
    · have hd : Der g w (List.flatMap (phiS g) [g.k + g.start + 1]) i j := hd
      have e1 : phiS g (g.k + g.start + 1) = [g.k + g.start] := by
        unfold phiS
        rw [if_neg (by omega), if_neg (by omega), if_pos (by omega)]
        congr 1; omega
      have e2 : phiS g (g.k + 0) = [g.k + g.start] := by
        unfold phiS
        rw [if_neg (by omega), if_pos (by omega)]
      rw [List.flatMap_cons, e1] at hd
      show Der g w (phiS g (g.k + 0)) i j
      rw [e2]; simpa using hd
    · obtain ⟨s, hs2, rfl⟩ := List.mem_map.1 hr
      have hs3 := List.mem_range.1 hs2
      have e1 : phiS g (s : Int) = [(s : Int)] := by
        unfold phiS
        rw [if_pos (by omega)]
      have e2 : phiS g (g.k + (g.n + 1 + (s : Int))) = [(s : Int)] := by
        unfold phiS n0S
        rw [if_neg (by omega), if_neg (by omega), if_neg (by omega), if_pos (by omega)]
        congr 1; omega
      have hd : Der g w (List.flatMap (phiS g) [(s : Int)]) i j := hd
      rw [List.flatMap_cons, e1] at hd
      show Der g w (phiS g (g.k + (g.n + 1 + (s : Int)))) i j
      rw [e2]; simpa using hd
    · refine shR_snd h (Int.le_refl _) (fun r hr => hr) (fun f hf => ?_) r hr i j hd
      unfold phiS
      rw [if_neg (by unfold n0S at hf; omega), if_neg (by unfold n0S at hf; omega), if_neg (by unfold n0S at hf; omega), if_neg (by omega), show g.k + f - g.k = f by omega]
theorem bin_cmp {g : Grammar} {w : List Int} : ∀ {l : List Int} {L N : Int}, 0 ≤ L → 0 ≤ N → (∀ ρ, ρ ∈ binS g.k l L N → ρ ∈ g.rules) → ∀ {i j : Nat}, Der g w l i j → Der g w [g.k + L] i j
  | [], L, N, hL, hN, hb, i, j, hd => .ofMem (r := ⟨L, []⟩) (hb _ (by rw [binS]; exact List.mem_singleton.2 rfl)) (by omega) (by show L = _; omega) hd .nil
  | a :: t, L, N, hL, hN, hb, i, j, hd => by
    by_cases hl : 2 ≤ t.length
    · rw [binS, if_pos hl] at hb
      obtain ⟨m, h1, h2⟩ := hd.cons
      have h3 := bin_cmp (l := t) (L := N) (N := N + 1) hN (by omega) (fun ρ hρ => hb ρ (List.mem_cons_of_mem _ hρ)) h2
      exact .ofMem (hb ⟨L, [a, g.k + N]⟩ (by simp)) (by omega) (by show L = _; omega) (h1.app h3) .nil
    · rw [binS, if_neg hl] at hb
      exact .ofMem (r := ⟨L, a :: t⟩) (hb _ (List.mem_singleton.2 rfl)) (by omega) (by show L = _; omega) hd .nil
theorem shR_in {g : Grammar} : ∀ {rs : List Rule} {N : Int} {r : Rule}, r ∈ rs → ∃ N', N ≤ N' ∧ ∀ ρ, ρ ∈ binS g.k (r.right.map (nmS g)) (r.left + 1) N' → ρ ∈ shR g rs N
  | [], _, _, h => by cases h
  | x :: rs, N, r, h => by
    rcases List.mem_cons.1 h with rfl | h
    · exact ⟨N, Int.le_refl _, fun ρ hρ => by rw [shR]; exact List.mem_append_left _ hρ⟩
    · obtain ⟨N', h1, h2⟩ := shR_in (g := g) (rs := rs) (N := N + ((x.right.length - 2 : Nat) : Int)) h
      exact ⟨N', by omega, fun ρ hρ => by rw [shR]; exact List.mem_append_right _ (h2 ρ hρ)⟩
theorem sh_cmp {g : Grammar} {w : List Int} (h : PG g) (hw : ∀ i, i < w.length → 0 ≤ w.getD i 0) {l : List Int} {i j : Nat} (hd : Der g w l i j) : Der (shG g) w (l.map (nmS g)) i j := by
  have hn := h.n
  have hk := h.k
  rw [← flatMap_one]
  refine der_map (fun x i hx hi hwi => ?_) (fun r hr i j hd => ?_) hd
  · have h0 := hw i hi
    rw [hwi] at h0
    have e : nmS g x = g.k + (g.n + 1 + x) := if_pos hx
    rw [e]
    refine .ofMem (r := ⟨g.n + 1 + x, [x]⟩) ?_ (by show ¬ _ < g.k; omega) (by show g.n + 1 + x = g.k + (g.n + 1 + x) - g.k; omega) (.sym hx hi hwi .nil) .nil
    refine List.mem_cons_of_mem _ (List.mem_append_left _ (List.mem_map.2 ⟨x.toNat, List.mem_range.2 (by omega), ?_⟩))
    rw [show ((x.toNat : Nat) : Int) = x by omega]
  · obtain ⟨N', h1, h2⟩ := shR_in (g := g) (rs := g.rules) (N := n0S g) hr
    have hl := h.l r hr
    have e : nmS g (g.k + r.left) = g.k + (r.left + 1) := by unfold nmS; rw [if_neg (by omega)]; omega
    rw [e]
    rw [flatMap_one] at hd
    exact bin_cmp (g := shG g) (by omega) (by unfold n0S at h1; omega) (fun ρ hρ => List.mem_cons_of_mem _ (List.mem_append_right _ (h2 ρ hρ))) hd
theorem sh_iff {g : Grammar} {w : List Int} (h : PG g) (hw : ∀ i, i < w.length → 0 ≤ w.getD i 0) {i j : Nat} : Der (shG g) w [g.k + 0] i j ↔ Der g w [g.k + g.start] i j := by
  have hn := h.n
  have hk := h.k
  have hs := h.s
  constructor
  · intro hd
    have := sh_snd h hd
    rw [List.flatMap_cons, show phiS g (g.k + 0) = [g.k + g.start] by unfold phiS; rw [if_neg (by omega), if_pos (by omega)]] at this
    simpa using this
  · intro hd
    have := sh_cmp h hw hd
    rw [List.map_cons, show nmS g (g.k + g.start) = g.k + g.start + 1 by unfold nmS; rw [if_neg (by omega)]] at this
    exact .ofMem (r := ⟨0, [g.k + g.start + 1]⟩) (List.mem_cons_self ..) (by show ¬ g.k + 0 < g.k; omega) (by show (0 : Int) = g.k + 0 - g.k; omega) this .nil
def ShOk (k N : Int) (r : Rule) : Prop := (0 ≤ r.left ∧ r.left < N) ∧ r.right.length ≤ 2 ∧ (∀ x, x ∈ r.right → 0 ≤ x ∧ x < k + N) ∧ (r.right.length = 2 → ∀ x, x ∈ r.right → k ≤ x)
theorem ShOk.mono {k N N' : Int} {r : Rule} (h : ShOk k N r) (hN : N ≤ N') : ShOk k N' r :=
  ⟨⟨h.1.1, by have := h.1.2; omega⟩, h.2.1, fun x hx => ⟨(h.2.2.1 x hx).1, by have := (h.2.2.1 x hx).2; omega⟩, h.2.2.2⟩
theorem bin_ok {k : Int} (hk : 0 ≤ k) : ∀ {l : List Int} {L N : Int}, 0 ≤ L → L < N → 0 ≤ N → (∀ x, x ∈ l → k ≤ x ∧ x < k + N) → ∀ ρ, ρ ∈ binS k l L N → ShOk k (N + ((l.length - 2 : Nat) : Int)) ρ
  | [], L, N, h1, h2, h3, hx, ρ, hρ => by
    rw [binS, List.mem_singleton] at hρ
    subst hρ
    exact ⟨⟨h1, by show L < _; simp; omega⟩, by simp, fun x (hx : x ∈ []) => (by cases hx), fun _ x (hx : x ∈ []) => (by cases hx)⟩
  | a :: t, L, N, h1, h2, h3, hx, ρ, hρ => by
    have ha := hx a (by simp)
    by_cases hl : 2 ≤ t.length
    · rw [binS, if_pos hl, List.mem_cons] at hρ
      rcases hρ with rfl | hρ
      · refine ⟨⟨h1, ?_⟩, by simp, fun x hx => ?_, fun _ x hx => ?_⟩
        · show L < _; simp; omega
        · simp only [List.mem_cons, List.not_mem_nil, or_false] at hx
          rcases hx with rfl | rfl <;> simp <;> omega
        · simp only [List.mem_cons, List.not_mem_nil, or_false] at hx
          rcases hx with rfl | rfl <;> omega
      · have := bin_ok hk (l := t) (L := N) (N := N + 1) h3 (by omega) (by omega) (fun x hx2 => by have := hx x (List.mem_cons_of_mem _ hx2); omega) ρ hρ
        exact this.mono (by rw [List.length_cons]; omega)
    · rw [binS, if_neg hl, List.mem_singleton] at hρ
      subst hρ
      refine ⟨⟨h1, ?_⟩, by simp; omega, fun x hx2 => ?_, fun _ x hx2 => (hx x hx2).1⟩
      · show L < _; omega
      · have := hx x hx2
        omega
theorem shR_ok {g : Grammar} (h : PG g) : ∀ {rs : List Rule} {N : Int}, n0S g ≤ N → (∀ r, r ∈ rs → r ∈ g.rules) → ∀ ρ, ρ ∈ shR g rs N → ShOk g.k (shN rs N) ρ
  | [], _, _, _, ρ, hρ => by cases hρ
  | r :: rs, N, hN, hr, ρ, hρ => by
    have hn := h.n
    have hk := h.k
    have hl := h.l r (hr r (by simp))
    rw [shR, List.mem_append] at hρ
    rw [shN]
    rcases hρ with hρ | hρ
    · refine (bin_ok (by omega) (by omega) (by unfold n0S at hN; omega) (by unfold n0S at hN; omega) (fun x hx => ?_) ρ hρ).mono ?_
      · obtain ⟨y, hy, rfl⟩ := List.mem_map.1 hx
        have := nmS_ge h (h.r r (hr r (by simp)) y hy)
        omega
      · rw [List.length_map]; exact shN_le
    · exact shR_ok h (by omega) (fun x hx => hr x (List.mem_cons_of_mem _ hx)) ρ hρ
theorem sh_ok {g : Grammar} (h : PG g) : ∀ ρ, ρ ∈ (shG g).rules → ShOk g.k (shG g).n ρ := by
  intro ρ hρ
  have hn := h.n
  have hk := h.k
  have hs := h.s
  have hN : n0S g ≤ (shG g).n := shN_le
  have hN2 : n0S g = g.n + 1 + g.k := rfl
  have hρ : ρ ∈ ⟨0, [g.k + g.start + 1]⟩ :: (letS g ++ shR g g.rules (n0S g)) := hρ
  rw [List.mem_cons, List.mem_append] at hρ
  rcases hρ with rfl | hρ | hρ
  · refine ⟨⟨Int.le_refl _, by show 0 < _; omega⟩, by simp, fun x hx => ?_, fun h => by simp at h⟩
    rw [List.mem_singleton.1 hx]; omega
  · obtain ⟨s, hs2, rfl⟩ := List.mem_map.1 hρ
    have hs3 := List.mem_range.1 hs2
    refine ⟨⟨by show 0 ≤ g.n + 1 + (s : Int); omega, by show g.n + 1 + (s : Int) < _; omega⟩, by simp, fun x hx => ?_, fun h => by simp at h⟩
    rw [List.mem_singleton.1 hx]; omega
  · exact shR_ok h (Int.le_refl _) (fun r hr => hr) ρ hρ
def fulS (nul : Int → Bool) (k : Int) (r : Rule) : List Rule :=
  match r.right with
  | [] => []
  | [x, y] => r :: ((if nul (x - k) then [⟨r.left, [y]⟩] else []) ++ if nul (y - k) then [⟨r.left, [x]⟩] else [])
  | _ => [r]
def fuG (g : Grammar) (nul : Int → Bool) : Grammar := ⟨g.k, g.n, g.start, g.rules.flatMap (fulS nul g.k)⟩
inductive Lft (nul : Int → Bool) (k : Int) : List Int → List Int → Prop
  | nil : Lft nul k [] []
  | keep {x : Int} {l l' : List Int} (h : Lft nul k l l') : Lft nul k (x :: l) (x :: l')
  | drop {x : Int} {l l' : List Int} (hx : k ≤ x) (hn : nul (x - k) = true) (h : Lft nul k l l') : Lft nul k (x :: l) l'
theorem Lft.inil {nul : Int → Bool} {k : Int} {l : List Int} (h : Lft nul k [] l) : l = [] := by cases h; rfl
theorem Lft.icons {nul : Int → Bool} {k x : Int} {l l' : List Int} (h : Lft nul k (x :: l) l') : (∃ t, l' = x :: t ∧ Lft nul k l t) ∨ (nul (x - k) = true ∧ Lft nul k l l') := by
  cases h with
  | keep h => exact .inl ⟨_, rfl, h⟩
  | drop hx hn h => exact .inr ⟨hn, h⟩
theorem ful_in {nul : Int → Bool} {k : Int} {r : Rule} (hl : r.right.length ≤ 2) {l : List Int} (h : Lft nul k r.right l) (hne : l ≠ []) : ⟨r.left, l⟩ ∈ fulS nul k r := by
  obtain ⟨L, R⟩ := r
  unfold fulS
  match R, hl, h with
  | [], _, h => exact absurd h.inil hne
  | [x], _, h =>
    obtain ⟨t, e, h1⟩ | ⟨hn, h1⟩ := Lft.icons h
    · rw [e, h1.inil]; exact List.mem_singleton.2 rfl
    · exact absurd h1.inil hne
  | [x, y], _, h =>
    obtain ⟨t, e, h1⟩ | ⟨hn, h1⟩ := Lft.icons h
    · obtain ⟨t2, e2, h2⟩ | ⟨hn2, h2⟩ := Lft.icons h1
      · rw [e, e2, h2.inil]; exact List.mem_cons_self ..
      · rw [e, h2.inil]
        refine List.mem_cons_of_mem _ (List.mem_append_right _ ?_)
        rw [if_pos hn2]; exact List.mem_singleton.2 rfl
    · obtain ⟨t2, e2, h2⟩ | ⟨hn2, h2⟩ := Lft.icons h1
      · rw [e2, h2.inil]
        refine List.mem_cons_of_mem _ (List.mem_append_left _ ?_)
        rw [if_pos hn]; exact List.mem_singleton.2 rfl
      · exact absurd h2.inil hne
theorem ful_of {nul : Int → Bool} {k : Int} {r ρ : Rule} (hl : r.right.length ≤ 2) (h2 : r.right.length = 2 → ∀ x, x ∈ r.right → k ≤ x) (h : ρ ∈ fulS nul k r) : ρ.left = r.left ∧ ρ.right ≠ [] ∧ Lft nul k r.right ρ.right := by
  obtain ⟨L, R⟩ := r
  unfold fulS at h
  match R, hl, h2, h with
  | [], _, _, h => cases h
  | [x], _, _, h =>
    rw [List.mem_singleton] at h
    subst h
    exact ⟨rfl, by simp, .keep .nil⟩
  | [x, y], _, h2, h =>
    have hx := h2 rfl x (by simp)
    have hy := h2 rfl y (by simp)
    rcases List.mem_cons.1 h with rfl | h
    · exact ⟨rfl, by simp, .keep (.keep .nil)⟩
    · rcases List.mem_append.1 h with h | h
      · have h : ρ ∈ if nul (x - k) = true then _ else _ := h
        by_cases e : nul (x - k) = true
        · rw [if_pos e, List.mem_singleton] at h
          subst h
          exact ⟨rfl, by simp, .drop hx e (.keep .nil)⟩
        · rw [if_neg e] at h; cases h
      · have h : ρ ∈ if nul (y - k) = true then _ else _ := h
        by_cases e : nul (y - k) = true
        · rw [if_pos e, List.mem_singleton] at h
          subst h
          exact ⟨rfl, by simp, .keep (.drop hy e .nil)⟩
        · rw [if_neg e] at h; cases h
structure FG (g : Grammar) (nul : Int → Bool) : Prop where
  k : 0 ≤ g.k
  ok : ∀ r, r ∈ g.rules → ShOk g.k g.n r
  nul : ∀ a, 0 ≤ a → a < g.n → ∀ w i, nul a = true ↔ Der g w [g.k + a] i i
theorem fu_snd {g : Grammar} {nul : Int → Bool} (h : FG g nul) {w : List Int} {l : List Int} {i j : Nat} (hd : Der (fuG g nul) w l i j) : Der g w l i j := by
  have := der_map (g := g) (g' := fuG g nul) (φ := fun x => [x]) (fun x i hx hi hw => .sym hx hi hw .nil) (fun r hr i j hd => ?_) hd
  · rw [flatMap_one] at this; simpa using this
  · rw [flatMap_one, List.map_id'] at hd
    obtain ⟨r0, hr0, hr1⟩ := List.mem_flatMap.1 hr
    have hok := h.ok r0 hr0
    obtain ⟨e1, _, e3⟩ := ful_of hok.2.1 hok.2.2.2 hr1
    show Der g w [g.k + r.left] i j
    have hl := hok.1.1
    rw [e1]
    refine .ofMem hr0 (by omega) (by omega) ?_ .nil
    have key : ∀ {l l' : List Int}, Lft nul g.k l l' → (∀ x, x ∈ l → 0 ≤ x ∧ x < g.k + g.n) → ∀ {i j : Nat}, Der g w l' i j → Der g w l i j := by
      intro l l' hL
      induction hL with
      | nil => intro _ i j hd; exact hd
      | keep _ ih =>
        intro hx i j hd
        obtain ⟨m, h1, h2⟩ := hd.cons
        exact h1.app (ih (fun y hy => hx y (List.mem_cons_of_mem _ hy)) h2)
      | @drop x l l' hx hn _ ih =>
        intro hx2 i j hd
        have hxx := hx2 x (by simp)
        have := (h.nul (x - g.k) (by omega) (by omega) w i).1 hn
        rw [show g.k + (x - g.k) = x by omega] at this
        exact this.app (ih (fun y hy => hx2 y (List.mem_cons_of_mem _ hy)) hd)
    exact key e3 hok.2.2.1 hd
theorem fu_pos {g : Grammar} {nul : Int → Bool} (h : FG g nul) {w : List Int} {l : List Int} {i j : Nat} (hd : Der (fuG g nul) w l i j) : l ≠ [] → i < j := by
  induction hd with
  | nil => intro h; exact absurd rfl h
  | sym hx hi hw h ih => intro _; have := h.le.1; omega
  | @name x s i m j q hx hq hl h1 h2 ih1 ih2 =>
    intro _
    have hr := getD_mem' (l := (fuG g nul).rules) (i := q) hq
    obtain ⟨r0, hr0, hr1⟩ := List.mem_flatMap.1 hr
    have hok := h.ok r0 hr0
    have := ih1 (ful_of hok.2.1 hok.2.2.2 hr1).2.1
    have := h2.le.1
    omega
theorem fu_cmp {g : Grammar} {nul : Int → Bool} (h : FG g nul) {w : List Int} {l : List Int} {i j : Nat} (hd : Der g w l i j) : ∃ l', Lft nul g.k l l' ∧ Der (fuG g nul) w l' i j := by
  induction hd with
  | nil => exact ⟨[], .nil, .nil⟩
  | sym hx hi hw _ ih =>
    obtain ⟨l', h1, h2⟩ := ih
    exact ⟨_, .keep h1, .sym hx hi hw h2⟩
  | @name x s i m j q hx hq hl h1 h2 ih1 ih2 =>
    obtain ⟨l1, a1, a2⟩ := ih1
    obtain ⟨l2, b1, b2⟩ := ih2
    have hr := getD_mem' (l := g.rules) (i := q) hq
    have hok := h.ok _ hr
    by_cases e : l1 = []
    · subst e
      have : i = m := by cases a2; rfl
      subst this
      have hn : nul (x - g.k) = true := (h.nul (x - g.k) (by have := hok.1; omega) (by have := hok.1; omega) w i).2 (by
        rw [show g.k + (x - g.k) = x by omega]
        exact .name hx hq hl h1 .nil)
      exact ⟨l2, .drop (by omega) hn b1, b2⟩
    · exact ⟨x :: l2, .keep b1, .ofMem (r := ⟨(g.rules.getD q default).left, l1⟩) (List.mem_flatMap.2 ⟨_, hr, ful_in hok.2.1 a1 e⟩) hx hl a2 b2⟩
theorem fu_iff {g : Grammar} {nul : Int → Bool} (h : FG g nul) {w : List Int} {x : Int} {i j : Nat} (hij : i < j) : Der (fuG g nul) w [x] i j ↔ Der g w [x] i j := by
  constructor
  · exact fu_snd h
  · intro hd
    obtain ⟨l', h1, h2⟩ := fu_cmp h hd
    cases h1 with
    | keep h => cases h; exact h2
    | drop _ _ h =>
      cases h
      have : i = j := by cases h2; rfl
      omega
def isSg (k : Int) (r : Rule) : Bool := decide (r.right.length = 1) && decide (k ≤ r.right.getD 0 0)
inductive Chn (k : Int) (rs : List Rule) : Int → Int → Prop
  | refl (a : Int) : Chn k rs a a
  | step {a b c : Int} (h : Chn k rs a b) (hr : ⟨b, [k + c]⟩ ∈ rs) (hc : 0 ≤ c) : Chn k rs a c
theorem Chn.trans {k : Int} {rs : List Rule} {a b c : Int} (h : Chn k rs a b) (h2 : Chn k rs b c) : Chn k rs a c := by
  induction h2 with
  | refl => exact h
  | step _ hr hc ih => exact .step ih hr hc
structure ChG (F P : Grammar) : Prop where
  k : P.k = F.k
  k0 : 0 ≤ F.k
  l : ∀ r, r ∈ F.rules → 0 ≤ r.left ∧ r.left < P.n
  iff : ∀ a R, 0 ≤ a → a < P.n → ((⟨a, R⟩ : Rule) ∈ P.rules ↔ ∃ b, Chn F.k F.rules a b ∧ (⟨b, R⟩ : Rule) ∈ F.rules ∧ isSg F.k ⟨b, R⟩ = false)
  rl : ∀ r, r ∈ P.rules → 0 ≤ r.left ∧ r.left < P.n
theorem chn_der {F : Grammar} {w : List Int} (hk : 0 ≤ F.k) (hl : ∀ r, r ∈ F.rules → 0 ≤ r.left) {a b : Int} (h : Chn F.k F.rules a b) {i j : Nat} : Der F w [F.k + b] i j → Der F w [F.k + a] i j := by
  induction h with
  | refl => exact fun h => h
  | @step b c h hr hc ih =>
    intro hd
    have : 0 ≤ b := hl _ hr
    exact ih (.ofMem hr (by show ¬ _ < _; omega) (by show b = F.k + b - F.k; omega) hd .nil)
theorem ch_snd {F P : Grammar} (h : ChG F P) {w : List Int} {l : List Int} {i j : Nat} (hd : Der P w l i j) : Der F w l i j := by
  have hk := h.k
  have := der_map (g := F) (g' := P) (φ := fun x => [x]) (fun x i hx hi hw => .sym (by omega) hi hw .nil) (fun r hr i j hd => ?_) hd
  · rw [flatMap_one] at this; simpa using this
  · rw [flatMap_one, List.map_id'] at hd
    have hrl := h.rl r hr
    obtain ⟨b, h1, h2, h3⟩ := (h.iff r.left r.right hrl.1 hrl.2).1 hr
    rw [hk]
    have hb : 0 ≤ b := (h.l _ h2).1
    exact chn_der h.k0 (fun r hr => (h.l r hr).1) h1 (.ofMem h2 (by show ¬ _ < _; omega) (by show b = F.k + b - F.k; omega) hd .nil)
theorem ch_cmp {F P : Grammar} (h : ChG F P) {w : List Int} {l : List Int} {i j : Nat} (hd : Der F w l i j) : Der P w l i j := by
  have hk := h.k
  have hk0 := h.k0
  induction hd with
  | nil => exact .nil
  | sym hx hi hw _ ih => exact .sym (by omega) hi hw ih
  | @name x s i m j q hx hq hl h1 h2 ih1 ih2 =>
    have hr := getD_mem' (l := F.rules) (i := q) hq
    have hll := h.l _ hr
    generalize hrr : F.rules.getD q default = r at *
    obtain ⟨a, R⟩ := r
    simp only at *
    by_cases e : isSg F.k ⟨a, R⟩ = true
    · unfold isSg at e
      simp only [Bool.and_eq_true, decide_eq_true_eq] at e
      match R, e with
      | [y], e =>
        have hy : F.k ≤ y := e.2
        rw [der_name (by omega)] at ih1
        obtain ⟨q', hq', hl', hd'⟩ := ih1
        have hr' := getD_mem' (l := P.rules) (i := q') hq'
        generalize hrr' : P.rules.getD q' default = r' at *
        obtain ⟨b, R'⟩ := r'
        simp only at *
        have hb := h.rl _ hr'
        simp only at hb
        obtain ⟨c, c1, c2, c3⟩ := (h.iff b R' hb.1 hb.2).1 hr'
        have hch : Chn F.k F.rules a c := .trans (.step (.refl a) (show (⟨a, [F.k + b]⟩ : Rule) ∈ F.rules by rw [show F.k + b = y by omega]; exact hr) hb.1) c1
        exact .ofMem (r := ⟨a, R'⟩) ((h.iff a R' hll.1 hll.2).2 ⟨c, hch, c2, c3⟩) (by omega) (by show a = _; omega) hd' ih2
    · exact .ofMem (r := ⟨a, R⟩) ((h.iff a R hll.1 hll.2).2 ⟨a, .refl a, hr, by simpa using e⟩) (by omega) (by show a = _; omega) ih1 ih2
theorem ch_iff {F P : Grammar} (h : ChG F P) {w : List Int} {l : List Int} {i j : Nat} : Der P w l i j ↔ Der F w l i j := ⟨ch_snd h, ch_cmp h⟩
theorem plain_iff {g P : Grammar} {nul : Int → Bool} (h : PG g) (hF : FG (shG g) nul) (hP : ChG (fuG (shG g) nul) P) {w : List Int} (hw : ∀ i, i < w.length → 0 ≤ w.getD i 0) {i j : Nat} (hij : i < j) : Der P w [g.k + 0] i j ↔ Der g w [g.k + g.start] i j := by
  rw [ch_iff hP, fu_iff hF hij, sh_iff h hw]
theorem plain_nil {g P : Grammar} {nul : Int → Bool} (hF : FG (shG g) nul) (hP : ChG (fuG (shG g) nul) P) {w : List Int} {x : Int} {i : Nat} : ¬ Der P w [x] i i := by
  rw [ch_iff hP]
  intro hd
  exact absurd (fu_pos hF hd (by simp)) (Nat.lt_irrefl _)
end Go.Dm

namespace Go.Dm
set_option linter.unusedSimpArgs false
set_option linter.defProp false
def ltAll : List Nat → Nat → Prop
  | [], _ => True
  | x :: r, N => x < N ∧ ltAll r N
theorem ltAll_nil {N : Nat} : ltAll [] N = True := (rfl)
theorem ltAll_cons {x N : Nat} {r : List Nat} : ltAll (x :: r) N = (x < N ∧ ltAll r N) := (rfl)
theorem ltAll_spec {N : Nat} : ∀ {l : List Nat}, ltAll l N → ∀ x, x ∈ l → x < N
  | y :: r, h, x, hx => by
    rcases List.mem_cons.1 hx with rfl | hx
    · exact h.1
    · exact ltAll_spec h.2 x hx
def lentM (s : S) (ι : List Nat) : List Nat → List Ob → Prop
  | [], _ => True
  | _, [] => True
  | x :: r, ob :: q => s.M x = some (ob.ren (iotaO ι s.N)) ∧ lentM s ι r q
theorem lentM_nil {s : S} {ι : List Nat} {q : List Ob} : lentM s ι [] q = True := (rfl)
theorem lentM_cons {s : S} {ι : List Nat} {x : Nat} {r : List Nat} {ob : Ob} {q : List Ob} : lentM s ι (x :: r) (ob :: q) = (s.M x = some (ob.ren (iotaO ι s.N)) ∧ lentM s ι r q) := (rfl)
theorem lentM_spec {s : S} {ι : List Nat} : ∀ {l : List Nat} {q : List Ob}, l.length = q.length → lentM s ι l q → ∀ k ob, q[k]? = some ob → s.M (l.getD k 0) = some (ob.ren (iotaO ι s.N))
  | [], [], _, _, k, ob, h => by simp at h
  | [], _ :: _, hl, _, _, _, _ => by simp at hl
  | _ :: _, [], hl, _, _, _, _ => by simp at hl
  | x :: r, o :: q, hl, hm, k, ob, h => by
    cases k with
    | zero => simp at h; subst h; exact hm.1
    | succ k => simpa using lentM_spec (by simpa using hl) hm.2 k ob (by simpa using h)
theorem CallVC.lendE {P : Program} {f : FuncId} {views raws : List D} {own : Bool} {s : S} {d : Option Nat} {K : S → Prop} (ι : List Nat) (ds : List D) (obs : List Ob) {R : D → List (Option Ob) → Prop} (h : SpecH P f ds obs R) (hn : ι.Nodup) (hl : ι.length = obs.length)
    (hq : ltAll ι s.N ∧ raws = ds.map (D.ren (iotaO ι s.N)) ∧ lentM s ι ι obs) (hk : ∀ r l, R r l → K ((s.after ι l).put d (r.ren (iotaO ι s.N)))) : CallV P f views own raws s d K :=
  CallVC.lend ι ds obs h hn (ltAll_spec hq.1) hl hq.2.1 (lentM_spec hl hq.2.2) hk
def vle0 := And.intro @ltAll_nil <| And.intro @ltAll_cons <| And.intro @lentM_nil @lentM_cons
end Go.Dm

namespace Go.Proofs.Ytplkkacfjepgpaa
open Go.Dm
set_option linter.unusedSimpArgs false
set_option linter.unnecessarySimpa false
set_option linter.unusedVariables false
set_option linter.defProp false
theorem rl_app1 {L : List Rule} {l : Int} {r : List Int} : tbl rulD L ++ [[D.v (.int .i64 l), D.sl 1 (i64s r)]] = tbl rulD (L ++ [⟨l, r⟩]) := by rw [tbl_app]; rfl
def vsh := And.intro vmr <| And.intro @rl_app1 <| And.intro @rulD_eq @Int.add_sub_cancel
def shO (k n : Int) (L : List Rule) : Ob := ⟨4, [[iv .i64 k, iv .i64 n, iv .i64 0, .own false 2 (tbl rulD L)]], true, true, .fix⟩
theorem so_fin {k n : Int} {L : List Rule} {s : Go.Dm.S} {d : D} {R : D → List (Option Ob) → Prop} (h1 : 1 ≤ s.N) (h2 : fitL s 1 0 [some (shO k n L)]) (hd : R (d.trim 1) [some (shO k n L)]) : FinH 1 R s d :=
  finH_mk [some (shO k n L)] (by simp) (by simpa using h1) h2 hd
set_option maxRecDepth 10000 in
set_option maxHeartbeats 4000000 in
theorem fresh_spec (k n : Int) (hn : 0 ≤ n ∧ n ≤ 100000) (L : List Rule) : Dm.SpecH Try.prog 74 [.ptr 0 4 0 0] [shO k n L] (fun d o => d = iv .i64 n ∧ o = [some (shO k (n + 1) L)]) := by
  refine specH_of_vc mixed Try.func74 c74 (by rw [show Try.f74.ntmps = _ from Try.ntmps74]; simp) ?_
  unfold m74 r74
  unfold shO
  repeat' first | ((first | refine Br.dec ?_ ?_ | refine Br.eqi ?_ ?_) <;> intro h <;> try (exfalso; omega)) | (simp (disch := first | omega | (simp only [vlen]; first | done | omega)) only [vsh, ↓vAq, vBq, ↓reduceIte, Nat.reduceBEq, Nat.reduceEqDiff, Nat.reduceLT, Nat.reduceLeDiff, Nat.reduceAdd, Nat.reduceMul, Nat.reduceSub, reduceCtorEq, Int.reduceToNat]) | (refine Br.mk ?_ ?_ <;> intro h) | (refine BrN.mk (fun h => ?_) ?_) | (refine AltVC.mk ?_ ?_)
  exact so_fin (k := k) (n := n + 1) (L := L) (by simp (disch := first | omega | (simp only [vlen]; first | done | omega)) only [vsh, ↓vAq, vBq, ↓reduceIte, Nat.reduceBEq, Nat.reduceEqDiff, Nat.reduceLT, Nat.reduceLeDiff, Nat.reduceAdd, Nat.reduceMul, Nat.reduceSub, reduceCtorEq, Int.reduceToNat]) (by unfold shO; simp (disch := first | omega | (simp only [vlen]; first | done | omega)) only [vsh, ↓vAq, vBq, ↓reduceIte, Nat.reduceBEq, Nat.reduceEqDiff, Nat.reduceLT, Nat.reduceLeDiff, Nat.reduceAdd, Nat.reduceMul, Nat.reduceSub, reduceCtorEq, Int.reduceToNat]) ⟨by simp (disch := first | omega | (simp only [vlen]; first | done | omega)) only [vsh, ↓vAq, vBq, ↓reduceIte, Nat.reduceBEq, Nat.reduceEqDiff, Nat.reduceLT, Nat.reduceLeDiff, Nat.reduceAdd, Nat.reduceMul, Nat.reduceSub, reduceCtorEq, Int.reduceToNat], rfl⟩
set_option maxRecDepth 10000 in
set_option maxHeartbeats 4000000 in
theorem arule_spec (k n : Int) (L : List Rule) (hL : L.length ≤ 100000) (l : Int) (r : List Int) : Dm.SpecH Try.prog 75 [iv .i64 l, .sl 1 (i64s r), .ptr 0 4 0 0] [shO k n L] (fun d o => d = .tu [] ∧ o = [some (shO k n (L ++ [⟨l, r⟩]))]) := by
  refine specH_of_vc mixed Try.func75 c75 (by rw [show Try.f75.ntmps = _ from Try.ntmps75]; simp) ?_
  unfold m75 r75
  unfold shO
  repeat' first | ((first | refine Br.dec ?_ ?_ | refine Br.eqi ?_ ?_) <;> intro h <;> try (exfalso; omega)) | (simp (disch := first | omega | (simp only [vlen]; first | done | omega)) only [vsh, ↓vAq, vBq, ↓reduceIte, Nat.reduceBEq, Nat.reduceEqDiff, Nat.reduceLT, Nat.reduceLeDiff, Nat.reduceAdd, Nat.reduceMul, Nat.reduceSub, reduceCtorEq, Int.reduceToNat]) | (refine Br.mk ?_ ?_ <;> intro h) | (refine BrN.mk (fun h => ?_) ?_) | (refine AltVC.mk ?_ ?_)
  refine FinH.fold 1 0 0 3 true (by simp [D.kill, lf_tu]) ?_
  repeat' first | ((first | refine Br.dec ?_ ?_ | refine Br.eqi ?_ ?_) <;> intro h <;> try (exfalso; omega)) | (simp (disch := first | omega | (simp only [vlen]; first | done | omega)) only [rl_app1, vsh, ↓vAq, vBq, ↓reduceIte, Nat.reduceBEq, Nat.reduceEqDiff, Nat.reduceLT, Nat.reduceLeDiff, Nat.reduceAdd, Nat.reduceMul, Nat.reduceSub, reduceCtorEq, Int.reduceToNat]) | (refine Br.mk ?_ ?_ <;> intro h) | (refine BrN.mk (fun h => ?_) ?_) | (refine AltVC.mk ?_ ?_)
  exact so_fin (k := k) (n := n) (L := L ++ [⟨l, r⟩]) (by simp (disch := first | omega | (simp only [vlen]; first | done | omega)) only [vsh, ↓vAq, vBq, ↓reduceIte, Nat.reduceBEq, Nat.reduceEqDiff, Nat.reduceLT, Nat.reduceLeDiff, Nat.reduceAdd, Nat.reduceMul, Nat.reduceSub, reduceCtorEq, Int.reduceToNat]) (by unfold shO; simp (disch := first | omega | (simp only [vlen]; first | done | omega)) only [List.length_append, vsh, ↓vAq, vBq, ↓reduceIte, Nat.reduceBEq, Nat.reduceEqDiff, Nat.reduceLT, Nat.reduceLeDiff, Nat.reduceAdd, Nat.reduceMul, Nat.reduceSub, reduceCtorEq, Int.reduceToNat]) ⟨by simp (disch := first | omega | (simp only [vlen]; first | done | omega)) only [vsh, ↓vAq, vBq, ↓reduceIte, Nat.reduceBEq, Nat.reduceEqDiff, Nat.reduceLT, Nat.reduceLeDiff, Nat.reduceAdd, Nat.reduceMul, Nat.reduceSub, reduceCtorEq, Int.reduceToNat], rfl⟩
theorem binS_len {k : Int} : ∀ {l : List Int} {L N : Int}, (binS k l L N).length ≤ l.length + 1
  | [], L, N => by simp [binS]
  | a :: t, L, N => by
    rw [binS]
    split
    · have := @binS_len k t N (N + 1)
      simp; omega
    · simp
theorem shR_len {g : Grammar} : ∀ {rs : List Rule} {N : Int}, (∀ r, r ∈ rs → r.right.length ≤ 4) → (shR g rs N).length ≤ 5 * rs.length
  | [], _, _ => by simp [shR]
  | r :: rs, N, h => by
    have h1 := @shR_len g rs (N + ((r.right.length - 2 : Nat) : Int)) fun x hx => h x (List.mem_cons_of_mem _ hx)
    have h2 := @binS_len g.k (r.right.map (nmS g)) (r.left + 1) N
    have h3 := h r (by simp)
    rw [List.length_map] at h2
    rw [shR, List.length_append, List.length_cons]; omega
def shL (g : Grammar) (s : Nat) : List Rule := ⟨0, [g.k + g.start + 1]⟩ :: (List.range s).map fun (s : Nat) => (⟨g.n + 1 + (s : Int), [(s : Int)]⟩ : Rule)
theorem shL_succ {g : Grammar} {s : Nat} : shL g (s + 1) = shL g s ++ [⟨g.n + 1 + (s : Int), [(s : Int)]⟩] := by simp [shL, List.range_succ]
theorem shL_len {g : Grammar} {s : Nat} : (shL g s).length = s + 1 := by simp [shL]
def shQ (g : Grammar) (q : Nat) : List Rule := ⟨0, [g.k + g.start + 1]⟩ :: (letS g ++ shR g (g.rules.take q) (n0S g))
set_option maxRecDepth 10000 in
set_option maxHeartbeats 4000000 in
theorem short_spec (g : Grammar) (hv : Valid g) : Dm.Spec Try.prog 50 [.ag (graD g)] (· = .ag (graD (shG g))) := by
  refine spec_of_vc mixed Try.func50 c50 (by rw [show Try.f50.ntmps = _ from Try.ntmps50]; simp) ?_
  unfold m50 r50
  have hk := hv.k
  have hn := hv.n
  have hst := hv.start
  have hrl := hv.len
  obtain ⟨K, hK⟩ : ∃ K : Nat, g.k = K := ⟨g.k.toNat, by omega⟩
  repeat' first | ((first | refine Br.dec ?_ ?_ | refine Br.eqi ?_ ?_) <;> intro h <;> try (exfalso; omega)) | (simp (disch := first | omega | (simp only [vlen]; first | done | omega)) only [graD_eq, hK, vsh, ↓vAq, vBq, ↓reduceIte, Nat.reduceBEq, Nat.reduceEqDiff, Nat.reduceLT, Nat.reduceLeDiff, Nat.reduceAdd, Nat.reduceMul, Nat.reduceSub, reduceCtorEq, Int.reduceToNat]) | (refine Br.mk ?_ ?_ <;> intro h) | (refine BrN.mk (fun h => ?_) ?_) | (refine AltVC.mk ?_ ?_)
  refine LoopVC.frz 2 ?_
  repeat' first | ((first | refine Br.dec ?_ ?_ | refine Br.eqi ?_ ?_) <;> intro h <;> try (exfalso; omega)) | (simp (disch := first | omega | (simp only [vlen]; first | done | omega)) only [graD_eq, hK, vsh, ↓vAq, vBq, ↓reduceIte, Nat.reduceBEq, Nat.reduceEqDiff, Nat.reduceLT, Nat.reduceLeDiff, Nat.reduceAdd, Nat.reduceMul, Nat.reduceSub, reduceCtorEq, Int.reduceToNat]) | (refine Br.mk ?_ ?_ <;> intro h) | (refine BrN.mk (fun h => ?_) ?_) | (refine AltVC.mk ?_ ?_)
  refine LoopVC.flt 3 ?_
  repeat' first | ((first | refine Br.dec ?_ ?_ | refine Br.eqi ?_ ?_) <;> intro h <;> try (exfalso; omega)) | (simp (disch := first | omega | (simp only [vlen]; first | done | omega)) only [graD_eq, hK, vsh, ↓vAq, vBq, ↓reduceIte, Nat.reduceBEq, Nat.reduceEqDiff, Nat.reduceLT, Nat.reduceLeDiff, Nat.reduceAdd, Nat.reduceMul, Nat.reduceSub, reduceCtorEq, Int.reduceToNat]) | (refine Br.mk ?_ ?_ <;> intro h) | (refine BrN.mk (fun h => ?_) ?_) | (refine AltVC.mk ?_ ?_)
  refine LoopVC.fold 3 4 0 3 true ?_
  repeat' first | ((first | refine Br.dec ?_ ?_ | refine Br.eqi ?_ ?_) <;> intro h <;> try (exfalso; omega)) | (simp (disch := first | omega | (simp only [vlen]; first | done | omega)) only [graD_eq, hK, vsh, ↓vAq, vBq, ↓reduceIte, Nat.reduceBEq, Nat.reduceEqDiff, Nat.reduceLT, Nat.reduceLeDiff, Nat.reduceAdd, Nat.reduceMul, Nat.reduceSub, reduceCtorEq, Int.reduceToNat]) | (refine Br.mk ?_ ?_ <;> intro h) | (refine BrN.mk (fun h => ?_) ?_) | (refine AltVC.mk ?_ ?_)
  refine LoopVC.mk (X := Nat) (fun s => [(37, iv .i64 s), (6, .ref 5 1 0 K)]) (fun s => [(0, ⟨4, [[iv .i64 g.k, iv .i64 g.n, iv .i64 g.start, .sl 2 (tbl rulD g.rules)]], true, false, .fix⟩), (1, ⟨4, [[iv .i64 0, iv .i64 0, iv .i64 0, .nl]], true, false, .fix⟩), (4, shO g.k (g.n + 1 + s) (shL g s)), (5, ⟨1, i64s (tab K fun i => if i < s then g.n + 1 + i else 0), true, false, .arr⟩)]) (fun s => K - s) (fun s => s ≤ K) 0 (Nat.zero_le _) ?_ ?_
  · have e0 : tbl rulD (shL g 0) = [[D.v (.int .i64 0), D.sl 1 [[D.v (.int .i64 ((K : Int) + g.start + 1))]]]] := by rw [← hK]; rfl
    have e1 : g.n + 1 + ((0 : Nat) : Int) = g.n + 1 := by omega
    unfold shO
    (simp (disch := first | omega | (simp only [vlen]; first | done | omega)) only [Fits_u, Fits_m, Fits_nil, List.length_append, hK, e0, e1, vsh, ↓vAq, vBq, ↓reduceIte, Nat.reduceBEq, Nat.reduceEqDiff, Nat.reduceLT, Nat.reduceLeDiff, Nat.reduceAdd, Nat.reduceMul, Nat.reduceSub, reduceCtorEq, Int.reduceToNat] <;> (repeat' first | rfl | apply And.intro))
    all_goals first | rfl | (simp; done) | (simp [iv]; done) | trace_state
  · intro s hs
    have hsl := @shL_len g s
    by_cases hsk : s < K
    · have hfr := fresh_spec (K : Int) (g.n + 1 + s) (by omega) (shL g s)
      have har := arule_spec (K : Int) (g.n + 1 + s + 1) (shL g s) (by omega) (g.n + 1 + s) [(s : Int)]
      have e1 : g.n + 1 + ((s + 1 : Nat) : Int) = g.n + 1 + s + 1 := by omega
      unfold shO at hfr har ⊢
      repeat' first | ((first | refine Br.dec ?_ ?_ | refine Br.eqi ?_ ?_) <;> intro h <;> try (exfalso; omega)) | (simp (disch := first | omega | (simp only [vlen]; first | done | omega)) only [graD_eq, hK, vsh, ↓vAq, vBq, ↓reduceIte, Nat.reduceBEq, Nat.reduceEqDiff, Nat.reduceLT, Nat.reduceLeDiff, Nat.reduceAdd, Nat.reduceMul, Nat.reduceSub, reduceCtorEq, Int.reduceToNat]) | (refine Br.mk ?_ ?_ <;> intro h) | (refine BrN.mk (fun h => ?_) ?_) | (refine AltVC.mk ?_ ?_)
      refine CallVC.lendE [4] [.ptr 0 4 0 0] [⟨4, [[iv .i64 (K : Int), iv .i64 (g.n + 1 + s), iv .i64 0, .own false 2 (tbl rulD (shL g s))]], true, true, .fix⟩] hfr (by simp) (by rfl) (by (simp (disch := first | omega | (simp only [vlen]; first | done | omega)) only [vle0, ↓vAq, vBq, ↓reduceIte, Nat.reduceBEq, Nat.reduceEqDiff, Nat.reduceLT, Nat.reduceLeDiff, Nat.reduceAdd, Nat.reduceMul, Nat.reduceSub, reduceCtorEq, Int.reduceToNat] <;> (repeat' first | rfl | apply And.intro))) ?_
      rintro _ _ ⟨rfl, rfl⟩
      repeat' first | ((first | refine Br.dec ?_ ?_ | refine Br.eqi ?_ ?_) <;> intro h <;> try (exfalso; omega)) | (simp (disch := first | omega | (simp only [vlen]; first | done | omega)) only [hK, vsh, ↓vAq, vBq, ↓reduceIte, Nat.reduceBEq, Nat.reduceEqDiff, Nat.reduceLT, Nat.reduceLeDiff, Nat.reduceAdd, Nat.reduceMul, Nat.reduceSub, reduceCtorEq, Int.reduceToNat]) | (refine Br.mk ?_ ?_ <;> intro h) | (refine BrN.mk (fun h => ?_) ?_) | (refine AltVC.mk ?_ ?_)
      refine CallVC.frz 6 ?_
      repeat' first | ((first | refine Br.dec ?_ ?_ | refine Br.eqi ?_ ?_) <;> intro h <;> try (exfalso; omega)) | (simp (disch := first | omega | (simp only [vlen]; first | done | omega)) only [hK, vsh, ↓vAq, vBq, ↓reduceIte, Nat.reduceBEq, Nat.reduceEqDiff, Nat.reduceLT, Nat.reduceLeDiff, Nat.reduceAdd, Nat.reduceMul, Nat.reduceSub, reduceCtorEq, Int.reduceToNat]) | (refine Br.mk ?_ ?_ <;> intro h) | (refine BrN.mk (fun h => ?_) ?_) | (refine AltVC.mk ?_ ?_)
      refine CallVC.lendE [4] [iv .i64 (g.n + 1 + s), .sl 1 (i64s [(s : Int)]), .ptr 0 4 0 0] [⟨4, [[iv .i64 (K : Int), iv .i64 (g.n + 1 + s + 1), iv .i64 0, .own false 2 (tbl rulD (shL g s))]], true, true, .fix⟩] har (by simp) (by rfl) (by (simp (disch := first | omega | (simp only [vlen]; first | done | omega)) only [vle0, ↓vAq, vBq, ↓reduceIte, Nat.reduceBEq, Nat.reduceEqDiff, Nat.reduceLT, Nat.reduceLeDiff, Nat.reduceAdd, Nat.reduceMul, Nat.reduceSub, reduceCtorEq, Int.reduceToNat] <;> (repeat' first | rfl | apply And.intro))) ?_
      rintro _ _ ⟨rfl, rfl⟩
      repeat' first | ((first | refine Br.dec ?_ ?_ | refine Br.eqi ?_ ?_) <;> intro h <;> try (exfalso; omega)) | (simp (disch := first | omega | (simp only [vlen]; first | done | omega)) only [hK, vsh, ↓vAq, vBq, ↓reduceIte, Nat.reduceBEq, Nat.reduceEqDiff, Nat.reduceLT, Nat.reduceLeDiff, Nat.reduceAdd, Nat.reduceMul, Nat.reduceSub, reduceCtorEq, Int.reduceToNat]) | (refine Br.mk ?_ ?_ <;> intro h) | (refine BrN.mk (fun h => ?_) ?_) | (refine AltVC.mk ?_ ?_)
      refine loopK.mk (s + 1) (by simp (disch := first | omega | (simp only [vlen]; first | done | omega)) only [vsh, ↓vAq, vBq, ↓reduceIte, Nat.reduceBEq, Nat.reduceEqDiff, Nat.reduceLT, Nat.reduceLeDiff, Nat.reduceAdd, Nat.reduceMul, Nat.reduceSub, reduceCtorEq, Int.reduceToNat]) (by show s + 1 ≤ K; omega) (by show K - (s + 1) < K - s; omega) ?_
      rw [shL_succ, e1]
      (simp (disch := first | omega | (simp only [vlen]; first | done | omega)) only [Fits_u, Fits_m, Fits_nil, List.length_append, hK, vsh, ↓vAq, vBq, ↓reduceIte, Nat.reduceBEq, Nat.reduceEqDiff, Nat.reduceLT, Nat.reduceLeDiff, Nat.reduceAdd, Nat.reduceMul, Nat.reduceSub, reduceCtorEq, Int.reduceToNat] <;> (repeat' first | rfl | apply And.intro))
      refine obTab fun j hj => ?_
      by_cases e : j = s
      · subst e; rw [if_pos rfl, if_pos (by omega)]
      · rw [if_neg e]
        by_cases e2 : j < s
        · rw [if_pos e2, if_pos (by omega)]
        · rw [if_neg e2, if_neg (by omega)]
    · have hse : s = K := by omega
      subst hse
      have hlq : shL g s = shQ g 0 := by unfold shL shQ letS; rw [hK, Int.toNat_natCast]; simp [shR]
      have hnq : g.n + 1 + (s : Int) = n0S g := by unfold n0S; omega
      have hlt : (tab s fun i => if i < s then g.n + 1 + (i : Int) else 0) = tab s fun i => g.n + 1 + (i : Int) := tab_ext fun j hj => if_pos hj
      rw [hlq, hnq, hlt]
      unfold shO
      repeat' first | ((first | refine Br.dec ?_ ?_ | refine Br.eqi ?_ ?_) <;> intro h <;> try (exfalso; omega)) | (simp (disch := first | omega | (simp only [vlen]; first | done | omega)) only [graD_eq, hK, vsh, ↓vAq, vBq, ↓reduceIte, Nat.reduceBEq, Nat.reduceEqDiff, Nat.reduceLT, Nat.reduceLeDiff, Nat.reduceAdd, Nat.reduceMul, Nat.reduceSub, reduceCtorEq, Int.reduceToNat]) | (refine Br.mk ?_ ?_ <;> intro h) | (refine BrN.mk (fun h => ?_) ?_) | (refine AltVC.mk ?_ ?_)
      refine LoopVC.frz 5 ?_
      repeat' first | ((first | refine Br.dec ?_ ?_ | refine Br.eqi ?_ ?_) <;> intro h <;> try (exfalso; omega)) | (simp (disch := first | omega | (simp only [vlen]; first | done | omega)) only [graD_eq, hK, vsh, ↓vAq, vBq, ↓reduceIte, Nat.reduceBEq, Nat.reduceEqDiff, Nat.reduceLT, Nat.reduceLeDiff, Nat.reduceAdd, Nat.reduceMul, Nat.reduceSub, reduceCtorEq, Int.reduceToNat]) | (refine Br.mk ?_ ?_ <;> intro h) | (refine BrN.mk (fun h => ?_) ?_) | (refine AltVC.mk ?_ ?_)
      refine LoopVC.mk (X := Nat) (fun q => [(57, iv .i64 q)]) (fun q => [(0, ⟨4, [[iv .i64 (s : Int), iv .i64 g.n, iv .i64 g.start, .sl 2 (tbl rulD g.rules)]], true, false, .fix⟩), (1, ⟨4, [[iv .i64 0, iv .i64 0, iv .i64 0, .nl]], true, false, .fix⟩), (4, shO s (shN (g.rules.take q) (n0S g)) (shQ g q))]) (fun q => g.rules.length - q) (fun q => q ≤ g.rules.length) 0 (Nat.zero_le _) ?_ ?_
      · unfold shO
        (simp (disch := first | omega | (simp only [vlen]; first | done | omega)) only [Fits_u, Fits_m, Fits_nil, List.length_append, hK, vsh, ↓vAq, vBq, ↓reduceIte, Nat.reduceBEq, Nat.reduceEqDiff, Nat.reduceLT, Nat.reduceLeDiff, Nat.reduceAdd, Nat.reduceMul, Nat.reduceSub, reduceCtorEq, Int.reduceToNat] <;> (repeat' first | rfl | apply And.intro))
        all_goals first | rfl | trace_state
      · intro q hq
        by_cases hql : q < g.rules.length
        · have hmr := getD_mem' (l := g.rules) (i := q) hql
          have hleft := hv.left _ hmr
          have hlong := hv.long _ hmr
          have hright := hv.right _ hmr
          obtain ⟨r, hr⟩ : ∃ r, g.rules.getD q default = r := ⟨_, rfl⟩
          rw [hr] at hleft hlong hright
          unfold shO
          have hqs : g.rules.take (q + 1) = g.rules.take q ++ [r] := by rw [take_succ_getD hql default, hr]
          obtain ⟨N0, hN0⟩ : ∃ N0, shN (g.rules.take q) (n0S g) = N0 := ⟨_, rfl⟩
          have hN1 : shN (g.rules.take (q + 1)) (n0S g) = N0 + ((r.right.length - 2 : Nat) : Int) := by rw [hqs, shN_snoc, hN0]
          have hL1 : shQ g (q + 1) = shQ g q ++ binS g.k (r.right.map (nmS g)) (r.left + 1) N0 := by unfold shQ; rw [hqs, shR_snoc, hN0]; simp
          have hNb : 0 ≤ N0 ∧ N0 ≤ 1000 := by
            have h1 := @shN_le (g.rules.take q) (n0S g)
            have h2 := @shN_top (g.rules.take q) (n0S g) fun x hx => hv.long x (List.mem_of_mem_take hx)
            have h3 : (g.rules.take q).length ≤ 10 := by rw [List.length_take]; omega
            rw [hN0] at h1 h2
            unfold n0S at h1 h2
            omega
          have hLb : (shQ g (q + 1)).length ≤ 1000 := by
            have h2 := @shR_len g (g.rules.take (q + 1)) (n0S g) fun x hx => hv.long x (List.mem_of_mem_take hx)
            have h3 : (g.rules.take (q + 1)).length ≤ 10 := by rw [List.length_take]; omega
            unfold shQ letS
            simp
            omega
          rw [hN0]
          repeat' first | ((first | refine Br.dec ?_ ?_ | refine Br.eqi ?_ ?_) <;> intro h <;> try (exfalso; omega)) | (simp (disch := first | omega | (simp only [vlen]; first | done | omega)) only [graD_eq, hr, vsh, ↓vAq, vBq, ↓reduceIte, Nat.reduceBEq, Nat.reduceEqDiff, Nat.reduceLT, Nat.reduceLeDiff, Nat.reduceAdd, Nat.reduceMul, Nat.reduceSub, reduceCtorEq, Int.reduceToNat]) | (refine Br.mk ?_ ?_ <;> intro h) | (refine BrN.mk (fun h => ?_) ?_) | (refine AltVC.mk ?_ ?_)
          refine LoopVC.mk (X := Nat) (fun p => [(10, .ref 7 1 0 p), (64, iv .i64 p)]) (fun p => [(0, ⟨4, [[iv .i64 (s : Int), iv .i64 g.n, iv .i64 g.start, .sl 2 (tbl rulD g.rules)]], true, false, .fix⟩), (1, ⟨4, [[iv .i64 0, iv .i64 0, iv .i64 0, .nl]], true, false, .fix⟩), (4, shO s N0 (shQ g q)), (6, ⟨2, [[iv .i64 r.left, .sl 1 (i64s r.right)]], true, false, .fix⟩), (7, ⟨1, i64s ((r.right.take p).map (nmS g)), true, false, .arr⟩)]) (fun p => r.right.length - p) (fun p => p ≤ r.right.length) 0 (Nat.zero_le _) ?_ ?_
          · unfold shO
            (simp (disch := first | omega | (simp only [vlen]; first | done | omega)) only [Fits_u, Fits_m, Fits_nil, List.length_append, hr, vsh, ↓vAq, vBq, ↓reduceIte, Nat.reduceBEq, Nat.reduceEqDiff, Nat.reduceLT, Nat.reduceLeDiff, Nat.reduceAdd, Nat.reduceMul, Nat.reduceSub, reduceCtorEq, Int.reduceToNat] <;> (repeat' first | rfl | apply And.intro))
            all_goals first | rfl | trace_state
          · intro p hp
            have hpl : ((r.right.take p).map (nmS g)).length = p := by simp; omega
            unfold shO
            by_cases hpr : p < r.right.length
            · have hx := hright _ (by rw [List.getD_eq_getElem?_getD, List.getElem?_eq_getElem hpr]; exact List.getElem_mem hpr : r.right.getD p 0 ∈ r.right)
              obtain ⟨x, hxe⟩ : ∃ x, r.right.getD p 0 = x := ⟨_, rfl⟩
              rw [hxe] at hx
              have happ : (r.right.take (p + 1)).map (nmS g) = (r.right.take p).map (nmS g) ++ [nmS g x] := by rw [take_succ_getD hpr 0, List.map_append, hxe]; rfl
              by_cases hxk : x < g.k
              · obtain ⟨xn, rfl⟩ : ∃ xn : Nat, x = xn := ⟨x.toNat, by omega⟩
                have hnm : nmS g (xn : Int) = s + (g.n + 1 + xn) := by unfold nmS; rw [if_pos hxk, hK]
                repeat' first | ((first | refine Br.dec ?_ ?_ | refine Br.eqi ?_ ?_) <;> intro h <;> try (exfalso; omega)) | (simp (disch := first | omega | (simp only [vlen]; first | done | omega)) only [hr, hK, hxe, vsh, ↓vAq, vBq, ↓reduceIte, Nat.reduceBEq, Nat.reduceEqDiff, Nat.reduceLT, Nat.reduceLeDiff, Nat.reduceAdd, Nat.reduceMul, Nat.reduceSub, reduceCtorEq, Int.reduceToNat]) | (refine Br.mk ?_ ?_ <;> intro h) | (refine BrN.mk (fun h => ?_) ?_) | (refine AltVC.mk ?_ ?_)
                refine loopK.mk (p + 1) (by simp (disch := first | omega | (simp only [vlen]; first | done | omega)) only [vsh, ↓vAq, vBq, ↓reduceIte, Nat.reduceBEq, Nat.reduceEqDiff, Nat.reduceLT, Nat.reduceLeDiff, Nat.reduceAdd, Nat.reduceMul, Nat.reduceSub, reduceCtorEq, Int.reduceToNat]) (by show p + 1 ≤ _; omega) (by show r.right.length - (p + 1) < r.right.length - p; omega) ?_
                rw [happ, hnm]
                (simp (disch := first | omega | (simp only [vlen]; first | done | omega)) only [Fits_u, Fits_m, Fits_nil, List.length_append, hr, vsh, ↓vAq, vBq, ↓reduceIte, Nat.reduceBEq, Nat.reduceEqDiff, Nat.reduceLT, Nat.reduceLeDiff, Nat.reduceAdd, Nat.reduceMul, Nat.reduceSub, reduceCtorEq, Int.reduceToNat] <;> (repeat' first | rfl | apply And.intro))
                all_goals trace_state
              · have hnm : nmS g x = x + 1 := by unfold nmS; rw [if_neg hxk]
                repeat' first | ((first | refine Br.dec ?_ ?_ | refine Br.eqi ?_ ?_) <;> intro h <;> try (exfalso; omega)) | (simp (disch := first | omega | (simp only [vlen]; first | done | omega)) only [hr, hK, hxe, vsh, ↓vAq, vBq, ↓reduceIte, Nat.reduceBEq, Nat.reduceEqDiff, Nat.reduceLT, Nat.reduceLeDiff, Nat.reduceAdd, Nat.reduceMul, Nat.reduceSub, reduceCtorEq, Int.reduceToNat]) | (refine Br.mk ?_ ?_ <;> intro h) | (refine BrN.mk (fun h => ?_) ?_) | (refine AltVC.mk ?_ ?_)
                refine loopK.mk (p + 1) (by simp (disch := first | omega | (simp only [vlen]; first | done | omega)) only [vsh, ↓vAq, vBq, ↓reduceIte, Nat.reduceBEq, Nat.reduceEqDiff, Nat.reduceLT, Nat.reduceLeDiff, Nat.reduceAdd, Nat.reduceMul, Nat.reduceSub, reduceCtorEq, Int.reduceToNat]) (by show p + 1 ≤ _; omega) (by show r.right.length - (p + 1) < r.right.length - p; omega) ?_
                rw [happ, hnm]
                (simp (disch := first | omega | (simp only [vlen]; first | done | omega)) only [Fits_u, Fits_m, Fits_nil, List.length_append, hr, vsh, ↓vAq, vBq, ↓reduceIte, Nat.reduceBEq, Nat.reduceEqDiff, Nat.reduceLT, Nat.reduceLeDiff, Nat.reduceAdd, Nat.reduceMul, Nat.reduceSub, reduceCtorEq, Int.reduceToNat] <;> (repeat' first | rfl | apply And.intro))
                all_goals trace_state
            · have hpe : p = r.right.length := by omega
              rw [hpe, List.take_length]
              obtain ⟨ns, hns⟩ : ∃ ns, r.right.map (nmS g) = ns := ⟨_, rfl⟩
              have hnl : ns.length = r.right.length := by rw [← hns, List.length_map]
              rw [hns] at hL1 ⊢
              repeat' first | ((first | refine Br.dec ?_ ?_ | refine Br.eqi ?_ ?_) <;> intro h <;> try (exfalso; omega)) | (simp (disch := first | omega | (simp only [vlen]; first | done | omega)) only [hr, hK, vsh, ↓vAq, vBq, ↓reduceIte, Nat.reduceBEq, Nat.reduceEqDiff, Nat.reduceLT, Nat.reduceLeDiff, Nat.reduceAdd, Nat.reduceMul, Nat.reduceSub, reduceCtorEq, Int.reduceToNat]) | (refine Br.mk ?_ ?_ <;> intro h) | (refine BrN.mk (fun h => ?_) ?_) | (refine AltVC.mk ?_ ?_)
              refine LoopVC.mk (X := Nat × Int × Int × List Rule) (fun z => [(13, iv .i64 z.2.1), (10, .ref 7 1 z.1 (r.right.length - z.1))]) (fun z => [(0, ⟨4, [[iv .i64 (s : Int), iv .i64 g.n, iv .i64 g.start, .sl 2 (tbl rulD g.rules)]], true, false, .fix⟩), (1, ⟨4, [[iv .i64 0, iv .i64 0, iv .i64 0, .nl]], true, false, .fix⟩), (4, shO s z.2.2.1 z.2.2.2), (7, ⟨1, i64s ns, true, false, .arr⟩)]) (fun z => r.right.length - z.1)
                (fun z => z.1 ≤ r.right.length ∧ (0 ≤ z.2.1 ∧ z.2.1 ≤ 2000) ∧ (0 ≤ z.2.2.1 ∧ z.2.2.1 + ((r.right.length - z.1 - 2 : Nat) : Int) = N0 + ((r.right.length - 2 : Nat) : Int)) ∧ z.2.2.2 ++ binS g.k (ns.drop z.1) z.2.1 z.2.2.1 = shQ g (q + 1)) (0, r.left + 1, N0, shQ g q) ⟨Nat.zero_le _, ⟨by show 0 ≤ r.left + 1; omega, by show r.left + 1 ≤ 2000; omega⟩, ⟨hNb.1, rfl⟩, by show shQ g q ++ binS g.k (ns.drop 0) (r.left + 1) N0 = _; rw [List.drop_zero]; exact hL1.symm⟩ ?_ ?_
              · unfold shO
                (simp (disch := first | omega | (simp only [vlen]; first | done | omega)) only [Fits_u, Fits_m, Fits_nil, List.length_append, hr, vsh, ↓vAq, vBq, ↓reduceIte, Nat.reduceBEq, Nat.reduceEqDiff, Nat.reduceLT, Nat.reduceLeDiff, Nat.reduceAdd, Nat.reduceMul, Nat.reduceSub, reduceCtorEq, Int.reduceToNat] <;> (repeat' first | rfl | apply And.intro))
                all_goals first | rfl | trace_state
              · rintro ⟨off, lf, N, L⟩ ⟨z1, ⟨z2, z2'⟩, ⟨z3, z3'⟩, z4⟩
                simp only at z1 z2 z2' z3 z3' z4 ⊢
                unfold shO
                have hLL : L.length ≤ (shQ g (q + 1)).length := by rw [← z4, List.length_append]; omega
                have hdl : (ns.drop off).length = r.right.length - off := by rw [List.length_drop, hnl]
                by_cases hbig : 2 < r.right.length - off
                · have hb2 := binS_big (k := g.k) (l := ns.drop off) (L := lf) (N := N) (by omega)
                  rw [List.drop_drop] at hb2
                  have hg0 : (ns.drop off).getD 0 0 = ns.getD off 0 := by simp [List.getD_eq_getElem?_getD]
                  obtain ⟨y, hy⟩ : ∃ y, ns.getD off 0 = y := ⟨_, rfl⟩
                  rw [hg0, hy, hK] at hb2
                  rw [hK, hb2] at z4
                  have hfr := fresh_spec (s : Int) N (by omega) L
                  have har := arule_spec (s : Int) (N + 1) L (by omega) lf [y, (s : Int) + N]
                  unfold shO at hfr har
                  repeat' first | ((first | refine Br.dec ?_ ?_ | refine Br.eqi ?_ ?_) <;> intro h <;> try (exfalso; omega)) | (simp (disch := first | omega | (simp only [vlen]; first | done | omega)) only [hr, hK, vsh, ↓vAq, vBq, ↓reduceIte, Nat.reduceBEq, Nat.reduceEqDiff, Nat.reduceLT, Nat.reduceLeDiff, Nat.reduceAdd, Nat.reduceMul, Nat.reduceSub, reduceCtorEq, Int.reduceToNat]) | (refine Br.mk ?_ ?_ <;> intro h) | (refine BrN.mk (fun h => ?_) ?_) | (refine AltVC.mk ?_ ?_)
                  refine CallVC.lendE [4] [.ptr 0 4 0 0] [⟨4, [[iv .i64 (s : Int), iv .i64 N, iv .i64 0, .own false 2 (tbl rulD L)]], true, true, .fix⟩] hfr (by simp) (by rfl) (by (simp (disch := first | omega | (simp only [vlen]; first | done | omega)) only [vle0, ↓vAq, vBq, ↓reduceIte, Nat.reduceBEq, Nat.reduceEqDiff, Nat.reduceLT, Nat.reduceLeDiff, Nat.reduceAdd, Nat.reduceMul, Nat.reduceSub, reduceCtorEq, Int.reduceToNat] <;> (repeat' first | rfl | apply And.intro))) ?_
                  rintro _ _ ⟨rfl, rfl⟩
                  repeat' first | ((first | refine Br.dec ?_ ?_ | refine Br.eqi ?_ ?_) <;> intro h <;> try (exfalso; omega)) | (simp (disch := first | omega | (simp only [vlen]; first | done | omega)) only [hK, hy, vsh, ↓vAq, vBq, ↓reduceIte, Nat.reduceBEq, Nat.reduceEqDiff, Nat.reduceLT, Nat.reduceLeDiff, Nat.reduceAdd, Nat.reduceMul, Nat.reduceSub, reduceCtorEq, Int.reduceToNat]) | (refine Br.mk ?_ ?_ <;> intro h) | (refine BrN.mk (fun h => ?_) ?_) | (refine AltVC.mk ?_ ?_)
                  refine CallVC.frz 8 ?_
                  repeat' first | ((first | refine Br.dec ?_ ?_ | refine Br.eqi ?_ ?_) <;> intro h <;> try (exfalso; omega)) | (simp (disch := first | omega | (simp only [vlen]; first | done | omega)) only [hK, vsh, ↓vAq, vBq, ↓reduceIte, Nat.reduceBEq, Nat.reduceEqDiff, Nat.reduceLT, Nat.reduceLeDiff, Nat.reduceAdd, Nat.reduceMul, Nat.reduceSub, reduceCtorEq, Int.reduceToNat]) | (refine Br.mk ?_ ?_ <;> intro h) | (refine BrN.mk (fun h => ?_) ?_) | (refine AltVC.mk ?_ ?_)
                  refine CallVC.lendE [4] [iv .i64 lf, .sl 1 (i64s [y, (s : Int) + N]), .ptr 0 4 0 0] [⟨4, [[iv .i64 (s : Int), iv .i64 (N + 1), iv .i64 0, .own false 2 (tbl rulD L)]], true, true, .fix⟩] har (by simp) (by rfl) (by (simp (disch := first | omega | (simp only [vlen]; first | done | omega)) only [vle0, ↓vAq, vBq, ↓reduceIte, Nat.reduceBEq, Nat.reduceEqDiff, Nat.reduceLT, Nat.reduceLeDiff, Nat.reduceAdd, Nat.reduceMul, Nat.reduceSub, reduceCtorEq, Int.reduceToNat] <;> (repeat' first | rfl | apply And.intro))) ?_
                  rintro _ _ ⟨rfl, rfl⟩
                  repeat' first | ((first | refine Br.dec ?_ ?_ | refine Br.eqi ?_ ?_) <;> intro h <;> try (exfalso; omega)) | (simp (disch := first | omega | (simp only [vlen]; first | done | omega)) only [hK, vsh, ↓vAq, vBq, ↓reduceIte, Nat.reduceBEq, Nat.reduceEqDiff, Nat.reduceLT, Nat.reduceLeDiff, Nat.reduceAdd, Nat.reduceMul, Nat.reduceSub, reduceCtorEq, Int.reduceToNat]) | (refine Br.mk ?_ ?_ <;> intro h) | (refine BrN.mk (fun h => ?_) ?_) | (refine AltVC.mk ?_ ?_)
                  refine loopK.mk (off + 1, N, N + 1, L ++ [⟨lf, [y, (s : Int) + N]⟩]) (by simp (disch := first | omega | (simp only [vlen]; first | done | omega)) only [vsh, ↓vAq, vBq, ↓reduceIte, Nat.reduceBEq, Nat.reduceEqDiff, Nat.reduceLT, Nat.reduceLeDiff, Nat.reduceAdd, Nat.reduceMul, Nat.reduceSub, reduceCtorEq, Int.reduceToNat]) ⟨by show off + 1 ≤ _; omega, ⟨z3, by show N ≤ 2000; omega⟩, ⟨by show 0 ≤ N + 1; omega, by show N + 1 + ((r.right.length - (off + 1) - 2 : Nat) : Int) = _; omega⟩, by simp only [List.append_assoc]; exact z4⟩ (by show r.right.length - (off + 1) < r.right.length - off; omega) ?_
                  (simp (disch := first | omega | (simp only [vlen]; first | done | omega)) only [Fits_u, Fits_m, Fits_nil, List.length_append, hnl, vsh, ↓vAq, vBq, ↓reduceIte, Nat.reduceBEq, Nat.reduceEqDiff, Nat.reduceLT, Nat.reduceLeDiff, Nat.reduceAdd, Nat.reduceMul, Nat.reduceSub, reduceCtorEq, Int.reduceToNat] <;> (repeat' first | rfl | apply And.intro))
                  all_goals trace_state
                · have hb2 := binS_small (k := g.k) (l := ns.drop off) (L := lf) (N := N) (by omega)
                  rw [hb2] at z4
                  have har := arule_spec (s : Int) N L (by omega) lf (ns.drop off)
                  have hNe : N = shN (g.rules.take (q + 1)) (n0S g) := by rw [hN1]; omega
                  unfold shO at har
                  repeat' first | ((first | refine Br.dec ?_ ?_ | refine Br.eqi ?_ ?_) <;> intro h <;> try (exfalso; omega)) | (simp (disch := first | omega | (simp only [vlen]; first | done | omega)) only [hr, hK, vsh, ↓vAq, vBq, ↓reduceIte, Nat.reduceBEq, Nat.reduceEqDiff, Nat.reduceLT, Nat.reduceLeDiff, Nat.reduceAdd, Nat.reduceMul, Nat.reduceSub, reduceCtorEq, Int.reduceToNat]) | (refine Br.mk ?_ ?_ <;> intro h) | (refine BrN.mk (fun h => ?_) ?_) | (refine AltVC.mk ?_ ?_)
                  refine CallVC.frz 7 ?_
                  repeat' first | ((first | refine Br.dec ?_ ?_ | refine Br.eqi ?_ ?_) <;> intro h <;> try (exfalso; omega)) | (simp (disch := first | omega | (simp only [vlen]; first | done | omega)) only [hK, vsh, ↓vAq, vBq, ↓reduceIte, Nat.reduceBEq, Nat.reduceEqDiff, Nat.reduceLT, Nat.reduceLeDiff, Nat.reduceAdd, Nat.reduceMul, Nat.reduceSub, reduceCtorEq, Int.reduceToNat]) | (refine Br.mk ?_ ?_ <;> intro h) | (refine BrN.mk (fun h => ?_) ?_) | (refine AltVC.mk ?_ ?_)
                  refine CallVC.lendE [4] [iv .i64 lf, .sl 1 (i64s (ns.drop off)), .ptr 0 4 0 0] [⟨4, [[iv .i64 (s : Int), iv .i64 N, iv .i64 0, .own false 2 (tbl rulD L)]], true, true, .fix⟩] har (by simp) (by rfl) (by (simp (disch := first | omega | (simp only [vlen]; first | done | omega)) only [vle0, ↓vAq, vBq, ↓reduceIte, Nat.reduceBEq, Nat.reduceEqDiff, Nat.reduceLT, Nat.reduceLeDiff, Nat.reduceAdd, Nat.reduceMul, Nat.reduceSub, reduceCtorEq, Int.reduceToNat] <;> (repeat' first | rfl | apply And.intro))) ?_
                  rintro _ _ ⟨rfl, rfl⟩
                  rw [z4, hNe]
                  repeat' first | ((first | refine Br.dec ?_ ?_ | refine Br.eqi ?_ ?_) <;> intro h <;> try (exfalso; omega)) | (simp (disch := first | omega | (simp only [vlen]; first | done | omega)) only [hK, vsh, ↓vAq, vBq, ↓reduceIte, Nat.reduceBEq, Nat.reduceEqDiff, Nat.reduceLT, Nat.reduceLeDiff, Nat.reduceAdd, Nat.reduceMul, Nat.reduceSub, reduceCtorEq, Int.reduceToNat]) | (refine Br.mk ?_ ?_ <;> intro h) | (refine BrN.mk (fun h => ?_) ?_) | (refine AltVC.mk ?_ ?_)
                  refine loopK.mk (q + 1) (by simp (disch := first | omega | (simp only [vlen]; first | done | omega)) only [vsh, ↓vAq, vBq, ↓reduceIte, Nat.reduceBEq, Nat.reduceEqDiff, Nat.reduceLT, Nat.reduceLeDiff, Nat.reduceAdd, Nat.reduceMul, Nat.reduceSub, reduceCtorEq, Int.reduceToNat]) (by show q + 1 ≤ _; omega) (by show g.rules.length - (q + 1) < g.rules.length - q; omega) ?_
                  (simp (disch := first | omega | (simp only [vlen]; first | done | omega)) only [Fits_u, Fits_m, Fits_nil, List.length_append, hK, vsh, ↓vAq, vBq, ↓reduceIte, Nat.reduceBEq, Nat.reduceEqDiff, Nat.reduceLT, Nat.reduceLeDiff, Nat.reduceAdd, Nat.reduceMul, Nat.reduceSub, reduceCtorEq, Int.reduceToNat] <;> (repeat' first | rfl | apply And.intro))
                  all_goals trace_state
        · have hqe : q = g.rules.length := by omega
          have e1 : shQ g q = (shG g).rules := by unfold shQ; rw [hqe, List.take_length]; rfl
          have e2 : shN (g.rules.take q) (n0S g) = (shG g).n := by rw [hqe, List.take_length]; rfl
          have e3 : (shG g).k = s := hK
          have e4 : (shG g).start = 0 := rfl
          rw [e1, e2]
          unfold shO
          repeat' first | ((first | refine Br.dec ?_ ?_ | refine Br.eqi ?_ ?_) <;> intro h <;> try (exfalso; omega)) | (simp (disch := first | omega | (simp only [vlen]; first | done | omega)) only [graD_eq, hK, vsh, ↓vAq, vBq, ↓reduceIte, Nat.reduceBEq, Nat.reduceEqDiff, Nat.reduceLT, Nat.reduceLeDiff, Nat.reduceAdd, Nat.reduceMul, Nat.reduceSub, reduceCtorEq, Int.reduceToNat]) | (refine Br.mk ?_ ?_ <;> intro h) | (refine BrN.mk (fun h => ?_) ?_) | (refine AltVC.mk ?_ ?_)
          refine GhoV.frz 4 ?_
          repeat' first | ((first | refine Br.dec ?_ ?_ | refine Br.eqi ?_ ?_) <;> intro h <;> try (exfalso; omega)) | (simp (disch := first | omega | (simp only [vlen]; first | done | omega)) only [graD_eq, hK, vsh, ↓vAq, vBq, ↓reduceIte, Nat.reduceBEq, Nat.reduceEqDiff, Nat.reduceLT, Nat.reduceLeDiff, Nat.reduceAdd, Nat.reduceMul, Nat.reduceSub, reduceCtorEq, Int.reduceToNat]) | (refine Br.mk ?_ ?_ <;> intro h) | (refine BrN.mk (fun h => ?_) ?_) | (refine AltVC.mk ?_ ?_)
          refine GhoV.go ?_
          repeat' first | ((first | refine Br.dec ?_ ?_ | refine Br.eqi ?_ ?_) <;> intro h <;> try (exfalso; omega)) | (simp (disch := first | omega | (simp only [vlen]; first | done | omega)) only [graD_eq, hK, vsh, ↓vAq, vBq, ↓reduceIte, Nat.reduceBEq, Nat.reduceEqDiff, Nat.reduceLT, Nat.reduceLeDiff, Nat.reduceAdd, Nat.reduceMul, Nat.reduceSub, reduceCtorEq, Int.reduceToNat]) | (refine Br.mk ?_ ?_ <;> intro h) | (refine BrN.mk (fun h => ?_) ?_) | (refine AltVC.mk ?_ ?_)
          exact fin_mk (by rw [e3, e4])
end Go.Proofs.Ytplkkacfjepgpaa
