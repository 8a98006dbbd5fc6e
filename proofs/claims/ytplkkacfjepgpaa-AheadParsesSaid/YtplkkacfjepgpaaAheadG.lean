/-
  coppicerref: Gone, FollowOf; the law AheadFollows.
-/
import Derived.Test.YtplkkacfjepgpaaAheadC
set_option linter.unusedVariables false
set_option linter.unusedSimpArgs false
set_option linter.unnecessarySimpa false
namespace Go.Proofs.Ytplkkacfjepgpaa
open Go.Dm
set_option linter.defProp false
set_option maxRecDepth 10000 in
set_option maxHeartbeats 4000000 in
theorem gone_spec (g : Grammar) (hv : Valid g) (l : List Int) (hl : l.length ≤ 1000) (hs : ∀ y, y ∈ l → 0 ≤ y ∧ y < g.k + g.n) : Dm.Spec Try.prog 42 [.ag (graD g), .sl 1 (i64s l)] (· = .v (.bool (emp g (nameSet g true) l))) := by
  refine spec_of_vc mixed Try.func42 c42 (by rw [show Try.f42.ntmps = _ from Try.ntmps42]; simp) ?_
  unfold m42 r42
  have hk := hv.k
  have hn := hv.n
  have hp : 2 ^ g.n.toNat ≤ 32 := Nat.le_trans (Nat.pow_le_pow_right (show 0 < 2 by omega) (show g.n.toNat ≤ 5 by omega)) (by decide)
  have hN : nameSet g true < 2 ^ g.n.toNat := setOf_lt
  have hnames := names_spec g hv true
  generalize hNe : nameSet g true = N at hN hnames ⊢
  repeat' first | ((first | refine Br.dec ?_ ?_ | refine Br.eqi ?_ ?_) <;> intro h <;> try (exfalso; omega)) | (simp (disch := (first | omega | (simp only [vlen]; first | done | omega))) only [vam, ↓vAq, vBq, ↓reduceIte, Nat.reduceBEq, Nat.reduceEqDiff, Nat.reduceLT, Nat.reduceLeDiff, Nat.reduceAdd, Nat.reduceMul, Nat.reduceSub, reduceCtorEq, Int.reduceToNat]) | (refine Br.mk ?_ ?_ <;> intro h) | (refine BrN.mk (fun h => ?_) ?_) | (refine AltVC.mk ?_ ?_)
  refine CallVC.eq hnames ?_
  repeat' first | ((first | refine Br.dec ?_ ?_ | refine Br.eqi ?_ ?_) <;> intro h <;> try (exfalso; omega)) | (simp (disch := (first | omega | (simp only [vlen]; first | done | omega))) only [vam, ↓vAq, vBq, ↓reduceIte, Nat.reduceBEq, Nat.reduceEqDiff, Nat.reduceLT, Nat.reduceLeDiff, Nat.reduceAdd, Nat.reduceMul, Nat.reduceSub, reduceCtorEq, Int.reduceToNat]) | (refine Br.mk ?_ ?_ <;> intro h) | (refine BrN.mk (fun h => ?_) ?_) | (refine AltVC.mk ?_ ?_)
  refine LoopVC.mk (X := Nat) (fun i => [(12, iv .i64 i)]) (fun _ => [(0, gOb g)]) (fun i => l.length - i) (fun i => i ≤ l.length ∧ emp g N l = emp g N (l.drop i)) 0 ⟨by simp, by simp⟩ ?_ ?_
  · (simp (disch := (first | omega | (simp only [vlen]; first | done | omega))) only [Fits_u, Fits_m, Fits_nil, List.length_append, vam, ↓vAq, vBq, ↓reduceIte, Nat.reduceBEq, Nat.reduceEqDiff, Nat.reduceLT, Nat.reduceLeDiff, Nat.reduceAdd, Nat.reduceMul, Nat.reduceSub, reduceCtorEq, Int.reduceToNat] <;> (repeat' first | rfl | apply And.intro))
  · rintro i ⟨h1, h2⟩
    by_cases hi : i < l.length
    · have hx := hs _ (getD_mem (d := 0) hi)
      rw [drop_cons hi, emp_cons] at h2
      have hbit : ¬ l.getD i 0 < g.k → Dm.Spec Try.prog 34 [iv .u32 N, iv .i64 (l.getD i 0 - g.k)] (· = .v (.bool (N.testBit (l.getD i 0 - g.k).toNat))) := fun h => by
        have := bit_spec N (l.getD i 0 - g.k) (by omega) (by simp only [ok64]; omega)
        rw [decide_eq_true (by omega), Bool.true_and] at this
        exact this
      repeat' first | ((first | refine Br.dec ?_ ?_ | refine Br.eqi ?_ ?_) <;> intro h <;> try (exfalso; omega)) | (simp (disch := (first | omega | (simp only [vlen]; first | done | omega))) only [vam, ↓vAq, vBq, ↓reduceIte, Nat.reduceBEq, Nat.reduceEqDiff, Nat.reduceLT, Nat.reduceLeDiff, Nat.reduceAdd, Nat.reduceMul, Nat.reduceSub, reduceCtorEq, Int.reduceToNat]) | (refine Br.mk ?_ ?_ <;> intro h) | (refine BrN.mk (fun h => ?_) ?_) | (refine AltVC.mk ?_ ?_)
      · exact fin_mk (vbEq (by rw [h2, if_pos (by assumption)]))
      · rw [if_neg (by assumption)] at h2
        refine CallVC.eq (hbit (by assumption)) ?_
        repeat' first | ((first | refine Br.dec ?_ ?_ | refine Br.eqi ?_ ?_) <;> intro h <;> try (exfalso; omega)) | (simp (disch := (first | omega | (simp only [vlen]; first | done | omega))) only [vam, ↓vAq, vBq, ↓reduceIte, Nat.reduceBEq, Nat.reduceEqDiff, Nat.reduceLT, Nat.reduceLeDiff, Nat.reduceAdd, Nat.reduceMul, Nat.reduceSub, reduceCtorEq, Int.reduceToNat]) | (refine Br.mk ?_ ?_ <;> intro h) | (refine BrN.mk (fun h => ?_) ?_) | (refine AltVC.mk ?_ ?_)
        · have hb : N.testBit (l.getD i 0 - g.k).toNat = true := by assumption
          rw [hb, Bool.true_and] at h2
          exact loopK.mk (i + 1) (by simp (disch := (first | omega | (simp only [vlen]; first | done | omega))) only [↓vAq, vBq, ↓reduceIte, Nat.reduceBEq, Nat.reduceEqDiff, Nat.reduceLT, Nat.reduceLeDiff, Nat.reduceAdd, Nat.reduceMul, Nat.reduceSub, reduceCtorEq, Int.reduceToNat]) ⟨by omega, h2⟩ (by omega) (by (simp (disch := (first | omega | (simp only [vlen]; first | done | omega))) only [Fits_u, Fits_m, Fits_nil, List.length_append, vam, ↓vAq, vBq, ↓reduceIte, Nat.reduceBEq, Nat.reduceEqDiff, Nat.reduceLT, Nat.reduceLeDiff, Nat.reduceAdd, Nat.reduceMul, Nat.reduceSub, reduceCtorEq, Int.reduceToNat] <;> (repeat' first | rfl | apply And.intro)))
        · have hb : N.testBit (l.getD i 0 - g.k).toNat = false := by assumption
          rw [hb, Bool.false_and] at h2
          exact fin_mk (vbEq (by rw [h2]))
    · have hd : l.drop i = [] := List.drop_eq_nil_of_le (by omega)
      rw [hd, emp_nil] at h2
      repeat' first | ((first | refine Br.dec ?_ ?_ | refine Br.eqi ?_ ?_) <;> intro h <;> try (exfalso; omega)) | (simp (disch := (first | omega | (simp only [vlen]; first | done | omega))) only [vam, ↓vAq, vBq, ↓reduceIte, Nat.reduceBEq, Nat.reduceEqDiff, Nat.reduceLT, Nat.reduceLeDiff, Nat.reduceAdd, Nat.reduceMul, Nat.reduceSub, reduceCtorEq, Int.reduceToNat]) | (refine Br.mk ?_ ?_ <;> intro h) | (refine BrN.mk (fun h => ?_) ?_) | (refine AltVC.mk ?_ ?_)
      exact fin_mk (vbEq (by rw [h2]))
inductive Bk (g : Grammar) (N : Nat) (i : Nat) : Nat → Prop
  | self : Bk g N i i
  | step (m : Nat) (r : Rule) (p : Nat) (h : Bk g N i m) (hr : r ∈ g.rules) (hc : Rch g r.left.toNat) (hp : p < r.right.length) (hm : r.right.getD p 0 = g.k + m) (he : emp g N (r.right.drop (p + 1)) = true) : Bk g N i r.left.toNat
def Src (g : Grammar) (N m x : Nat) : Prop := (m = g.start.toNat ∧ x = g.k.toNat) ∨ ∃ r p, r ∈ g.rules ∧ Rch g r.left.toNat ∧ p < r.right.length ∧ r.right.getD p 0 = g.k + (m : Int) ∧ FstL g N (r.right.drop (p + 1)) x
theorem bk_fol {g : Grammar} {N i m x : Nat} (h : Bk g N i m) : Fol g N m x → Fol g N i x := by
  induction h with
  | self => exact id
  | step m r p h hr hc hp hm he ih =>
    intro hf
    refine ih ?_
    have := Fol.pas r p x hr hc hp (by omega) he hf
    rwa [show (r.right.getD p 0 - g.k).toNat = m by omega] at this
theorem fol_src {g : Grammar} (hv : Valid g) {N m x : Nat} (h : Fol g N m x) : ∀ {i : Nat}, Bk g N i m → ∃ m', Bk g N i m' ∧ Src g N m' x := by
  induction h with
  | start => exact fun hb => ⟨_, hb, .inl ⟨rfl, rfl⟩⟩
  | fst r p x hr hc hp hk hf => exact fun hb => ⟨_, hb, .inr ⟨r, p, hr, hc, hp, by omega, hf⟩⟩
  | pas r p x hr hc hp hk he hf ih =>
    intro i hb
    exact ih (.step _ r p hb hr hc hp (by omega) he)
theorem fol_rch {g : Grammar} {N m x : Nat} (h : Fol g N m x) : Rch g m := by
  cases h with
  | start => exact .start
  | fst r p x hr hc hp hk hf => exact .step hr hc (getD_mem hp) (by omega)
  | pas r p x hr hc hp hk he hf => exact .step hr hc (getD_mem hp) (by omega)
theorem fst_lt {g : Grammar} (hv : Valid g) {N n x : Nat} (h : Fst g N n x) : x < 3 := by
  have := hv.k
  induction h with
  | sym r y hr hy hk => omega
  | nam r y x hr hy hk hf ih => exact ih
theorem fstLL_lt {g : Grammar} (hv : Valid g) {N x : Nat} {l : List Int} (h : FstL g N l x) : x < 3 := by
  have := hv.k
  obtain ⟨y, _, ⟨h1, h2⟩ | ⟨_, h2⟩⟩ := h
  · omega
  · exact fst_lt hv h2
open Classical in
noncomputable def folS (g : Grammar) (N i : Nat) : Nat := setOf (fun x => decide (Fol g N i x)) 4
theorem folL_get {g : Grammar} {N i : Nat} (h : i < g.n.toNat) : (folL g N).getD i default = folS g N i := by
  classical
  unfold folL folS
  rw [List.getD_eq_getElem?_getD, List.getElem?_map, List.getElem?_range h]
  simp only [Option.map_some, Option.getD_some]
open Classical in
theorem folS_zero {g : Grammar} {N i : Nat} (h : ¬ Rch g i) : folS g N i = 0 := by
  unfold folS
  refine (set_ext (S := 0) (Nat.pow_pos (by omega)) fun x _ => ?_).symm
  rw [Nat.zero_testBit]
  exact (decide_eq_false fun hf => h (fol_rch hf)).symm
structure FoOk (g : Grammar) (N i : Nat) (L : List Int) (S : Nat) : Prop where
  nodup : L.Nodup
  rng : ∀ y, y ∈ L → 0 ≤ y ∧ y < g.n
  snd : ∀ y, y ∈ L → Bk g N i y.toNat
  base : (i : Int) ∈ L
  lt : S < 2 ^ 4
  bits : ∀ x, S.testBit x = true → Fol g N i x
def DoneP (g : Grammar) (N : Nat) (L : List Int) (S : Nat) (c : Int) (r : Rule) (q : Nat) : Prop := ∀ p, p < q → r.right.getD p 0 = g.k + c → (∀ x, FstL g N (r.right.drop (p + 1)) x → S.testBit x = true) ∧ (emp g N (r.right.drop (p + 1)) = true → r.left ∈ L)
def DoneJ (g : Grammar) (N : Nat) (L : List Int) (S : Nat) (c : Int) (j : Nat) : Prop := ∀ i, i < j → Rch g (g.rules.getD i default).left.toNat → DoneP g N L S c (g.rules.getD i default) (g.rules.getD i default).right.length
def DoneK (g : Grammar) (N : Nat) (L : List Int) (S : Nat) (k : Nat) : Prop := ∀ a, a < k → (L.getD a 0 = g.start → S.testBit g.k.toNat = true) ∧ DoneJ g N L S (L.getD a 0) g.rules.length
structure Grow (L L' : List Int) (S S' : Nat) : Prop where
  mem : ∀ y, y ∈ L → y ∈ L'
  get : ∀ a, a < L.length → L'.getD a 0 = L.getD a 0
  len : L.length ≤ L'.length
  bit : ∀ x, S.testBit x = true → S'.testBit x = true
theorem Grow.refl {L : List Int} {S : Nat} : Grow L L S S := ⟨fun _ h => h, fun _ _ => rfl, Nat.le_refl _, fun _ h => h⟩
theorem Grow.trans {L L' L'' : List Int} {S S' S'' : Nat} (h : Grow L L' S S') (k : Grow L' L'' S' S'') : Grow L L'' S S'' := ⟨fun y hy => k.mem y (h.mem y hy), fun a ha => (k.get a (Nat.lt_of_lt_of_le ha h.len)).trans (h.get a ha), Nat.le_trans h.len k.len, fun x hx => k.bit x (h.bit x hx)⟩
theorem Grow.orS {L : List Int} {S T : Nat} : Grow L L S (S ||| T) := ⟨fun _ h => h, fun _ _ => rfl, Nat.le_refl _, fun x h => by rw [Nat.testBit_or, h, Bool.true_or]⟩
theorem Grow.add {L : List Int} {S : Nat} {y : Int} : Grow L (addI L y) S S := ⟨fun _ h => addI_mem.2 (.inl h), fun _ h => addI_get h, addI_le, fun _ h => h⟩
theorem DoneP.grow {g : Grammar} {N : Nat} {L L' : List Int} {S S' : Nat} {c : Int} {r : Rule} {q : Nat} (h : DoneP g N L S c r q) (k : Grow L L' S S') : DoneP g N L' S' c r q := fun p hp e => ⟨fun x hx => k.bit x ((h p hp e).1 x hx), fun he => k.mem _ ((h p hp e).2 he)⟩
theorem DoneJ.grow {g : Grammar} {N : Nat} {L L' : List Int} {S S' : Nat} {c : Int} {j : Nat} (h : DoneJ g N L S c j) (k : Grow L L' S S') : DoneJ g N L' S' c j := fun i hi hc => (h i hi hc).grow k
theorem DoneK.grow {g : Grammar} {N : Nat} {L L' : List Int} {S S' : Nat} {n : Nat} (h : DoneK g N L S n) (k : Grow L L' S S') (hn : n ≤ L.length) : DoneK g N L' S' n := fun a ha => by
  rw [k.get a (by omega)]
  exact ⟨fun e => k.bit _ ((h a ha).1 e), (h a ha).2.grow k⟩
theorem FoOk.orS {g : Grammar} {N i : Nat} {L : List Int} {S T : Nat} (h : FoOk g N i L S) (hT : T < 2 ^ 4) (hb : ∀ x, T.testBit x = true → Fol g N i x) : FoOk g N i L (S ||| T) := ⟨h.nodup, h.rng, h.snd, h.base, Nat.or_lt_two_pow h.lt hT, fun x hx => by
  rw [Nat.testBit_or, Bool.or_eq_true] at hx
  exact hx.elim (h.bits x) (hb x)⟩
theorem FoOk.add {g : Grammar} {N i : Nat} {L : List Int} {S : Nat} (h : FoOk g N i L S) {y : Int} (h1 : 0 ≤ y ∧ y < g.n) (h2 : Bk g N i y.toNat) : FoOk g N i (addI L y) S := ⟨addI_nodup h.nodup, fun z hz => by
    rcases addI_mem.1 hz with hz | rfl
    · exact h.rng z hz
    · exact h1, fun z hz => by
    rcases addI_mem.1 hz with hz | rfl
    · exact h.snd z hz
    · exact h2, addI_mem.2 (.inl h.base), h.lt, h.bits⟩
theorem rule_at {g : Grammar} {r : Rule} (h : r ∈ g.rules) : ∃ j, j < g.rules.length ∧ g.rules.getD j default = r := by
  obtain ⟨j, hj, e⟩ := List.getElem_of_mem h
  exact ⟨j, hj, by rw [← e]; simp [List.getD, hj]⟩
theorem bk_all {g : Grammar} (hv : Valid g) {N i : Nat} {L : List Int} {S : Nat} (h : FoOk g N i L S) (hd : DoneK g N L S L.length) {m : Nat} (hb : Bk g N i m) : (m : Int) ∈ L := by
  induction hb with
  | self => exact h.base
  | step m r p _ hr hc hp hm he ih =>
    obtain ⟨a, ha, e⟩ := List.getElem_of_mem ih
    obtain ⟨j, hj, rfl⟩ := rule_at hr
    have hg : L.getD a 0 = (m : Int) := by rw [← e]; simp [List.getD, ha]
    have := ((hd a ha).2 j hj hc p hp (by rw [hg]; exact hm)).2 he
    rwa [Int.toNat_of_nonneg (hv.left _ hr).1]
open Classical in
theorem folS_is {g : Grammar} (hv : Valid g) {N i : Nat} {L : List Int} {S : Nat} (h : FoOk g N i L S) (hd : DoneK g N L S L.length) : S = folS g N i := by
  unfold folS
  refine set_ext h.lt fun x _ => ?_
  rw [Bool.eq_iff_iff, decide_eq_true_eq]
  refine ⟨h.bits x, fun hf => ?_⟩
  obtain ⟨m, hb, hs⟩ := fol_src hv hf .self
  obtain ⟨a, ha, e⟩ := List.getElem_of_mem (bk_all hv h hd hb)
  have hg : L.getD a 0 = (m : Int) := by rw [← e]; simp [List.getD, ha]
  have hst := hv.start
  rcases hs with ⟨h1, h2⟩ | ⟨r, p, hr, hc, hp, hm, hf⟩
  · rw [h2]; exact (hd a ha).1 (by rw [hg]; omega)
  · obtain ⟨j, hj, rfl⟩ := rule_at hr
    exact ((hd a ha).2 j hj hc p hp (by rw [hg]; exact hm)).1 x hf
set_option maxRecDepth 10000 in
set_option maxHeartbeats 4000000 in
theorem followOf_spec (g : Grammar) (hv : Valid g) (i : Nat) (hi : i < g.n.toNat) : Dm.Spec Try.prog 16 [.ag (graD g), iv .i64 i] (· = iv .u32 (folS g (nameSet g true) i)) := by
  refine spec_of_vc mixed Try.func16 c16 (by rw [show Try.f16.ntmps = _ from Try.ntmps16]; simp) ?_
  unfold m16 r16
  have hk := hv.k
  have hn := hv.n
  have hst := hv.start
  have hlen := hv.len
  have hp : 2 ^ g.n.toNat ≤ 32 := Nat.le_trans (Nat.pow_le_pow_right (show 0 < 2 by omega) (show g.n.toNat ≤ 5 by omega)) (by decide)
  have hC : comeSet g < 2 ^ g.n.toNat := setOf_lt
  have hcomes := refComes_spec g hv
  have hCb : ∀ i, (comeSet g).testBit i = true ↔ Rch g i := fun i => come_bit hv
  have hfirsts := fun (r : Rule) (hr : r ∈ g.rules) (p : Nat) => firsts_spec g hv (r.right.drop p) (by have := hv.long r hr; rw [List.length_drop]; omega) (fun y hy => hv.right r hr y (List.mem_of_mem_drop hy))
  have hgone := fun (r : Rule) (hr : r ∈ g.rules) (p : Nat) => gone_spec g hv (r.right.drop p) (by have := hv.long r hr; rw [List.length_drop]; omega) (fun y hy => hv.right r hr y (List.mem_of_mem_drop hy))
  generalize hNe : nameSet g true = N at hfirsts hgone ⊢
  generalize hCe : comeSet g = C at hC hcomes hCb
  have hbit := fun (j : Int) (h : 0 ≤ j ∧ j < g.n) => show Dm.Spec Try.prog 34 [iv .u32 C, iv .i64 j] (· = .v (.bool (C.testBit j.toNat))) from by
    have := bit_spec C j (by omega) (by simp only [ok64]; omega)
    rw [decide_eq_true (by omega), Bool.true_and] at this
    exact this
  repeat' first | ((first | refine Br.dec ?_ ?_ | refine Br.eqi ?_ ?_) <;> intro h <;> try (exfalso; omega)) | (simp (disch := (first | omega | (simp only [vlen]; first | done | omega))) only [vam, ↓vAq, vBq, ↓reduceIte, Nat.reduceBEq, Nat.reduceEqDiff, Nat.reduceLT, Nat.reduceLeDiff, Nat.reduceAdd, Nat.reduceMul, Nat.reduceSub, reduceCtorEq, Int.reduceToNat]) | (refine Br.mk ?_ ?_ <;> intro h) | (refine BrN.mk (fun h => ?_) ?_) | (refine AltVC.mk ?_ ?_)
  refine CallVC.eq hcomes ?_
  repeat' first | ((first | refine Br.dec ?_ ?_ | refine Br.eqi ?_ ?_) <;> intro h <;> try (exfalso; omega)) | (simp (disch := (first | omega | (simp only [vlen]; first | done | omega))) only [vam, ↓vAq, vBq, ↓reduceIte, Nat.reduceBEq, Nat.reduceEqDiff, Nat.reduceLT, Nat.reduceLeDiff, Nat.reduceAdd, Nat.reduceMul, Nat.reduceSub, reduceCtorEq, Int.reduceToNat]) | (refine Br.mk ?_ ?_ <;> intro h) | (refine BrN.mk (fun h => ?_) ?_) | (refine AltVC.mk ?_ ?_)
  refine CallVC.eq (hbit i (by omega)) ?_
  by_cases hri : Rch g i
  · have hbi : C.testBit (i : Int).toNat = true := by rw [Int.toNat_natCast]; exact (hCb i).2 hri
    rw [hbi]
    repeat' first | ((first | refine Br.dec ?_ ?_ | refine Br.eqi ?_ ?_) <;> intro h <;> try (exfalso; omega)) | (simp (disch := (first | omega | (simp only [vlen]; first | done | omega))) only [vam, ↓vAq, vBq, ↓reduceIte, Nat.reduceBEq, Nat.reduceEqDiff, Nat.reduceLT, Nat.reduceLeDiff, Nat.reduceAdd, Nat.reduceMul, Nat.reduceSub, reduceCtorEq, Int.reduceToNat]) | (refine Br.mk ?_ ?_ <;> intro h) | (refine BrN.mk (fun h => ?_) ?_) | (refine AltVC.mk ?_ ?_)
    have hlen5 : ∀ {L : List Int} {S : Nat}, FoOk g N i L S → L.length ≤ 5 := fun h => sign_len h.nodup fun y hy => by have := h.rng y hy; omega
    have hone : [[D.v (.int .i64 (i : Int))]] = i64s [(i : Int)] := rfl
    have hpk : 2 ^ g.k.toNat < 2 ^ 4 := Nat.pow_lt_pow_right (by omega) (by omega)
    have hpk15 := p16 hpk (by omega)
    refine LoopVC.mk (X := List Int × Nat × Nat) (fun x => [(6, .ref 1 1 0 x.1.length), (7, iv .u32 x.2.1), (8, iv .i64 x.2.2)]) (fun x => [(0, gOb g), (1, ⟨1, i64s x.1, true, false, .arr⟩)]) (fun x => 6 - x.2.2) (fun x => x.2.2 ≤ x.1.length ∧ FoOk g N i x.1 x.2.1 ∧ DoneK g N x.1 x.2.1 x.2.2) ([(i : Int)], 0, 0) ⟨by simp, ⟨by simp, fun y hy => by rw [List.mem_singleton] at hy; omega, fun y hy => by rw [List.mem_singleton] at hy; subst hy; rw [Int.toNat_natCast]; exact .self, by simp, Nat.pow_pos (by omega), fun x hx => by simp at hx⟩, fun a ha => by simp at ha⟩ ?_ ?_
    · (simp (disch := (first | omega | (simp only [vlen]; first | done | omega))) only [Fits_u, Fits_m, Fits_nil, List.length_append, vam, hone, ↓vAq, vBq, ↓reduceIte, Nat.reduceBEq, Nat.reduceEqDiff, Nat.reduceLT, Nat.reduceLeDiff, Nat.reduceAdd, Nat.reduceMul, Nat.reduceSub, reduceCtorEq, Int.reduceToNat] <;> (repeat' first | rfl | apply And.intro))
    · rintro ⟨L, S, k⟩ ⟨h1, h2, h3⟩
      simp only at h1 h2 h3
      have hl5 := hlen5 h2
      have hS15 := p16 h2.lt (by omega)
      by_cases hkl : k < L.length
      · have hkr := h2.rng _ (getD_mem (l := L) (i := k) (d := 0) hkl)
        have hin : ∀ (S1 : Nat), FoOk g N i L S1 → Grow L L S S1 → (L.getD k 0 = g.start → S1.testBit g.k.toNat = true) → (S1 : Int) ≤ 15 := fun S1 h _ _ => p16 h.lt (by omega)
        repeat' first | ((first | refine Br.dec ?_ ?_ | refine Br.eqi ?_ ?_) <;> intro h <;> try (exfalso; omega)) | (simp (disch := (first | omega | (simp only [vlen]; first | done | omega))) only [vam, ↓vAq, vBq, ↓reduceIte, Nat.reduceBEq, Nat.reduceEqDiff, Nat.reduceLT, Nat.reduceLeDiff, Nat.reduceAdd, Nat.reduceMul, Nat.reduceSub, reduceCtorEq, Int.reduceToNat]) | (refine Br.mk ?_ ?_ <;> intro h) | (refine BrN.mk (fun h => ?_) ?_) | (refine AltVC.mk ?_ ?_)
        · have hst1 : L.getD k 0 = g.start := by assumption
          rw [shlN (by omega), orN (by omega) (by omega)]
          have ok1 : FoOk g N i L (S ||| 2 ^ g.k.toNat) := h2.orS hpk fun x hx => by
            have hx2 : g.k.toNat = x := by
              by_cases e : g.k.toNat = x
              · exact e
              · rw [Nat.testBit_two_pow_of_ne e] at hx; cases hx
            subst hx2
            refine bk_fol (h2.snd _ (getD_mem (d := 0) hkl)) ?_
            rw [hst1]; exact .start
          have dk1 : DoneK g N L (S ||| 2 ^ g.k.toNat) k := h3.grow .orS h1
          have st1 : L.getD k 0 = g.start → (S ||| 2 ^ g.k.toNat).testBit g.k.toNat = true := fun _ => by rw [Nat.testBit_or, Nat.testBit_two_pow_self, Bool.or_true]
          generalize S ||| 2 ^ g.k.toNat = S1 at ok1 dk1 st1 ⊢
          refine LoopVC.mk (X := List Int × Nat × Nat) (fun x => [(6, .ref 1 1 0 x.1.length), (7, iv .u32 x.2.1), (43, iv .i64 x.2.2)]) (fun x => [(0, gOb g), (1, ⟨1, i64s x.1, true, false, .arr⟩)]) (fun x => g.rules.length - x.2.2) (fun x => x.2.2 ≤ g.rules.length ∧ FoOk g N i x.1 x.2.1 ∧ Grow L x.1 S1 x.2.1 ∧ DoneJ g N x.1 x.2.1 (L.getD k 0) x.2.2) (L, S1, 0) ⟨by simp, ok1, .refl, fun a ha => by simp at ha⟩ ?_ ?_
          · (simp (disch := (first | omega | (simp only [vlen]; first | done | omega))) only [Fits_u, Fits_m, Fits_nil, List.length_append, vam, ↓vAq, vBq, ↓reduceIte, Nat.reduceBEq, Nat.reduceEqDiff, Nat.reduceLT, Nat.reduceLeDiff, Nat.reduceAdd, Nat.reduceMul, Nat.reduceSub, reduceCtorEq, Int.reduceToNat] <;> (repeat' first | rfl | apply And.intro))
          · rintro ⟨L2, S2, j⟩ ⟨k1, k2, k3, k4⟩
            simp only at k1 k2 k3 k4
            have k5 := Nat.lt_of_lt_of_le hkl k3.len
            have k6 := k3.get k hkl
            have hl25 := hlen5 k2
            have hS25 := p16 k2.lt (by omega)
            by_cases hj : j < g.rules.length
            · have hm : g.rules.getD j default ∈ g.rules := getD_mem' hj
              have hsucc : ∀ {L3 : List Int} {S3 : Nat}, DoneJ g N L3 S3 (L.getD k 0) j → (Rch g (g.rules.getD j default).left.toNat → DoneP g N L3 S3 (L.getD k 0) (g.rules.getD j default) (g.rules.getD j default).right.length) → DoneJ g N L3 S3 (L.getD k 0) (j + 1) := fun h h' a ha hc => by
                rcases Nat.lt_or_ge a j with q | q
                · exact h a q hc
                · have : a = j := by omega
                  subst this; exact h' hc
              generalize hre : g.rules.getD j default = r at hm hsucc
              have hleft := hv.left r hm
              have hlong := hv.long r hm
              have hright := hv.right r hm
              repeat' first | ((first | refine Br.dec ?_ ?_ | refine Br.eqi ?_ ?_) <;> intro h <;> try (exfalso; omega)) | (simp (disch := (first | omega | (simp only [vlen]; first | done | omega))) only [vam, hre, ↓vAq, vBq, ↓reduceIte, Nat.reduceBEq, Nat.reduceEqDiff, Nat.reduceLT, Nat.reduceLeDiff, Nat.reduceAdd, Nat.reduceMul, Nat.reduceSub, reduceCtorEq, Int.reduceToNat]) | (refine Br.mk ?_ ?_ <;> intro h) | (refine BrN.mk (fun h => ?_) ?_) | (refine AltVC.mk ?_ ?_)
              refine CallVC.eq (hbit r.left hleft) ?_
              by_cases hrc : Rch g r.left.toNat
              · rw [(hCb _).2 hrc]
                repeat' first | ((first | refine Br.dec ?_ ?_ | refine Br.eqi ?_ ?_) <;> intro h <;> try (exfalso; omega)) | (simp (disch := (first | omega | (simp only [vlen]; first | done | omega))) only [vam, hre, ↓vAq, vBq, ↓reduceIte, Nat.reduceBEq, Nat.reduceEqDiff, Nat.reduceLT, Nat.reduceLeDiff, Nat.reduceAdd, Nat.reduceMul, Nat.reduceSub, reduceCtorEq, Int.reduceToNat]) | (refine Br.mk ?_ ?_ <;> intro h) | (refine BrN.mk (fun h => ?_) ?_) | (refine AltVC.mk ?_ ?_)
                refine LoopVC.mk (X := List Int × Nat × Nat) (fun x => [(6, .ref 1 1 0 x.1.length), (7, iv .u32 x.2.1), (55, iv .i64 x.2.2)]) (fun x => [(0, gOb g), (1, ⟨1, i64s x.1, true, false, .arr⟩), (2, rOb r)]) (fun x => r.right.length - x.2.2) (fun x => x.2.2 ≤ r.right.length ∧ FoOk g N i x.1 x.2.1 ∧ Grow L2 x.1 S2 x.2.1 ∧ DoneP g N x.1 x.2.1 (L.getD k 0) r x.2.2) (L2, S2, 0) ⟨by simp, k2, .refl, fun a ha => by simp at ha⟩ ?_ ?_
                · (simp (disch := (first | omega | (simp only [vlen]; first | done | omega))) only [Fits_u, Fits_m, Fits_nil, List.length_append, vam, ↓vAq, vBq, ↓reduceIte, Nat.reduceBEq, Nat.reduceEqDiff, Nat.reduceLT, Nat.reduceLeDiff, Nat.reduceAdd, Nat.reduceMul, Nat.reduceSub, reduceCtorEq, Int.reduceToNat] <;> (repeat' first | rfl | apply And.intro))
                · rintro ⟨L3, S3, p⟩ ⟨q1, q2, q3, q4⟩
                  simp only at q1 q2 q3 q4
                  have q5 := Nat.lt_of_lt_of_le k5 q3.len
                  have q6 := (q3.get k k5).trans k6
                  have hl35 := hlen5 q2
                  have hS35 := p16 q2.lt (by omega)
                  by_cases hq : p < r.right.length
                  · have hyr := hright _ (getD_mem (l := r.right) (i := p) (d := 0) hq)
                    have hpsucc : ∀ {L4 : List Int} {S4 : Nat}, DoneP g N L4 S4 (L.getD k 0) r p → (r.right.getD p 0 = g.k + L.getD k 0 → (∀ x, FstL g N (r.right.drop (p + 1)) x → S4.testBit x = true) ∧ (emp g N (r.right.drop (p + 1)) = true → r.left ∈ L4)) → DoneP g N L4 S4 (L.getD k 0) r (p + 1) := fun h h' a ha e => by
                      rcases Nat.lt_or_ge a p with z | z
                      · exact h a z e
                      · have : a = p := by omega
                        subst this; exact h' e
                    repeat' first | ((first | refine Br.dec ?_ ?_ | refine Br.eqi ?_ ?_) <;> intro h <;> try (exfalso; omega)) | (simp (disch := (first | omega | (simp only [vlen]; first | done | omega))) only [vam, hre, List.take_length, q6, ↓vAq, vBq, ↓reduceIte, Nat.reduceBEq, Nat.reduceEqDiff, Nat.reduceLT, Nat.reduceLeDiff, Nat.reduceAdd, Nat.reduceMul, Nat.reduceSub, reduceCtorEq, Int.reduceToNat]) | (refine Br.mk ?_ ?_ <;> intro h) | (refine BrN.mk (fun h => ?_) ?_) | (refine AltVC.mk ?_ ?_)
                    · have heq : r.right.getD p 0 = g.k + L.getD k 0 := by assumption
                      have hT : fstS g N (r.right.drop (p + 1)) < 2 ^ 3 := setOf_lt
                      have hTx : ∀ x, (fstS g N (r.right.drop (p + 1))).testBit x = true → FstL g N (r.right.drop (p + 1)) x := fun x hx => by
                        have hx3 : x < 3 := by
                          rcases Nat.lt_or_ge x 3 with h | h
                          · exact h
                          · rw [Nat.testBit_lt_two_pow (Nat.lt_of_lt_of_le hT (Nat.pow_le_pow_right (by omega) h))] at hx; cases hx
                        exact (fstS_bit hx3).1 hx
                      have hTy : ∀ x, FstL g N (r.right.drop (p + 1)) x → (fstS g N (r.right.drop (p + 1))).testBit x = true := fun x hx => (fstS_bit (fstLL_lt hv hx)).2 hx
                      have hbk : Bk g N i (L.getD k 0).toNat := by rw [← q6]; exact q2.snd _ (getD_mem q5)
                      have ok4 : FoOk g N i L3 (S3 ||| fstS g N (r.right.drop (p + 1))) := q2.orS (by omega) fun x hx => by
                        refine bk_fol hbk ?_
                        have := Fol.fst r p x hm hrc hq (by omega) (hTx x hx)
                        rwa [show (r.right.getD p 0 - g.k).toNat = (L.getD k 0).toNat by omega] at this
                      have hS4 : ∀ x, FstL g N (r.right.drop (p + 1)) x → (S3 ||| fstS g N (r.right.drop (p + 1))).testBit x = true := fun x hx => by rw [Nat.testBit_or, hTy x hx, Bool.or_true]
                      have hbl := fun (he : emp g N (r.right.drop (p + 1)) = true) => Bk.step _ r p hbk hm hrc hq (by omega) he
                      have hgr : Grow L3 L3 S3 (S3 ||| fstS g N (r.right.drop (p + 1))) := .orS
                      have hT15 := p16 hT (by omega)
                      have horT := orN (S := S3) (T := fstS g N (r.right.drop (p + 1))) (by omega) (by omega)
                      have hhas := hasL_spec L3 (by omega) r.left
                      refine CallVC.eq (hfirsts r hm (p + 1)) ?_
                      generalize fstS g N (r.right.drop (p + 1)) = T at hT hTx hTy ok4 hS4 hgr hT15 horT ⊢
                      have hgo := hgone r hm (p + 1)
                      repeat' first | ((first | refine Br.dec ?_ ?_ | refine Br.eqi ?_ ?_) <;> intro h <;> try (exfalso; omega)) | (simp (disch := (first | omega | (simp only [vlen]; first | done | omega))) only [vam, hre, List.take_length, ↓vAq, vBq, ↓reduceIte, Nat.reduceBEq, Nat.reduceEqDiff, Nat.reduceLT, Nat.reduceLeDiff, Nat.reduceAdd, Nat.reduceMul, Nat.reduceSub, reduceCtorEq, Int.reduceToNat]) | (refine Br.mk ?_ ?_ <;> intro h) | (refine BrN.mk (fun h => ?_) ?_) | (refine AltVC.mk ?_ ?_)
                      rw [horT]
                      generalize S3 ||| T = S4 at ok4 hS4 hgr ⊢
                      refine CallVC.eq hgo ?_
                      cases he : emp g N (r.right.drop (p + 1)) with
                      | true =>
                        have hbl2 := hbl he
                        by_cases hx : r.left ∈ L3
                        · rw [decide_eq_true hx] at hhas
                          repeat' first | ((first | refine Br.dec ?_ ?_ | refine Br.eqi ?_ ?_) <;> intro h <;> try (exfalso; omega)) | (simp (disch := (first | omega | (simp only [vlen]; first | done | omega))) only [vam, hre, ↓vAq, vBq, ↓reduceIte, Nat.reduceBEq, Nat.reduceEqDiff, Nat.reduceLT, Nat.reduceLeDiff, Nat.reduceAdd, Nat.reduceMul, Nat.reduceSub, reduceCtorEq, Int.reduceToNat]) | (refine Br.mk ?_ ?_ <;> intro h) | (refine BrN.mk (fun h => ?_) ?_) | (refine AltVC.mk ?_ ?_)
                          refine CallVC.eqo hhas (by repeat' first | ((first | refine Br.dec ?_ ?_ | refine Br.eqi ?_ ?_) <;> intro h <;> try (exfalso; omega)) | (simp (disch := (first | omega | (simp only [vlen]; first | done | omega))) only [vam, ↓vAq, vBq, ↓reduceIte, Nat.reduceBEq, Nat.reduceEqDiff, Nat.reduceLT, Nat.reduceLeDiff, Nat.reduceAdd, Nat.reduceMul, Nat.reduceSub, reduceCtorEq, Int.reduceToNat]) | (refine Br.mk ?_ ?_ <;> intro h) | (refine BrN.mk (fun h => ?_) ?_) | (refine AltVC.mk ?_ ?_)) ?_
                          repeat' first | ((first | refine Br.dec ?_ ?_ | refine Br.eqi ?_ ?_) <;> intro h <;> try (exfalso; omega)) | (simp (disch := (first | omega | (simp only [vlen]; first | done | omega))) only [vam, hre, ↓vAq, vBq, ↓reduceIte, Nat.reduceBEq, Nat.reduceEqDiff, Nat.reduceLT, Nat.reduceLeDiff, Nat.reduceAdd, Nat.reduceMul, Nat.reduceSub, reduceCtorEq, Int.reduceToNat]) | (refine Br.mk ?_ ?_ <;> intro h) | (refine BrN.mk (fun h => ?_) ?_) | (refine AltVC.mk ?_ ?_)
                          exact loopK.mk (L3, S4, p + 1) (by simp (disch := (first | omega | (simp only [vlen]; first | done | omega))) only [↓vAq, vBq, ↓reduceIte, Nat.reduceBEq, Nat.reduceEqDiff, Nat.reduceLT, Nat.reduceLeDiff, Nat.reduceAdd, Nat.reduceMul, Nat.reduceSub, reduceCtorEq, Int.reduceToNat]) ⟨by simp only; omega, ok4, q3.trans hgr, hpsucc (q4.grow hgr) fun _ => ⟨hS4, fun _ => hx⟩⟩ (by simp only; omega) (by (simp (disch := (first | omega | (simp only [vlen]; first | done | omega))) only [Fits_u, Fits_m, Fits_nil, List.length_append, vam, ↓vAq, vBq, ↓reduceIte, Nat.reduceBEq, Nat.reduceEqDiff, Nat.reduceLT, Nat.reduceLeDiff, Nat.reduceAdd, Nat.reduceMul, Nat.reduceSub, reduceCtorEq, Int.reduceToNat] <;> (repeat' first | rfl | apply And.intro)))
                        · have e : addI L3 r.left = L3 ++ [r.left] := by rw [addI, if_neg hx]
                          rw [decide_eq_false hx] at hhas
                          have ok5 := ok4.add hleft hbl2
                          have hga : Grow L3 (addI L3 r.left) S4 S4 := .add
                          have hmem : r.left ∈ addI L3 r.left := addI_mem.2 (.inr rfl)
                          rw [e] at ok5 hga hmem
                          repeat' first | ((first | refine Br.dec ?_ ?_ | refine Br.eqi ?_ ?_) <;> intro h <;> try (exfalso; omega)) | (simp (disch := (first | omega | (simp only [vlen]; first | done | omega))) only [vam, hre, ↓vAq, vBq, ↓reduceIte, Nat.reduceBEq, Nat.reduceEqDiff, Nat.reduceLT, Nat.reduceLeDiff, Nat.reduceAdd, Nat.reduceMul, Nat.reduceSub, reduceCtorEq, Int.reduceToNat]) | (refine Br.mk ?_ ?_ <;> intro h) | (refine BrN.mk (fun h => ?_) ?_) | (refine AltVC.mk ?_ ?_)
                          refine CallVC.eqo hhas (by repeat' first | ((first | refine Br.dec ?_ ?_ | refine Br.eqi ?_ ?_) <;> intro h <;> try (exfalso; omega)) | (simp (disch := (first | omega | (simp only [vlen]; first | done | omega))) only [vam, ↓vAq, vBq, ↓reduceIte, Nat.reduceBEq, Nat.reduceEqDiff, Nat.reduceLT, Nat.reduceLeDiff, Nat.reduceAdd, Nat.reduceMul, Nat.reduceSub, reduceCtorEq, Int.reduceToNat]) | (refine Br.mk ?_ ?_ <;> intro h) | (refine BrN.mk (fun h => ?_) ?_) | (refine AltVC.mk ?_ ?_)) ?_
                          repeat' first | ((first | refine Br.dec ?_ ?_ | refine Br.eqi ?_ ?_) <;> intro h <;> try (exfalso; omega)) | (simp (disch := (first | omega | (simp only [vlen]; first | done | omega))) only [vam, hre, ↓vAq, vBq, ↓reduceIte, Nat.reduceBEq, Nat.reduceEqDiff, Nat.reduceLT, Nat.reduceLeDiff, Nat.reduceAdd, Nat.reduceMul, Nat.reduceSub, reduceCtorEq, Int.reduceToNat]) | (refine Br.mk ?_ ?_ <;> intro h) | (refine BrN.mk (fun h => ?_) ?_) | (refine AltVC.mk ?_ ?_)
                          exact loopK.mk (L3 ++ [r.left], S4, p + 1) (by simp (disch := (first | omega | (simp only [vlen]; first | done | omega))) only [↓vAq, vBq, ↓reduceIte, Nat.reduceBEq, Nat.reduceEqDiff, Nat.reduceLT, Nat.reduceLeDiff, Nat.reduceAdd, Nat.reduceMul, Nat.reduceSub, reduceCtorEq, Int.reduceToNat]) ⟨by simp only; omega, ok5, q3.trans (hgr.trans hga), hpsucc (q4.grow (hgr.trans hga)) fun _ => ⟨hS4, fun _ => hmem⟩⟩ (by simp only; omega) (by (simp (disch := (first | omega | (simp only [vlen]; first | done | omega))) only [Fits_u, Fits_m, Fits_nil, List.length_append, vam, List.length_append, List.length_singleton, ↓vAq, vBq, ↓reduceIte, Nat.reduceBEq, Nat.reduceEqDiff, Nat.reduceLT, Nat.reduceLeDiff, Nat.reduceAdd, Nat.reduceMul, Nat.reduceSub, reduceCtorEq, Int.reduceToNat] <;> (repeat' first | rfl | apply And.intro)))
                      | false =>
                        repeat' first | ((first | refine Br.dec ?_ ?_ | refine Br.eqi ?_ ?_) <;> intro h <;> try (exfalso; omega)) | (simp (disch := (first | omega | (simp only [vlen]; first | done | omega))) only [vam, hre, ↓vAq, vBq, ↓reduceIte, Nat.reduceBEq, Nat.reduceEqDiff, Nat.reduceLT, Nat.reduceLeDiff, Nat.reduceAdd, Nat.reduceMul, Nat.reduceSub, reduceCtorEq, Int.reduceToNat]) | (refine Br.mk ?_ ?_ <;> intro h) | (refine BrN.mk (fun h => ?_) ?_) | (refine AltVC.mk ?_ ?_)
                        exact loopK.mk (L3, S4, p + 1) (by simp (disch := (first | omega | (simp only [vlen]; first | done | omega))) only [↓vAq, vBq, ↓reduceIte, Nat.reduceBEq, Nat.reduceEqDiff, Nat.reduceLT, Nat.reduceLeDiff, Nat.reduceAdd, Nat.reduceMul, Nat.reduceSub, reduceCtorEq, Int.reduceToNat]) ⟨by simp only; omega, ok4, q3.trans hgr, hpsucc (q4.grow hgr) fun _ => ⟨hS4, fun h => by rw [he] at h; cases h⟩⟩ (by simp only; omega) (by (simp (disch := (first | omega | (simp only [vlen]; first | done | omega))) only [Fits_u, Fits_m, Fits_nil, List.length_append, vam, ↓vAq, vBq, ↓reduceIte, Nat.reduceBEq, Nat.reduceEqDiff, Nat.reduceLT, Nat.reduceLeDiff, Nat.reduceAdd, Nat.reduceMul, Nat.reduceSub, reduceCtorEq, Int.reduceToNat] <;> (repeat' first | rfl | apply And.intro)))
                    · exact loopK.mk (L3, S3, p + 1) (by simp (disch := (first | omega | (simp only [vlen]; first | done | omega))) only [↓vAq, vBq, ↓reduceIte, Nat.reduceBEq, Nat.reduceEqDiff, Nat.reduceLT, Nat.reduceLeDiff, Nat.reduceAdd, Nat.reduceMul, Nat.reduceSub, reduceCtorEq, Int.reduceToNat]) ⟨by simp only; omega, q2, q3, hpsucc q4 fun e => absurd e (by assumption)⟩ (by simp only; omega) (by (simp (disch := (first | omega | (simp only [vlen]; first | done | omega))) only [Fits_u, Fits_m, Fits_nil, List.length_append, vam, ↓vAq, vBq, ↓reduceIte, Nat.reduceBEq, Nat.reduceEqDiff, Nat.reduceLT, Nat.reduceLeDiff, Nat.reduceAdd, Nat.reduceMul, Nat.reduceSub, reduceCtorEq, Int.reduceToNat] <;> (repeat' first | rfl | apply And.intro)))
                  · have hqe : p = r.right.length := by omega
                    subst hqe
                    repeat' first | ((first | refine Br.dec ?_ ?_ | refine Br.eqi ?_ ?_) <;> intro h <;> try (exfalso; omega)) | (simp (disch := (first | omega | (simp only [vlen]; first | done | omega))) only [vam, ↓vAq, vBq, ↓reduceIte, Nat.reduceBEq, Nat.reduceEqDiff, Nat.reduceLT, Nat.reduceLeDiff, Nat.reduceAdd, Nat.reduceMul, Nat.reduceSub, reduceCtorEq, Int.reduceToNat]) | (refine Br.mk ?_ ?_ <;> intro h) | (refine BrN.mk (fun h => ?_) ?_) | (refine AltVC.mk ?_ ?_)
                    exact loopK.mk (L3, S3, j + 1) (by simp (disch := (first | omega | (simp only [vlen]; first | done | omega))) only [↓vAq, vBq, ↓reduceIte, Nat.reduceBEq, Nat.reduceEqDiff, Nat.reduceLT, Nat.reduceLeDiff, Nat.reduceAdd, Nat.reduceMul, Nat.reduceSub, reduceCtorEq, Int.reduceToNat]) ⟨by simp only; omega, q2, k3.trans q3, hsucc (k4.grow q3) fun _ => q4⟩ (by simp only; omega) (by (simp (disch := (first | omega | (simp only [vlen]; first | done | omega))) only [Fits_u, Fits_m, Fits_nil, List.length_append, vam, ↓vAq, vBq, ↓reduceIte, Nat.reduceBEq, Nat.reduceEqDiff, Nat.reduceLT, Nat.reduceLeDiff, Nat.reduceAdd, Nat.reduceMul, Nat.reduceSub, reduceCtorEq, Int.reduceToNat] <;> (repeat' first | rfl | apply And.intro)))
              · have hrc2 : C.testBit r.left.toNat = false := by
                  cases h : C.testBit r.left.toNat with
                  | true => exact absurd ((hCb _).1 h) hrc
                  | false => rfl
                rw [hrc2]
                repeat' first | ((first | refine Br.dec ?_ ?_ | refine Br.eqi ?_ ?_) <;> intro h <;> try (exfalso; omega)) | (simp (disch := (first | omega | (simp only [vlen]; first | done | omega))) only [vam, hre, ↓vAq, vBq, ↓reduceIte, Nat.reduceBEq, Nat.reduceEqDiff, Nat.reduceLT, Nat.reduceLeDiff, Nat.reduceAdd, Nat.reduceMul, Nat.reduceSub, reduceCtorEq, Int.reduceToNat]) | (refine Br.mk ?_ ?_ <;> intro h) | (refine BrN.mk (fun h => ?_) ?_) | (refine AltVC.mk ?_ ?_)
                exact loopK.mk (L2, S2, j + 1) (by simp (disch := (first | omega | (simp only [vlen]; first | done | omega))) only [↓vAq, vBq, ↓reduceIte, Nat.reduceBEq, Nat.reduceEqDiff, Nat.reduceLT, Nat.reduceLeDiff, Nat.reduceAdd, Nat.reduceMul, Nat.reduceSub, reduceCtorEq, Int.reduceToNat]) ⟨by simp only; omega, k2, k3, hsucc k4 fun h => absurd h hrc⟩ (by simp only; omega) (by (simp (disch := (first | omega | (simp only [vlen]; first | done | omega))) only [Fits_u, Fits_m, Fits_nil, List.length_append, vam, ↓vAq, vBq, ↓reduceIte, Nat.reduceBEq, Nat.reduceEqDiff, Nat.reduceLT, Nat.reduceLeDiff, Nat.reduceAdd, Nat.reduceMul, Nat.reduceSub, reduceCtorEq, Int.reduceToNat] <;> (repeat' first | rfl | apply And.intro)))
            · have he : j = g.rules.length := by omega
              subst he
              repeat' first | ((first | refine Br.dec ?_ ?_ | refine Br.eqi ?_ ?_) <;> intro h <;> try (exfalso; omega)) | (simp (disch := (first | omega | (simp only [vlen]; first | done | omega))) only [vam, ↓vAq, vBq, ↓reduceIte, Nat.reduceBEq, Nat.reduceEqDiff, Nat.reduceLT, Nat.reduceLeDiff, Nat.reduceAdd, Nat.reduceMul, Nat.reduceSub, reduceCtorEq, Int.reduceToNat]) | (refine Br.mk ?_ ?_ <;> intro h) | (refine BrN.mk (fun h => ?_) ?_) | (refine AltVC.mk ?_ ?_)
              exact loopK.mk (L2, S2, k + 1) (by simp (disch := (first | omega | (simp only [vlen]; first | done | omega))) only [↓vAq, vBq, ↓reduceIte, Nat.reduceBEq, Nat.reduceEqDiff, Nat.reduceLT, Nat.reduceLeDiff, Nat.reduceAdd, Nat.reduceMul, Nat.reduceSub, reduceCtorEq, Int.reduceToNat]) ⟨by simp only; omega, k2, fun a ha => by
                rcases Nat.lt_or_ge a k with q | q
                · exact (dk1.grow k3 (Nat.le_of_lt hkl)) a q
                · have : a = k := by simp only at ha; omega
                  subst this
                  rw [k6]
                  exact ⟨fun e => k3.bit _ (st1 e), k4⟩⟩ (by simp only; omega) (by (simp (disch := (first | omega | (simp only [vlen]; first | done | omega))) only [Fits_u, Fits_m, Fits_nil, List.length_append, vam, ↓vAq, vBq, ↓reduceIte, Nat.reduceBEq, Nat.reduceEqDiff, Nat.reduceLT, Nat.reduceLeDiff, Nat.reduceAdd, Nat.reduceMul, Nat.reduceSub, reduceCtorEq, Int.reduceToNat] <;> (repeat' first | rfl | apply And.intro)))
        · have ok1 := h2
          have dk1 := h3
          have st1 : L.getD k 0 = g.start → S.testBit g.k.toNat = true := fun e => absurd e (by assumption)
          refine LoopVC.mk (X := List Int × Nat × Nat) (fun x => [(6, .ref 1 1 0 x.1.length), (7, iv .u32 x.2.1), (43, iv .i64 x.2.2)]) (fun x => [(0, gOb g), (1, ⟨1, i64s x.1, true, false, .arr⟩)]) (fun x => g.rules.length - x.2.2) (fun x => x.2.2 ≤ g.rules.length ∧ FoOk g N i x.1 x.2.1 ∧ Grow L x.1 S x.2.1 ∧ DoneJ g N x.1 x.2.1 (L.getD k 0) x.2.2) (L, S, 0) ⟨by simp, ok1, .refl, fun a ha => by simp at ha⟩ ?_ ?_
          · (simp (disch := (first | omega | (simp only [vlen]; first | done | omega))) only [Fits_u, Fits_m, Fits_nil, List.length_append, vam, ↓vAq, vBq, ↓reduceIte, Nat.reduceBEq, Nat.reduceEqDiff, Nat.reduceLT, Nat.reduceLeDiff, Nat.reduceAdd, Nat.reduceMul, Nat.reduceSub, reduceCtorEq, Int.reduceToNat] <;> (repeat' first | rfl | apply And.intro))
          · rintro ⟨L2, S2, j⟩ ⟨k1, k2, k3, k4⟩
            simp only at k1 k2 k3 k4
            have k5 := Nat.lt_of_lt_of_le hkl k3.len
            have k6 := k3.get k hkl
            have hl25 := hlen5 k2
            have hS25 := p16 k2.lt (by omega)
            by_cases hj : j < g.rules.length
            · have hm : g.rules.getD j default ∈ g.rules := getD_mem' hj
              have hsucc : ∀ {L3 : List Int} {S3 : Nat}, DoneJ g N L3 S3 (L.getD k 0) j → (Rch g (g.rules.getD j default).left.toNat → DoneP g N L3 S3 (L.getD k 0) (g.rules.getD j default) (g.rules.getD j default).right.length) → DoneJ g N L3 S3 (L.getD k 0) (j + 1) := fun h h' a ha hc => by
                rcases Nat.lt_or_ge a j with q | q
                · exact h a q hc
                · have : a = j := by omega
                  subst this; exact h' hc
              generalize hre : g.rules.getD j default = r at hm hsucc
              have hleft := hv.left r hm
              have hlong := hv.long r hm
              have hright := hv.right r hm
              repeat' first | ((first | refine Br.dec ?_ ?_ | refine Br.eqi ?_ ?_) <;> intro h <;> try (exfalso; omega)) | (simp (disch := (first | omega | (simp only [vlen]; first | done | omega))) only [vam, hre, ↓vAq, vBq, ↓reduceIte, Nat.reduceBEq, Nat.reduceEqDiff, Nat.reduceLT, Nat.reduceLeDiff, Nat.reduceAdd, Nat.reduceMul, Nat.reduceSub, reduceCtorEq, Int.reduceToNat]) | (refine Br.mk ?_ ?_ <;> intro h) | (refine BrN.mk (fun h => ?_) ?_) | (refine AltVC.mk ?_ ?_)
              refine CallVC.eq (hbit r.left hleft) ?_
              by_cases hrc : Rch g r.left.toNat
              · rw [(hCb _).2 hrc]
                repeat' first | ((first | refine Br.dec ?_ ?_ | refine Br.eqi ?_ ?_) <;> intro h <;> try (exfalso; omega)) | (simp (disch := (first | omega | (simp only [vlen]; first | done | omega))) only [vam, hre, ↓vAq, vBq, ↓reduceIte, Nat.reduceBEq, Nat.reduceEqDiff, Nat.reduceLT, Nat.reduceLeDiff, Nat.reduceAdd, Nat.reduceMul, Nat.reduceSub, reduceCtorEq, Int.reduceToNat]) | (refine Br.mk ?_ ?_ <;> intro h) | (refine BrN.mk (fun h => ?_) ?_) | (refine AltVC.mk ?_ ?_)
                refine LoopVC.mk (X := List Int × Nat × Nat) (fun x => [(6, .ref 1 1 0 x.1.length), (7, iv .u32 x.2.1), (55, iv .i64 x.2.2)]) (fun x => [(0, gOb g), (1, ⟨1, i64s x.1, true, false, .arr⟩), (2, rOb r)]) (fun x => r.right.length - x.2.2) (fun x => x.2.2 ≤ r.right.length ∧ FoOk g N i x.1 x.2.1 ∧ Grow L2 x.1 S2 x.2.1 ∧ DoneP g N x.1 x.2.1 (L.getD k 0) r x.2.2) (L2, S2, 0) ⟨by simp, k2, .refl, fun a ha => by simp at ha⟩ ?_ ?_
                · (simp (disch := (first | omega | (simp only [vlen]; first | done | omega))) only [Fits_u, Fits_m, Fits_nil, List.length_append, vam, ↓vAq, vBq, ↓reduceIte, Nat.reduceBEq, Nat.reduceEqDiff, Nat.reduceLT, Nat.reduceLeDiff, Nat.reduceAdd, Nat.reduceMul, Nat.reduceSub, reduceCtorEq, Int.reduceToNat] <;> (repeat' first | rfl | apply And.intro))
                · rintro ⟨L3, S3, p⟩ ⟨q1, q2, q3, q4⟩
                  simp only at q1 q2 q3 q4
                  have q5 := Nat.lt_of_lt_of_le k5 q3.len
                  have q6 := (q3.get k k5).trans k6
                  have hl35 := hlen5 q2
                  have hS35 := p16 q2.lt (by omega)
                  by_cases hq : p < r.right.length
                  · have hyr := hright _ (getD_mem (l := r.right) (i := p) (d := 0) hq)
                    have hpsucc : ∀ {L4 : List Int} {S4 : Nat}, DoneP g N L4 S4 (L.getD k 0) r p → (r.right.getD p 0 = g.k + L.getD k 0 → (∀ x, FstL g N (r.right.drop (p + 1)) x → S4.testBit x = true) ∧ (emp g N (r.right.drop (p + 1)) = true → r.left ∈ L4)) → DoneP g N L4 S4 (L.getD k 0) r (p + 1) := fun h h' a ha e => by
                      rcases Nat.lt_or_ge a p with z | z
                      · exact h a z e
                      · have : a = p := by omega
                        subst this; exact h' e
                    repeat' first | ((first | refine Br.dec ?_ ?_ | refine Br.eqi ?_ ?_) <;> intro h <;> try (exfalso; omega)) | (simp (disch := (first | omega | (simp only [vlen]; first | done | omega))) only [vam, hre, List.take_length, q6, ↓vAq, vBq, ↓reduceIte, Nat.reduceBEq, Nat.reduceEqDiff, Nat.reduceLT, Nat.reduceLeDiff, Nat.reduceAdd, Nat.reduceMul, Nat.reduceSub, reduceCtorEq, Int.reduceToNat]) | (refine Br.mk ?_ ?_ <;> intro h) | (refine BrN.mk (fun h => ?_) ?_) | (refine AltVC.mk ?_ ?_)
                    · have heq : r.right.getD p 0 = g.k + L.getD k 0 := by assumption
                      have hT : fstS g N (r.right.drop (p + 1)) < 2 ^ 3 := setOf_lt
                      have hTx : ∀ x, (fstS g N (r.right.drop (p + 1))).testBit x = true → FstL g N (r.right.drop (p + 1)) x := fun x hx => by
                        have hx3 : x < 3 := by
                          rcases Nat.lt_or_ge x 3 with h | h
                          · exact h
                          · rw [Nat.testBit_lt_two_pow (Nat.lt_of_lt_of_le hT (Nat.pow_le_pow_right (by omega) h))] at hx; cases hx
                        exact (fstS_bit hx3).1 hx
                      have hTy : ∀ x, FstL g N (r.right.drop (p + 1)) x → (fstS g N (r.right.drop (p + 1))).testBit x = true := fun x hx => (fstS_bit (fstLL_lt hv hx)).2 hx
                      have hbk : Bk g N i (L.getD k 0).toNat := by rw [← q6]; exact q2.snd _ (getD_mem q5)
                      have ok4 : FoOk g N i L3 (S3 ||| fstS g N (r.right.drop (p + 1))) := q2.orS (by omega) fun x hx => by
                        refine bk_fol hbk ?_
                        have := Fol.fst r p x hm hrc hq (by omega) (hTx x hx)
                        rwa [show (r.right.getD p 0 - g.k).toNat = (L.getD k 0).toNat by omega] at this
                      have hS4 : ∀ x, FstL g N (r.right.drop (p + 1)) x → (S3 ||| fstS g N (r.right.drop (p + 1))).testBit x = true := fun x hx => by rw [Nat.testBit_or, hTy x hx, Bool.or_true]
                      have hbl := fun (he : emp g N (r.right.drop (p + 1)) = true) => Bk.step _ r p hbk hm hrc hq (by omega) he
                      have hgr : Grow L3 L3 S3 (S3 ||| fstS g N (r.right.drop (p + 1))) := .orS
                      have hT15 := p16 hT (by omega)
                      have horT := orN (S := S3) (T := fstS g N (r.right.drop (p + 1))) (by omega) (by omega)
                      have hhas := hasL_spec L3 (by omega) r.left
                      refine CallVC.eq (hfirsts r hm (p + 1)) ?_
                      generalize fstS g N (r.right.drop (p + 1)) = T at hT hTx hTy ok4 hS4 hgr hT15 horT ⊢
                      have hgo := hgone r hm (p + 1)
                      repeat' first | ((first | refine Br.dec ?_ ?_ | refine Br.eqi ?_ ?_) <;> intro h <;> try (exfalso; omega)) | (simp (disch := (first | omega | (simp only [vlen]; first | done | omega))) only [vam, hre, List.take_length, ↓vAq, vBq, ↓reduceIte, Nat.reduceBEq, Nat.reduceEqDiff, Nat.reduceLT, Nat.reduceLeDiff, Nat.reduceAdd, Nat.reduceMul, Nat.reduceSub, reduceCtorEq, Int.reduceToNat]) | (refine Br.mk ?_ ?_ <;> intro h) | (refine BrN.mk (fun h => ?_) ?_) | (refine AltVC.mk ?_ ?_)
                      rw [horT]
                      generalize S3 ||| T = S4 at ok4 hS4 hgr ⊢
                      refine CallVC.eq hgo ?_
                      cases he : emp g N (r.right.drop (p + 1)) with
                      | true =>
                        have hbl2 := hbl he
                        by_cases hx : r.left ∈ L3
                        · rw [decide_eq_true hx] at hhas
                          repeat' first | ((first | refine Br.dec ?_ ?_ | refine Br.eqi ?_ ?_) <;> intro h <;> try (exfalso; omega)) | (simp (disch := (first | omega | (simp only [vlen]; first | done | omega))) only [vam, hre, ↓vAq, vBq, ↓reduceIte, Nat.reduceBEq, Nat.reduceEqDiff, Nat.reduceLT, Nat.reduceLeDiff, Nat.reduceAdd, Nat.reduceMul, Nat.reduceSub, reduceCtorEq, Int.reduceToNat]) | (refine Br.mk ?_ ?_ <;> intro h) | (refine BrN.mk (fun h => ?_) ?_) | (refine AltVC.mk ?_ ?_)
                          refine CallVC.eqo hhas (by repeat' first | ((first | refine Br.dec ?_ ?_ | refine Br.eqi ?_ ?_) <;> intro h <;> try (exfalso; omega)) | (simp (disch := (first | omega | (simp only [vlen]; first | done | omega))) only [vam, ↓vAq, vBq, ↓reduceIte, Nat.reduceBEq, Nat.reduceEqDiff, Nat.reduceLT, Nat.reduceLeDiff, Nat.reduceAdd, Nat.reduceMul, Nat.reduceSub, reduceCtorEq, Int.reduceToNat]) | (refine Br.mk ?_ ?_ <;> intro h) | (refine BrN.mk (fun h => ?_) ?_) | (refine AltVC.mk ?_ ?_)) ?_
                          repeat' first | ((first | refine Br.dec ?_ ?_ | refine Br.eqi ?_ ?_) <;> intro h <;> try (exfalso; omega)) | (simp (disch := (first | omega | (simp only [vlen]; first | done | omega))) only [vam, hre, ↓vAq, vBq, ↓reduceIte, Nat.reduceBEq, Nat.reduceEqDiff, Nat.reduceLT, Nat.reduceLeDiff, Nat.reduceAdd, Nat.reduceMul, Nat.reduceSub, reduceCtorEq, Int.reduceToNat]) | (refine Br.mk ?_ ?_ <;> intro h) | (refine BrN.mk (fun h => ?_) ?_) | (refine AltVC.mk ?_ ?_)
                          exact loopK.mk (L3, S4, p + 1) (by simp (disch := (first | omega | (simp only [vlen]; first | done | omega))) only [↓vAq, vBq, ↓reduceIte, Nat.reduceBEq, Nat.reduceEqDiff, Nat.reduceLT, Nat.reduceLeDiff, Nat.reduceAdd, Nat.reduceMul, Nat.reduceSub, reduceCtorEq, Int.reduceToNat]) ⟨by simp only; omega, ok4, q3.trans hgr, hpsucc (q4.grow hgr) fun _ => ⟨hS4, fun _ => hx⟩⟩ (by simp only; omega) (by (simp (disch := (first | omega | (simp only [vlen]; first | done | omega))) only [Fits_u, Fits_m, Fits_nil, List.length_append, vam, ↓vAq, vBq, ↓reduceIte, Nat.reduceBEq, Nat.reduceEqDiff, Nat.reduceLT, Nat.reduceLeDiff, Nat.reduceAdd, Nat.reduceMul, Nat.reduceSub, reduceCtorEq, Int.reduceToNat] <;> (repeat' first | rfl | apply And.intro)))
                        · have e : addI L3 r.left = L3 ++ [r.left] := by rw [addI, if_neg hx]
                          rw [decide_eq_false hx] at hhas
                          have ok5 := ok4.add hleft hbl2
                          have hga : Grow L3 (addI L3 r.left) S4 S4 := .add
                          have hmem : r.left ∈ addI L3 r.left := addI_mem.2 (.inr rfl)
                          rw [e] at ok5 hga hmem
                          repeat' first | ((first | refine Br.dec ?_ ?_ | refine Br.eqi ?_ ?_) <;> intro h <;> try (exfalso; omega)) | (simp (disch := (first | omega | (simp only [vlen]; first | done | omega))) only [vam, hre, ↓vAq, vBq, ↓reduceIte, Nat.reduceBEq, Nat.reduceEqDiff, Nat.reduceLT, Nat.reduceLeDiff, Nat.reduceAdd, Nat.reduceMul, Nat.reduceSub, reduceCtorEq, Int.reduceToNat]) | (refine Br.mk ?_ ?_ <;> intro h) | (refine BrN.mk (fun h => ?_) ?_) | (refine AltVC.mk ?_ ?_)
                          refine CallVC.eqo hhas (by repeat' first | ((first | refine Br.dec ?_ ?_ | refine Br.eqi ?_ ?_) <;> intro h <;> try (exfalso; omega)) | (simp (disch := (first | omega | (simp only [vlen]; first | done | omega))) only [vam, ↓vAq, vBq, ↓reduceIte, Nat.reduceBEq, Nat.reduceEqDiff, Nat.reduceLT, Nat.reduceLeDiff, Nat.reduceAdd, Nat.reduceMul, Nat.reduceSub, reduceCtorEq, Int.reduceToNat]) | (refine Br.mk ?_ ?_ <;> intro h) | (refine BrN.mk (fun h => ?_) ?_) | (refine AltVC.mk ?_ ?_)) ?_
                          repeat' first | ((first | refine Br.dec ?_ ?_ | refine Br.eqi ?_ ?_) <;> intro h <;> try (exfalso; omega)) | (simp (disch := (first | omega | (simp only [vlen]; first | done | omega))) only [vam, hre, ↓vAq, vBq, ↓reduceIte, Nat.reduceBEq, Nat.reduceEqDiff, Nat.reduceLT, Nat.reduceLeDiff, Nat.reduceAdd, Nat.reduceMul, Nat.reduceSub, reduceCtorEq, Int.reduceToNat]) | (refine Br.mk ?_ ?_ <;> intro h) | (refine BrN.mk (fun h => ?_) ?_) | (refine AltVC.mk ?_ ?_)
                          exact loopK.mk (L3 ++ [r.left], S4, p + 1) (by simp (disch := (first | omega | (simp only [vlen]; first | done | omega))) only [↓vAq, vBq, ↓reduceIte, Nat.reduceBEq, Nat.reduceEqDiff, Nat.reduceLT, Nat.reduceLeDiff, Nat.reduceAdd, Nat.reduceMul, Nat.reduceSub, reduceCtorEq, Int.reduceToNat]) ⟨by simp only; omega, ok5, q3.trans (hgr.trans hga), hpsucc (q4.grow (hgr.trans hga)) fun _ => ⟨hS4, fun _ => hmem⟩⟩ (by simp only; omega) (by (simp (disch := (first | omega | (simp only [vlen]; first | done | omega))) only [Fits_u, Fits_m, Fits_nil, List.length_append, vam, List.length_append, List.length_singleton, ↓vAq, vBq, ↓reduceIte, Nat.reduceBEq, Nat.reduceEqDiff, Nat.reduceLT, Nat.reduceLeDiff, Nat.reduceAdd, Nat.reduceMul, Nat.reduceSub, reduceCtorEq, Int.reduceToNat] <;> (repeat' first | rfl | apply And.intro)))
                      | false =>
                        repeat' first | ((first | refine Br.dec ?_ ?_ | refine Br.eqi ?_ ?_) <;> intro h <;> try (exfalso; omega)) | (simp (disch := (first | omega | (simp only [vlen]; first | done | omega))) only [vam, hre, ↓vAq, vBq, ↓reduceIte, Nat.reduceBEq, Nat.reduceEqDiff, Nat.reduceLT, Nat.reduceLeDiff, Nat.reduceAdd, Nat.reduceMul, Nat.reduceSub, reduceCtorEq, Int.reduceToNat]) | (refine Br.mk ?_ ?_ <;> intro h) | (refine BrN.mk (fun h => ?_) ?_) | (refine AltVC.mk ?_ ?_)
                        exact loopK.mk (L3, S4, p + 1) (by simp (disch := (first | omega | (simp only [vlen]; first | done | omega))) only [↓vAq, vBq, ↓reduceIte, Nat.reduceBEq, Nat.reduceEqDiff, Nat.reduceLT, Nat.reduceLeDiff, Nat.reduceAdd, Nat.reduceMul, Nat.reduceSub, reduceCtorEq, Int.reduceToNat]) ⟨by simp only; omega, ok4, q3.trans hgr, hpsucc (q4.grow hgr) fun _ => ⟨hS4, fun h => by rw [he] at h; cases h⟩⟩ (by simp only; omega) (by (simp (disch := (first | omega | (simp only [vlen]; first | done | omega))) only [Fits_u, Fits_m, Fits_nil, List.length_append, vam, ↓vAq, vBq, ↓reduceIte, Nat.reduceBEq, Nat.reduceEqDiff, Nat.reduceLT, Nat.reduceLeDiff, Nat.reduceAdd, Nat.reduceMul, Nat.reduceSub, reduceCtorEq, Int.reduceToNat] <;> (repeat' first | rfl | apply And.intro)))
                    · exact loopK.mk (L3, S3, p + 1) (by simp (disch := (first | omega | (simp only [vlen]; first | done | omega))) only [↓vAq, vBq, ↓reduceIte, Nat.reduceBEq, Nat.reduceEqDiff, Nat.reduceLT, Nat.reduceLeDiff, Nat.reduceAdd, Nat.reduceMul, Nat.reduceSub, reduceCtorEq, Int.reduceToNat]) ⟨by simp only; omega, q2, q3, hpsucc q4 fun e => absurd e (by assumption)⟩ (by simp only; omega) (by (simp (disch := (first | omega | (simp only [vlen]; first | done | omega))) only [Fits_u, Fits_m, Fits_nil, List.length_append, vam, ↓vAq, vBq, ↓reduceIte, Nat.reduceBEq, Nat.reduceEqDiff, Nat.reduceLT, Nat.reduceLeDiff, Nat.reduceAdd, Nat.reduceMul, Nat.reduceSub, reduceCtorEq, Int.reduceToNat] <;> (repeat' first | rfl | apply And.intro)))
                  · have hqe : p = r.right.length := by omega
                    subst hqe
                    repeat' first | ((first | refine Br.dec ?_ ?_ | refine Br.eqi ?_ ?_) <;> intro h <;> try (exfalso; omega)) | (simp (disch := (first | omega | (simp only [vlen]; first | done | omega))) only [vam, ↓vAq, vBq, ↓reduceIte, Nat.reduceBEq, Nat.reduceEqDiff, Nat.reduceLT, Nat.reduceLeDiff, Nat.reduceAdd, Nat.reduceMul, Nat.reduceSub, reduceCtorEq, Int.reduceToNat]) | (refine Br.mk ?_ ?_ <;> intro h) | (refine BrN.mk (fun h => ?_) ?_) | (refine AltVC.mk ?_ ?_)
                    exact loopK.mk (L3, S3, j + 1) (by simp (disch := (first | omega | (simp only [vlen]; first | done | omega))) only [↓vAq, vBq, ↓reduceIte, Nat.reduceBEq, Nat.reduceEqDiff, Nat.reduceLT, Nat.reduceLeDiff, Nat.reduceAdd, Nat.reduceMul, Nat.reduceSub, reduceCtorEq, Int.reduceToNat]) ⟨by simp only; omega, q2, k3.trans q3, hsucc (k4.grow q3) fun _ => q4⟩ (by simp only; omega) (by (simp (disch := (first | omega | (simp only [vlen]; first | done | omega))) only [Fits_u, Fits_m, Fits_nil, List.length_append, vam, ↓vAq, vBq, ↓reduceIte, Nat.reduceBEq, Nat.reduceEqDiff, Nat.reduceLT, Nat.reduceLeDiff, Nat.reduceAdd, Nat.reduceMul, Nat.reduceSub, reduceCtorEq, Int.reduceToNat] <;> (repeat' first | rfl | apply And.intro)))
              · have hrc2 : C.testBit r.left.toNat = false := by
                  cases h : C.testBit r.left.toNat with
                  | true => exact absurd ((hCb _).1 h) hrc
                  | false => rfl
                rw [hrc2]
                repeat' first | ((first | refine Br.dec ?_ ?_ | refine Br.eqi ?_ ?_) <;> intro h <;> try (exfalso; omega)) | (simp (disch := (first | omega | (simp only [vlen]; first | done | omega))) only [vam, hre, ↓vAq, vBq, ↓reduceIte, Nat.reduceBEq, Nat.reduceEqDiff, Nat.reduceLT, Nat.reduceLeDiff, Nat.reduceAdd, Nat.reduceMul, Nat.reduceSub, reduceCtorEq, Int.reduceToNat]) | (refine Br.mk ?_ ?_ <;> intro h) | (refine BrN.mk (fun h => ?_) ?_) | (refine AltVC.mk ?_ ?_)
                exact loopK.mk (L2, S2, j + 1) (by simp (disch := (first | omega | (simp only [vlen]; first | done | omega))) only [↓vAq, vBq, ↓reduceIte, Nat.reduceBEq, Nat.reduceEqDiff, Nat.reduceLT, Nat.reduceLeDiff, Nat.reduceAdd, Nat.reduceMul, Nat.reduceSub, reduceCtorEq, Int.reduceToNat]) ⟨by simp only; omega, k2, k3, hsucc k4 fun h => absurd h hrc⟩ (by simp only; omega) (by (simp (disch := (first | omega | (simp only [vlen]; first | done | omega))) only [Fits_u, Fits_m, Fits_nil, List.length_append, vam, ↓vAq, vBq, ↓reduceIte, Nat.reduceBEq, Nat.reduceEqDiff, Nat.reduceLT, Nat.reduceLeDiff, Nat.reduceAdd, Nat.reduceMul, Nat.reduceSub, reduceCtorEq, Int.reduceToNat] <;> (repeat' first | rfl | apply And.intro)))
            · have he : j = g.rules.length := by omega
              subst he
              repeat' first | ((first | refine Br.dec ?_ ?_ | refine Br.eqi ?_ ?_) <;> intro h <;> try (exfalso; omega)) | (simp (disch := (first | omega | (simp only [vlen]; first | done | omega))) only [vam, ↓vAq, vBq, ↓reduceIte, Nat.reduceBEq, Nat.reduceEqDiff, Nat.reduceLT, Nat.reduceLeDiff, Nat.reduceAdd, Nat.reduceMul, Nat.reduceSub, reduceCtorEq, Int.reduceToNat]) | (refine Br.mk ?_ ?_ <;> intro h) | (refine BrN.mk (fun h => ?_) ?_) | (refine AltVC.mk ?_ ?_)
              exact loopK.mk (L2, S2, k + 1) (by simp (disch := (first | omega | (simp only [vlen]; first | done | omega))) only [↓vAq, vBq, ↓reduceIte, Nat.reduceBEq, Nat.reduceEqDiff, Nat.reduceLT, Nat.reduceLeDiff, Nat.reduceAdd, Nat.reduceMul, Nat.reduceSub, reduceCtorEq, Int.reduceToNat]) ⟨by simp only; omega, k2, fun a ha => by
                rcases Nat.lt_or_ge a k with q | q
                · exact (dk1.grow k3 (Nat.le_of_lt hkl)) a q
                · have : a = k := by simp only at ha; omega
                  subst this
                  rw [k6]
                  exact ⟨fun e => k3.bit _ (st1 e), k4⟩⟩ (by simp only; omega) (by (simp (disch := (first | omega | (simp only [vlen]; first | done | omega))) only [Fits_u, Fits_m, Fits_nil, List.length_append, vam, ↓vAq, vBq, ↓reduceIte, Nat.reduceBEq, Nat.reduceEqDiff, Nat.reduceLT, Nat.reduceLeDiff, Nat.reduceAdd, Nat.reduceMul, Nat.reduceSub, reduceCtorEq, Int.reduceToNat] <;> (repeat' first | rfl | apply And.intro)))
      · have hkk : k = L.length := by omega
        subst hkk
        repeat' first | ((first | refine Br.dec ?_ ?_ | refine Br.eqi ?_ ?_) <;> intro h <;> try (exfalso; omega)) | (simp (disch := (first | omega | (simp only [vlen]; first | done | omega))) only [vam, ↓vAq, vBq, ↓reduceIte, Nat.reduceBEq, Nat.reduceEqDiff, Nat.reduceLT, Nat.reduceLeDiff, Nat.reduceAdd, Nat.reduceMul, Nat.reduceSub, reduceCtorEq, Int.reduceToNat]) | (refine Br.mk ?_ ?_ <;> intro h) | (refine BrN.mk (fun h => ?_) ?_) | (refine AltVC.mk ?_ ?_)
        exact fin_mk (by rw [folS_is hv h2 h3])
  · have hbi : C.testBit (i : Int).toNat = false := by
      rw [Int.toNat_natCast]
      cases h : C.testBit i with
      | true => exact absurd ((hCb i).1 h) hri
      | false => rfl
    rw [hbi]
    repeat' first | ((first | refine Br.dec ?_ ?_ | refine Br.eqi ?_ ?_) <;> intro h <;> try (exfalso; omega)) | (simp (disch := (first | omega | (simp only [vlen]; first | done | omega))) only [vam, ↓vAq, vBq, ↓reduceIte, Nat.reduceBEq, Nat.reduceEqDiff, Nat.reduceLT, Nat.reduceLeDiff, Nat.reduceAdd, Nat.reduceMul, Nat.reduceSub, reduceCtorEq, Int.reduceToNat]) | (refine Br.mk ?_ ?_ <;> intro h) | (refine BrN.mk (fun h => ?_) ?_) | (refine AltVC.mk ?_ ?_)
    exact fin_mk (by rw [folS_zero hri]; rfl)
end Go.Proofs.Ytplkkacfjepgpaa
