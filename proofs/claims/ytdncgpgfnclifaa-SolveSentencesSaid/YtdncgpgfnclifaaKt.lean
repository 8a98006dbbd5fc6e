/-
  solve.Sentence: the walk.
-/
import Derived.Test.YtdncgpgfnclifaaMg17
namespace Go.Proofs.Ytdncgpgfnclifaa
open Go.Dm
set_option linter.unusedSimpArgs false
set_option linter.unnecessarySimpa false
set_option linter.unusedVariables false
set_option linter.defProp false
def vkt := And.intro vmr vkr
def nxM (m : Dm.Machine) (i : Nat) (s : Int) : Nat := (((m.next.getD i default).getD s.toNat 0)).toNat
def wyR (n : Nat) (R : Nat → Nat) : List Int := tab n fun b => ((R b : Nat) : Int)
theorem wyR_len {n : Nat} {R : Nat → Nat} : (wyR n R).length = n := by simp [wyR, tab]
def wyC (n i : Nat) (W : Nat → Nat → Nat) (j : Nat) : D := if j < i then .own false 1 (i64s (wyR n (W j))) else .nl
section
variable {n i j τ c : Nat} {W : Nat → Nat → Nat}
theorem wyC_clo : (wyC n i W j).clo' = true := by unfold wyC; split <;> first | rfl | exact clo'_nl
theorem wyC_kill : (wyC n i W j).kill τ = wyC n i W j := by unfold wyC; split <;> first | (simp [kill_oo]; done) | exact kill_nl
theorem wyC_trim : (wyC n i W j).trim c = wyC n i W j := by unfold wyC; split <;> first | (simp [trim_oo]; done) | exact trim_nl
theorem wyC_lent {s : Go.Dm.S} {ι : List Nat} : (wyC n i W j).lent s ι = wyC n i W j := by unfold wyC; split <;> first | exact lent_oo | exact lent_nl
theorem wyC_nl : wyC n i W i = .nl := if_neg (Nat.lt_irrefl _)
theorem wyC_zero : wyC n 0 W j = .nl := if_neg (Nat.not_lt_zero _)
theorem wyC_step {R : Nat → Nat} : (if j = i then D.own false 1 (i64s (wyR n R)) else wyC n i W j) = wyC n (i + 1) (fun a => if a = i then R else W a) j := by
  unfold wyC
  by_cases e : j = i
  · rw [if_pos e, if_pos (by omega)]; simp only [if_pos e]
  · rw [if_neg e]
    by_cases h : j < i
    · rw [if_pos h, if_pos (by omega)]; simp only [if_neg e]
    · rw [if_neg h, if_neg (by omega)]
end
theorem obTabK {n : Nat} {f g : Nat → D} {a b b' : Bool} {c : Kd} (h : ∀ j, j < n → f j = g j) (hb : b = b') : some (⟨1, tabD n f, a, b, c⟩ : Ob) = some ⟨1, tabD n g, a, b', c⟩ := by rw [tabD_ext h, hb]
theorem tabD_lent {n : Nat} {f : Nat → D} {s : Go.Dm.S} {ι : List Nat} : ((tabD n f).map fun e => e.map (D.lent s ι)) = tabD n fun j => (f j).lent s ι := by simp [tabD]
theorem if_lent {p : Prop} [Decidable p] {x y : D} {s : Go.Dm.S} {ι : List Nat} : (if p then x else y).lent s ι = if p then x.lent s ι else y.lent s ι := by split <;> rfl
theorem wyR_take {n : Nat} {R : Nat → Nat} : (wyR n R).take n = wyR n R := List.take_of_length_le (by simp [wyR, tab])
theorem wyR_set {n to r : Nat} {R : Nat → Nat} : (wyR n R).set to ((r : Nat) : Int) = wyR n fun b => if b = to then r else R b := by
  apply List.ext_getElem
  · simp [wyR, tab]
  · intro b h1 h2
    simp only [wyR, tab, List.getElem_set, List.getElem_map, List.getElem_range]
    by_cases e : to = b
    · rw [if_pos e, if_pos e.symm]
    · rw [if_neg e, if_neg fun h => e h.symm]
theorem wy_get {n b : Nat} {R : Nat → Nat} (h : b < n) : (i64s (wyR n R)).getD b [] = [.v (.int .i64 ((R b : Nat) : Int))] := by simp [wyR, i64s, tab, List.getD_eq_getElem?_getD, h]
def vku := And.intro vkt <| And.intro @wyR_take <| And.intro @tabD_lent <| And.intro @if_lent <| And.intro @wyC_lent <| And.intro @wyR_set <| And.intro @wy_get <| And.intro @wyC_kill <| And.intro @wyC_trim <| And.intro @wyC_clo <| And.intro @wyC_nl @wyR_len
structure KtA (m : Dm.Machine) (n kk : Nat) (l : List Dm.Node) (W : Nat → Nat → Nat) (i : Nat) : Prop where
  ok : NodesOk m.k l
  pos : 0 < l.length
  non : lang l 0 = noL
  lt : ∀ a b, a < i → b < n → W a b < l.length
  lg : ∀ a b, a < i → b < n → lang l (W a b) = zL (nxM m) a kk b
theorem KtA.ext {m : Dm.Machine} {n kk : Nat} {l l' : List Dm.Node} {W : Nat → Nat → Nat} {i : Nat} (h : KtA m n kk l W i) (hv : NodesOk m.k l') (he : ∃ e, l' = l ++ e) : KtA m n kk l' W i := by
  obtain ⟨e, rfl⟩ := he
  refine ⟨hv, by rw [List.length_append]; have := h.pos; omega, by rw [lang_pre h.pos]; exact h.non, fun a b ha hb => ?_, fun a b ha hb => ?_⟩
  · have := h.lt a b ha hb
    rw [List.length_append]; omega
  · rw [lang_pre (h.lt a b ha hb)]; exact h.lg a b ha hb
theorem kt_or {m : Dm.Machine} {n kk : Nat} {l l1 l2 : List Dm.Node} {W : Nat → Nat → Nat} {R : Nat → Nat} {i a to r1 r2 : Nat} (hA : KtA m n kk l W i) (hR : ∀ b, b < n → R b < l.length ∧ lang l (R b) = zL (nxM m) i a b) (hto : nxM m i (a : Int) = to) (htn : to < n)
    (h1 : PoN m.k l l1 r1 (stepL (langs l) ⟨3, a, 0⟩)) (h2 : PoN m.k l1 l2 r2 (orL (lang l1 (R to)) (lang l1 r1))) : KtA m n kk l2 W i ∧ l2.length ≤ l.length + 2 ∧ ∀ b, b < n → (if b = to then r2 else R b) < l2.length ∧ lang l2 (if b = to then r2 else R b) = zL (nxM m) i (a + 1) b := by
  obtain ⟨ok1, ⟨e1, rfl⟩, hl1, hr1, hg1⟩ := h1
  obtain ⟨ok2, ⟨e2, rfl⟩, hl2, hr2, hg2⟩ := h2
  have hp : ∀ b, b < n → lang (l ++ e1 ++ e2) (R b) = lang l (R b) := fun b hb => by rw [List.append_assoc, lang_pre (hR b hb).1]
  refine ⟨hA.ext ok2 ⟨e1 ++ e2, by rw [List.append_assoc]⟩, by omega, fun b hb => ?_⟩
  by_cases e : b = to
  · subst e
    rw [if_pos rfl]
    refine ⟨hr2, ?_⟩
    rw [hg2, hg1, lang_pre (hR b hb).1, (hR b hb).2]
    have := @zL_hit (nxM m) i a
    rw [hto] at this
    rw [this]; rfl
  · rw [if_neg e]
    refine ⟨?_, ?_⟩
    · have := (hR b hb).1
      simp only [List.length_append]; omega
    · rw [hp b hb, (hR b hb).2, zL_miss (by rw [hto]; exact e)]
structure KtB (m : Dm.Machine) (n : Nat) (l : List Dm.Node) (W : Nat → Nat → Nat) (k : Nat) : Prop where
  ok : NodesOk m.k l
  pos : 0 < l.length
  non : lang l 0 = noL
  lt : ∀ a b, a < n → b < n → W a b < l.length
  lg : ∀ a b, a < n → b < n → lang l (W a b) = Pt (nxM m) m.k k a b
theorem KtA.b {m : Dm.Machine} {n kk : Nat} {l : List Dm.Node} {W : Nat → Nat → Nat} (h : KtA m n kk l W n) (hk : m.k = kk) : KtB m n l W 0 :=
  ⟨h.ok, h.pos, h.non, h.lt, fun a b ha hb => by rw [h.lg a b ha hb]; exact zL_all hk⟩
theorem KtB.ext {m : Dm.Machine} {n k : Nat} {l l' : List Dm.Node} {W : Nat → Nat → Nat} (h : KtB m n l W k) (hv : NodesOk m.k l') (he : ∃ e, l' = l ++ e) : KtB m n l' W k := by
  obtain ⟨e, rfl⟩ := he
  refine ⟨hv, by rw [List.length_append]; have := h.pos; omega, by rw [lang_pre h.pos]; exact h.non, fun a b ha hb => ?_, fun a b ha hb => ?_⟩
  · have := h.lt a b ha hb
    rw [List.length_append]; omega
  · rw [lang_pre (h.lt a b ha hb)]; exact h.lg a b ha hb
theorem kt_by {m : Dm.Machine} {n k p j r1 : Nat} {l la lb : List Dm.Node} {W : Nat → Nat → Nat} {ra rb : Nat} (hB : KtB m n l W k) (hr1 : r1 < l.length) (hp : p < n) (hk : k < n) (hj : j < n) (hea : ∃ e, la = l ++ e) (hla : la.length ≤ l.length + 1) (okb : NodesOk m.k lb) (heb : ∃ e, lb = la ++ e) (hlb : lb.length ≤ la.length + 1) (hrb : rb < lb.length)
    (hga : lang la ra = catL (lang l r1) (lang l (W k j))) (hgb : lang lb rb = catL (lang la (W p k)) (lang la ra)) : NodesOk m.k lb ∧ lb.length ≤ l.length + 2 ∧ (∃ e, lb = l ++ e) ∧ rb < lb.length ∧ lang lb rb = catL (lang l (W p k)) (catL (lang l r1) (lang l (W k j))) := by
  obtain ⟨e1, rfl⟩ := hea
  obtain ⟨e2, rfl⟩ := heb
  refine ⟨okb, by omega, ⟨e1 ++ e2, by rw [List.append_assoc]⟩, hrb, ?_⟩
  rw [hgb, hga, lang_pre (hB.lt p k hp hk)]
theorem kt_row {m : Dm.Machine} {n k p j r1 : Nat} {l l2 l3 : List Dm.Node} {W V : Nat → Nat → Nat} {R : Nat → Nat} {r2 r3 : Nat} (hB : KtB m n l W k) (hk : k < n) (hp : p < n) (hj : j < n) (hr1 : r1 < l.length) (hg1 : lang l r1 = Star (Pt (nxM m) m.k k k k)) (hll : l.length ≤ 51 + k * 150 + p * 21 + j * 3)
    (hV : ∀ a b, a < p → b < n → V a b < l.length ∧ lang l (V a b) = Pt (nxM m) m.k (k + 1) a b) (hR : ∀ b, b < j → R b < l.length ∧ lang l (R b) = Pt (nxM m) m.k (k + 1) p b) (he2 : ∃ e, l2 = l ++ e) (hl2 : l2.length ≤ l.length + 2) (hg2 : lang l2 r2 = catL (lang l (W p k)) (catL (lang l r1) (lang l (W k j))))
    (ok3 : NodesOk m.k l3) (he3 : ∃ e, l3 = l2 ++ e) (hl3 : l3.length ≤ l2.length + 1) (hr3 : r3 < l3.length) (hg3 : lang l3 r3 = orL (lang l2 (W p j)) (lang l2 r2)) :
    j + 1 ≤ n ∧ KtB m n l3 W k ∧ r1 < l3.length ∧ lang l3 r1 = Star (Pt (nxM m) m.k k k k) ∧ l3.length ≤ 51 + k * 150 + p * 21 + (j + 1) * 3 ∧ (∀ a b, a < p → b < n → V a b < l3.length ∧ lang l3 (V a b) = Pt (nxM m) m.k (k + 1) a b) ∧ ∀ b, b < j + 1 → (if b = j then r3 else R b) < l3.length ∧ lang l3 (if b = j then r3 else R b) = Pt (nxM m) m.k (k + 1) p b := by
  obtain ⟨e2, rfl⟩ := he2
  obtain ⟨e3, rfl⟩ := he3
  have hl : ∀ x, x < l.length → x < (l ++ e2 ++ e3).length := fun x hx => by rw [List.append_assoc, List.length_append]; omega
  have hq : ∀ x, x < l.length → lang (l ++ e2 ++ e3) x = lang l x := fun x hx => by rw [List.append_assoc, lang_pre hx]
  refine ⟨hj, hB.ext ok3 ⟨e2 ++ e3, by rw [List.append_assoc]⟩, hl _ hr1, by rw [hq _ hr1, hg1], by omega, fun a b ha hb => ⟨hl _ (hV a b ha hb).1, by rw [hq _ (hV a b ha hb).1, (hV a b ha hb).2]⟩, fun b hb => ?_⟩
  by_cases e : b = j
  · rw [if_pos e]
    refine ⟨hr3, ?_⟩
    rw [hg3, hg2, lang_pre (hB.lt p j hp hj), hB.lg p j hp hj, hB.lg p k hp hk, hB.lg k j hk hj, hg1, e, pt_step]
  · rw [if_neg e]
    have hb2 := hR b (by omega)
    exact ⟨hl _ hb2.1, by rw [hq _ hb2.1, hb2.2]⟩
theorem wyC_all {n : Nat} {W : Nat → Nat → Nat} : (tabD n fun j => wyC n n W j) = tabD n fun j => .own false 1 (i64s (wyR n (W j))) := tabD_ext fun j hj => if_pos hj
def SoR (m : Dm.Machine) (d : D) : Prop := (mcode m ≠ 0 ∧ d = .tu [.sl 3 [], iv .i64 (mcode m)]) ∨ (mcode m = 0 ∧ ∃ l, NodesOk m.k l ∧ 0 < l.length ∧ l.length ≤ 5000 ∧ lang l (l.length - 1) = fL (nxM m) m.k m.n.toNat m.start.toNat (fun s => m.final.toNat.testBit s) m.n.toNat ∧ d = .tu [.sl 3 (tbl nodD l), iv .i64 0])
set_option maxRecDepth 10000 in
set_option maxHeartbeats 4000000 in
theorem sentence_spec (m : Dm.Machine) (hm : m.ok) (hf : 0 ≤ m.final ∧ m.final ≤ 4294967295) : Dm.Spec Try.prog 4 [.ag (macD m)] (SoR m) := by
  refine spec_of_vc mixed Try.func4 c4 (by rw [show Try.f4.ntmps = _ from Try.ntmps4]; simp) ?_
  unfold m4 r4
  have hck := mCheck_spec m hm
  by_cases hc : mcode m = 0
  rotate_left
  · repeat' first | ((first | refine Br.dec ?_ ?_ | refine Br.eqi ?_ ?_) <;> intro h <;> try (exfalso; omega)) | (simp (disch := first | omega | (simp only [vlen]; first | done | omega)) only [vkt, ↓vAq, vBq, ↓reduceIte, Nat.reduceBEq, Nat.reduceEqDiff, Nat.reduceLT, Nat.reduceLeDiff, Nat.reduceAdd, Nat.reduceMul, Nat.reduceSub, reduceCtorEq, Int.reduceToNat]) | (refine Br.mk ?_ ?_ <;> intro h) | (refine BrN.mk (fun h => ?_) ?_) | (refine AltVC.mk ?_ ?_)
    refine CallVC.eq hck ?_
    repeat' first | ((first | refine Br.dec ?_ ?_ | refine Br.eqi ?_ ?_) <;> intro h <;> try (exfalso; omega)) | (simp (disch := first | omega | (simp only [vlen]; first | done | omega)) only [vkt, ↓vAq, vBq, ↓reduceIte, Nat.reduceBEq, Nat.reduceEqDiff, Nat.reduceLT, Nat.reduceLeDiff, Nat.reduceAdd, Nat.reduceMul, Nat.reduceSub, reduceCtorEq, Int.reduceToNat]) | (refine Br.mk ?_ ?_ <;> intro h) | (refine BrN.mk (fun h => ?_) ?_) | (refine AltVC.mk ?_ ?_)
    exact fin_mk (.inl ⟨hc, rfl⟩)
  rw [hc] at hck
  repeat' first | ((first | refine Br.dec ?_ ?_ | refine Br.eqi ?_ ?_) <;> intro h <;> try (exfalso; omega)) | (simp (disch := first | omega | (simp only [vlen]; first | done | omega)) only [vkt, ↓vAq, vBq, ↓reduceIte, Nat.reduceBEq, Nat.reduceEqDiff, Nat.reduceLT, Nat.reduceLeDiff, Nat.reduceAdd, Nat.reduceMul, Nat.reduceSub, reduceCtorEq, Int.reduceToNat]) | (refine Br.mk ?_ ?_ <;> intro h) | (refine BrN.mk (fun h => ?_) ?_) | (refine AltVC.mk ?_ ?_)
  refine CallVC.eq hck ?_
  repeat' first | ((first | refine Br.dec ?_ ?_ | refine Br.eqi ?_ ?_) <;> intro h <;> try (exfalso; omega)) | (simp (disch := first | omega | (simp only [vlen]; first | done | omega)) only [vkt, ↓vAq, vBq, ↓reduceIte, Nat.reduceBEq, Nat.reduceEqDiff, Nat.reduceLT, Nat.reduceLeDiff, Nat.reduceAdd, Nat.reduceMul, Nat.reduceSub, reduceCtorEq, Int.reduceToNat]) | (refine Br.mk ?_ ?_ <;> intro h) | (refine BrN.mk (fun h => ?_) ?_) | (refine AltVC.mk ?_ ?_)
  have hvm := vm_of hf.1 hc
  have hmn := hvm.n
  have hmk := hvm.k
  obtain ⟨n, hn⟩ : ∃ n : Nat, m.n = n := ⟨m.n.toNat, by omega⟩
  obtain ⟨kk, hkk⟩ : ∃ kk : Nat, m.k = kk := ⟨m.k.toNat, by omega⟩
  refine CallVC.nlo 3 0 0 3 ?_
  repeat' first | ((first | refine Br.dec ?_ ?_ | refine Br.eqi ?_ ?_) <;> intro h <;> try (exfalso; omega)) | (simp (disch := first | omega | (simp only [vlen]; first | done | omega)) only [vkt, ↓vAq, vBq, ↓reduceIte, Nat.reduceBEq, Nat.reduceEqDiff, Nat.reduceLT, Nat.reduceLeDiff, Nat.reduceAdd, Nat.reduceMul, Nat.reduceSub, reduceCtorEq, Int.reduceToNat]) | (refine Br.mk ?_ ?_ <;> intro h) | (refine BrN.mk (fun h => ?_) ?_) | (refine AltVC.mk ?_ ?_)
  refine CallVC.fold 2 3 0 1 true ?_
  repeat' first | ((first | refine Br.dec ?_ ?_ | refine Br.eqi ?_ ?_) <;> intro h <;> try (exfalso; omega)) | (simp (disch := first | omega | (simp only [vlen]; first | done | omega)) only [vkt, ↓vAq, vBq, ↓reduceIte, Nat.reduceBEq, Nat.reduceEqDiff, Nat.reduceLT, Nat.reduceLeDiff, Nat.reduceAdd, Nat.reduceMul, Nat.reduceSub, reduceCtorEq, Int.reduceToNat]) | (refine Br.mk ?_ ?_ <;> intro h) | (refine BrN.mk (fun h => ?_) ?_) | (refine AltVC.mk ?_ ?_)
  have ha0 := poolAdd_spec [] (by simp) ⟨1, 0, 0⟩ ⟨⟨by show (0 : Int) ≤ 1; decide, by show (1 : Int) ≤ 6; decide⟩, ⟨by show (0 : Int) ≤ 0; decide, by show (0 : Int) ≤ 1000000; decide⟩, ⟨by show (0 : Int) ≤ 0; decide, by show (0 : Int) ≤ 1000000; decide⟩⟩
  refine CallVC.lendE [3] [.ptr 0 2 0 0, .ag (nodD ⟨1, 0, 0⟩)] [poO []] ha0 (by simp) (by rfl) (by unfold poO; (simp (disch := first | omega | (simp only [vlen]; first | done | omega)) only [vle0, vkt, ↓vAq, vBq, ↓reduceIte, Nat.reduceBEq, Nat.reduceEqDiff, Nat.reduceLT, Nat.reduceLeDiff, Nat.reduceAdd, Nat.reduceMul, Nat.reduceSub, reduceCtorEq, Int.reduceToNat] <;> (repeat' first | rfl | apply And.intro))) ?_
  rintro _ _ ⟨l0, r0, rfl, rfl, h0⟩
  obtain ⟨rfl, rfl⟩ : l0 = [⟨1, 0, 0⟩] ∧ r0 = 0 := by
    rcases h0 with ⟨_, h, _⟩ | ⟨h1, h2⟩
    · exact absurd h (Nat.not_lt_zero _)
    · exact ⟨h1, h2⟩
  unfold poO
  repeat' first | ((first | refine Br.dec ?_ ?_ | refine Br.eqi ?_ ?_) <;> intro h <;> try (exfalso; omega)) | (simp (disch := first | omega | (simp only [vlen]; first | done | omega)) only [hn, vkt, ↓vAq, vBq, ↓reduceIte, Nat.reduceBEq, Nat.reduceEqDiff, Nat.reduceLT, Nat.reduceLeDiff, Nat.reduceAdd, Nat.reduceMul, Nat.reduceSub, reduceCtorEq, Int.reduceToNat]) | (refine Br.mk ?_ ?_ <;> intro h) | (refine BrN.mk (fun h => ?_) ?_) | (refine AltVC.mk ?_ ?_)
  rw [tabD_rep]
  refine LoopVC.mk (X := Nat × List Dm.Node × (Nat → Nat → Nat)) (fun x => [(5, .ptr 3 2 0 0), (7, .ref 4 1 0 n), (35, iv .i64 x.1)]) (fun x => [(0, ⟨5, [[iv .i64 n, iv .i64 m.k, .sl 1 (rows i64s m.next), iv .i64 m.start, iv .u32 m.final]], true, false, .fix⟩), (3, ⟨2, [[.own false 3 (tbl nodD x.2.1), .omp poK 4 (poM x.2.1)]], true, true, .fix⟩), (4, ⟨1, tabD n fun j => wyC n x.1 x.2.2 j, true, decide (0 < x.1), .arr⟩)]) (fun x => n - x.1) (fun x => x.1 ≤ n ∧ KtA m n kk x.2.1 x.2.2 x.1 ∧ x.2.1.length ≤ 1 + x.1 * 6) (0, [⟨1, 0, 0⟩], fun _ _ => 0) ⟨Nat.zero_le _, ?_, by show 1 ≤ 1 + 0 * 6; omega⟩ ?_ ?_
  · refine ⟨fun i hi => ?_, by simp, ?_, fun a b h => absurd h (Nat.not_lt_zero _), fun a b h => absurd h (Nat.not_lt_zero _)⟩
    · have : i = 0 := by simpa using hi
      subst this
      exact ⟨by show (1 : Int) ≤ 1; decide, by show (1 : Int) ≤ 6; decide, fun h => absurd (show (1 : Int) = 3 from h) (by decide), fun h => absurd (show (4 : Int) ≤ 1 from h) (by decide), fun h => absurd (show (1 : Int) = 4 ∨ (1 : Int) = 5 from h) (by decide)⟩
    · exact lang_1 (by simp) rfl
  · (simp (disch := first | omega | (simp only [vlen]; first | done | omega)) only [Fits_u, Fits_m, Fits_nil, List.length_append, hn, vku, ↓vAq, vBq, ↓reduceIte, Nat.reduceBEq, Nat.reduceEqDiff, Nat.reduceLT, Nat.reduceLeDiff, Nat.reduceAdd, Nat.reduceMul, Nat.reduceSub, reduceCtorEq, Int.reduceToNat] <;> (repeat' first | rfl | apply And.intro))
    all_goals first | exact obTabK (fun j hj => wyC_zero.symm) rfl | rfl | trace_state
  · rintro ⟨i, l, W⟩ ⟨hi, hA, hll⟩
    simp only at hi hA hll ⊢
    by_cases hil : i < n
    · have hmi := getD_mem' (l := m.next) (i := i) (by have := hvm.len; omega)
      have hrl := hvm.row _ hmi
      obtain ⟨nr, hnr⟩ : ∃ nr, m.next.getD i default = nr := ⟨_, rfl⟩
      have hnto := hvm.to _ hmi
      rw [hnr] at hmi hrl hnto
      have hnl : m.next.length = n := by have := hvm.len; omega
      have hnrl : nr.length = kk := by omega
      repeat' first | ((first | refine Br.dec ?_ ?_ | refine Br.eqi ?_ ?_) <;> intro h <;> try (exfalso; omega)) | (simp (disch := first | omega | (simp only [vlen]; first | done | omega)) only [hn, hnr, vku, ↓vAq, vBq, ↓reduceIte, Nat.reduceBEq, Nat.reduceEqDiff, Nat.reduceLT, Nat.reduceLeDiff, Nat.reduceAdd, Nat.reduceMul, Nat.reduceSub, reduceCtorEq, Int.reduceToNat]) | (refine Br.mk ?_ ?_ <;> intro h) | (refine BrN.mk (fun h => ?_) ?_) | (refine AltVC.mk ?_ ?_)
      refine CallVC.frz 5 ?_
      repeat' first | ((first | refine Br.dec ?_ ?_ | refine Br.eqi ?_ ?_) <;> intro h <;> try (exfalso; omega)) | (simp (disch := first | omega | (simp only [vlen]; first | done | omega)) only [hn, hnr, vku, ↓vAq, vBq, ↓reduceIte, Nat.reduceBEq, Nat.reduceEqDiff, Nat.reduceLT, Nat.reduceLeDiff, Nat.reduceAdd, Nat.reduceMul, Nat.reduceSub, reduceCtorEq, Int.reduceToNat]) | (refine Br.mk ?_ ?_ <;> intro h) | (refine BrN.mk (fun h => ?_) ?_) | (refine AltVC.mk ?_ ?_)
      refine CallVC.lendE [] [.sl 1 (i64s [0]), iv .i64 n] [] (repeat_spec 0 n (by omega)) (by simp) (by rfl) (by (simp (disch := first | omega | (simp only [vlen]; first | done | omega)) only [vle0, vku, ↓vAq, vBq, ↓reduceIte, Nat.reduceBEq, Nat.reduceEqDiff, Nat.reduceLT, Nat.reduceLeDiff, Nat.reduceAdd, Nat.reduceMul, Nat.reduceSub, reduceCtorEq, Int.reduceToNat] <;> (repeat' first | rfl | apply And.intro))) ?_
      rintro _ _ ⟨rfl, rfl⟩
      repeat' first | ((first | refine Br.dec ?_ ?_ | refine Br.eqi ?_ ?_) <;> intro h <;> try (exfalso; omega)) | (simp (disch := first | omega | (simp only [vlen]; first | done | omega)) only [hn, hnr, hnl, hnrl, vku, ↓vAq, vBq, ↓reduceIte, Nat.reduceBEq, Nat.reduceEqDiff, Nat.reduceLT, Nat.reduceLeDiff, Nat.reduceAdd, Nat.reduceMul, Nat.reduceSub, reduceCtorEq, Int.reduceToNat]) | (refine Br.mk ?_ ?_ <;> intro h) | (refine BrN.mk (fun h => ?_) ?_) | (refine AltVC.mk ?_ ?_)
      refine LoopVC.fold 7 4 i 0 true ?_
      repeat' first | ((first | refine Br.dec ?_ ?_ | refine Br.eqi ?_ ?_) <;> intro h <;> try (exfalso; omega)) | (simp (disch := first | omega | (simp only [vlen]; first | done | omega)) only [hn, hnr, vku, ↓vAq, vBq, ↓reduceIte, Nat.reduceBEq, Nat.reduceEqDiff, Nat.reduceLT, Nat.reduceLeDiff, Nat.reduceAdd, Nat.reduceMul, Nat.reduceSub, reduceCtorEq, Int.reduceToNat]) | (refine Br.mk ?_ ?_ <;> intro h) | (refine BrN.mk (fun h => ?_) ?_) | (refine AltVC.mk ?_ ?_)
      refine Chk.mk ⟨by simp [i64s], tabD_all fun j hj => by split <;> first | rfl | exact wyC_clo⟩ ?_
      refine LoopVC.mk (X := Nat × List Dm.Node × (Nat → Nat)) (fun x => [(5, .ptr 3 2 0 0), (7, .ref 4 1 0 n), (52, iv .i64 x.1)]) (fun x => [(0, ⟨5, [[iv .i64 n, iv .i64 m.k, .sl 1 (rows i64s m.next), iv .i64 m.start, iv .u32 m.final]], true, false, .fix⟩), (3, ⟨2, [[.own false 3 (tbl nodD x.2.1), .omp poK 4 (poM x.2.1)]], true, true, .fix⟩), (4, ⟨1, tabD n fun j => if j = i then .own false 1 (i64s (wyR n x.2.2)) else wyC n i W j, true, true, .arr⟩)]) (fun x => kk - x.1) (fun x => x.1 ≤ kk ∧ KtA m n kk x.2.1 W i ∧ x.2.1.length ≤ 1 + i * 6 + 2 * x.1 ∧ ∀ b, b < n → x.2.2 b < x.2.1.length ∧ lang x.2.1 (x.2.2 b) = zL (nxM m) i x.1 b) (0, l, fun _ => 0) ⟨Nat.zero_le _, hA, by show l.length ≤ 1 + i * 6 + 2 * 0; omega, fun b _ => ⟨hA.pos, by rw [hA.non]; exact zL_0.symm⟩⟩ ?_ ?_
      · (simp (disch := first | omega | (simp only [vlen]; first | done | omega)) only [Fits_u, Fits_m, Fits_nil, List.length_append, hn, vku, ↓vAq, vBq, ↓reduceIte, Nat.reduceBEq, Nat.reduceEqDiff, Nat.reduceLT, Nat.reduceLeDiff, Nat.reduceAdd, Nat.reduceMul, Nat.reduceSub, reduceCtorEq, Int.reduceToNat] <;> (repeat' first | rfl | apply And.intro))
        all_goals first | rfl | trace_state
      · rintro ⟨a, l, R⟩ ⟨ha, hA, hll, hR⟩
        simp only at ha hA hll hR ⊢
        by_cases hal : a < kk
        · have hxm : nr.getD a 0 ∈ nr := getD_mem' (l := nr) (i := a) (by omega)
          have hx2 := hnto _ hxm
          obtain ⟨to, hto⟩ : ∃ to : Nat, nr.getD a 0 = to := ⟨(nr.getD a 0).toNat, by omega⟩
          have htn : to < n := by omega
          have hsm : SmN ⟨3, a, 0⟩ := ⟨⟨by show (0 : Int) ≤ 3; decide, by show (3 : Int) ≤ 6; decide⟩, ⟨by show (0 : Int) ≤ (a : Int); omega, by show (a : Int) ≤ _; omega⟩, ⟨by show (0 : Int) ≤ 0; decide, by show (0 : Int) ≤ 1000000; decide⟩⟩
          have hno : NodeOk m.k l.length ⟨3, a, 0⟩ := ⟨by show (1 : Int) ≤ 3; decide, by show (3 : Int) ≤ 6; decide, fun _ => ⟨by show (0 : Int) ≤ (a : Int); omega, by show (a : Int) < _; omega⟩, fun h => absurd (show (4 : Int) ≤ 3 from h) (by decide), fun h => absurd (show (3 : Int) = 4 ∨ (3 : Int) = 5 from h) (by decide)⟩
          have had := poolAdd_spec l (by omega) ⟨3, a, 0⟩ hsm
          have hnx : nxM m i (a : Int) = to := by
            unfold nxM
            rw [hnr, Int.toNat_natCast, hto, Int.toNat_natCast]
          have hwg : ∀ b, b < n → (wyR n R).getD b 0 = R b := fun b hb => by simp [wyR, tab, List.getD_eq_getElem?_getD, hb]
          have hwt := hwg to htn
          repeat' first | ((first | refine Br.dec ?_ ?_ | refine Br.eqi ?_ ?_) <;> intro h <;> try (exfalso; omega)) | (simp (disch := first | omega | (simp only [vlen]; first | done | omega)) only [hn, hnr, hto, vku, ↓vAq, vBq, ↓reduceIte, Nat.reduceBEq, Nat.reduceEqDiff, Nat.reduceLT, Nat.reduceLeDiff, Nat.reduceAdd, Nat.reduceMul, Nat.reduceSub, reduceCtorEq, Int.reduceToNat]) | (refine Br.mk ?_ ?_ <;> intro h) | (refine BrN.mk (fun h => ?_) ?_) | (refine AltVC.mk ?_ ?_)
          refine DrawVC.ct (X := List Dm.Node × Nat) (fun x => [(5, .ptr 3 2 0 0), (7, .ref 4 1 0 n)]) (fun x => [(0, ⟨5, [[iv .i64 n, iv .i64 m.k, .sl 1 (rows i64s m.next), iv .i64 m.start, iv .u32 m.final]], true, false, .fix⟩), (3, ⟨2, [[.own false 3 (tbl nodD x.1), .omp poK 4 (poM x.1)]], true, true, .fix⟩), (4, ⟨1, tabD n fun j => if j = i then .own false 1 (i64s (wyR n fun b => if b = to then x.2 else R b)) else wyC n i W j, true, true, .arr⟩)]) (fun x => KtA m n kk x.1 W i ∧ x.1.length ≤ l.length + 2 ∧ ∀ b, b < n → (if b = to then x.2 else R b) < x.1.length ∧ lang x.1 (if b = to then x.2 else R b) = zL (nxM m) i (a + 1) b) 8 (by simp (disch := first | omega | (simp only [vlen]; first | done | omega)) only [vku, ↓vAq, vBq, ↓reduceIte, Nat.reduceBEq, Nat.reduceEqDiff, Nat.reduceLT, Nat.reduceLeDiff, Nat.reduceAdd, Nat.reduceMul, Nat.reduceSub, reduceCtorEq, Int.reduceToNat]) ?_ ?_
          · repeat' first | ((first | refine Br.dec ?_ ?_ | refine Br.eqi ?_ ?_) <;> intro h <;> try (exfalso; omega)) | (simp (disch := first | omega | (simp only [vlen]; first | done | omega)) only [hwt, hn, hnr, hto, vku, ↓vAq, vBq, ↓reduceIte, Nat.reduceBEq, Nat.reduceEqDiff, Nat.reduceLT, Nat.reduceLeDiff, Nat.reduceAdd, Nat.reduceMul, Nat.reduceSub, reduceCtorEq, Int.reduceToNat]) | (refine Br.mk ?_ ?_ <;> intro h) | (refine BrN.mk (fun h => ?_) ?_) | (refine AltVC.mk ?_ ?_)
            all_goals
              refine CallVC.lendE [3] [.ptr 0 2 0 0, .ag (nodD ⟨3, a, 0⟩)] [poO l] had (by simp) (by rfl) (by unfold poO; (simp (disch := first | omega | (simp only [vlen]; first | done | omega)) only [vle0, vku, ↓vAq, vBq, ↓reduceIte, Nat.reduceBEq, Nat.reduceEqDiff, Nat.reduceLT, Nat.reduceLeDiff, Nat.reduceAdd, Nat.reduceMul, Nat.reduceSub, reduceCtorEq, Int.reduceToNat] <;> (repeat' first | rfl | apply And.intro))) ?_
              rintro _ _ hpo
              obtain ⟨l1, r1, rfl, rfl, hN1⟩ := hpo.po hA.ok hno
              unfold poO
              (repeat' first | ((first | refine Br.dec ?_ ?_ | refine Br.eqi ?_ ?_) <;> intro h <;> try (exfalso; omega)) | (simp (disch := first | omega | (simp only [vlen]; first | done | omega)) only [hn, hnr, hto, vku, ↓vAq, vBq, ↓reduceIte, Nat.reduceBEq, Nat.reduceEqDiff, Nat.reduceLT, Nat.reduceLeDiff, Nat.reduceAdd, Nat.reduceMul, Nat.reduceSub, reduceCtorEq, Int.reduceToNat]) | (refine Br.mk ?_ ?_ <;> intro h) | (refine BrN.mk (fun h => ?_) ?_) | (refine AltVC.mk ?_ ?_))
            all_goals
              have hN1' := hN1
              obtain ⟨ok1, ⟨e1, he1⟩, hl1, hr1, hg1⟩ := hN1'
              have hRt : R to < l1.length := by rw [he1, List.length_append]; have := (hR to htn).1; omega
              have hor := poolOr_spec m.k l1 ok1 (by omega) (R to) r1 hRt hr1
              refine CallVC.lendE [3] [.ptr 0 2 0 0, iv .i64 (R to), iv .i64 r1] [poO l1] hor (by simp) (by rfl) (by unfold poO; (simp (disch := first | omega | (simp only [vlen]; first | done | omega)) only [vle0, vku, ↓vAq, vBq, ↓reduceIte, Nat.reduceBEq, Nat.reduceEqDiff, Nat.reduceLT, Nat.reduceLeDiff, Nat.reduceAdd, Nat.reduceMul, Nat.reduceSub, reduceCtorEq, Int.reduceToNat] <;> (repeat' first | rfl | apply And.intro))) ?_
              rintro _ _ ⟨l2, r2, rfl, rfl, hN2⟩
              have hK := kt_or hA hR hnx htn hN1 hN2
              unfold poO
              (repeat' first | ((first | refine Br.dec ?_ ?_ | refine Br.eqi ?_ ?_) <;> intro h <;> try (exfalso; omega)) | (simp (disch := first | omega | (simp only [vlen]; first | done | omega)) only [hn, hnr, hto, vku, ↓vAq, vBq, ↓reduceIte, Nat.reduceBEq, Nat.reduceEqDiff, Nat.reduceLT, Nat.reduceLeDiff, Nat.reduceAdd, Nat.reduceMul, Nat.reduceSub, reduceCtorEq, Int.reduceToNat]) | (refine Br.mk ?_ ?_ <;> intro h) | (refine BrN.mk (fun h => ?_) ?_) | (refine AltVC.mk ?_ ?_))
            all_goals
              refine cutK.fold 8 4 i 0 true ?_
              (repeat' first | ((first | refine Br.dec ?_ ?_ | refine Br.eqi ?_ ?_) <;> intro h <;> try (exfalso; omega)) | (simp (disch := first | omega | (simp only [vlen]; first | done | omega)) only [hn, hnr, hto, vku, ↓vAq, vBq, ↓reduceIte, Nat.reduceBEq, Nat.reduceEqDiff, Nat.reduceLT, Nat.reduceLeDiff, Nat.reduceAdd, Nat.reduceMul, Nat.reduceSub, reduceCtorEq, Int.reduceToNat]) | (refine Br.mk ?_ ?_ <;> intro h) | (refine BrN.mk (fun h => ?_) ?_) | (refine AltVC.mk ?_ ?_))
              refine Chk.mk ⟨by simp [i64s, wyR, tab], tabD_all fun j hj => by split <;> first | rfl | exact wyC_clo⟩ ?_
              refine cutK.mk (l2, r2) (by simp (disch := first | omega | (simp only [vlen]; first | done | omega)) only [vku, ↓vAq, vBq, ↓reduceIte, Nat.reduceBEq, Nat.reduceEqDiff, Nat.reduceLT, Nat.reduceLeDiff, Nat.reduceAdd, Nat.reduceMul, Nat.reduceSub, reduceCtorEq, Int.reduceToNat]) hK ?_
              ((simp (disch := first | omega | (simp only [vlen]; first | done | omega)) only [Fits_u, Fits_m, Fits_nil, List.length_append, hn, vku, ↓vAq, vBq, ↓reduceIte, Nat.reduceBEq, Nat.reduceEqDiff, Nat.reduceLT, Nat.reduceLeDiff, Nat.reduceAdd, Nat.reduceMul, Nat.reduceSub, reduceCtorEq, Int.reduceToNat] <;> (repeat' first | rfl | apply And.intro)))
            all_goals first | rfl | trace_state
          rintro ⟨l2, r2⟩ ⟨hA2, hl2, hR2⟩
          simp only at hA2 hl2 hR2 ⊢
          repeat' first | ((first | refine Br.dec ?_ ?_ | refine Br.eqi ?_ ?_) <;> intro h <;> try (exfalso; omega)) | (simp (disch := first | omega | (simp only [vlen]; first | done | omega)) only [hn, vku, ↓vAq, vBq, ↓reduceIte, Nat.reduceBEq, Nat.reduceEqDiff, Nat.reduceLT, Nat.reduceLeDiff, Nat.reduceAdd, Nat.reduceMul, Nat.reduceSub, reduceCtorEq, Int.reduceToNat]) | (refine Br.mk ?_ ?_ <;> intro h) | (refine BrN.mk (fun h => ?_) ?_) | (refine AltVC.mk ?_ ?_)
          refine loopK.mk (a + 1, l2, fun b => if b = to then r2 else R b) (by simp (disch := first | omega | (simp only [vlen]; first | done | omega)) only [vku, ↓vAq, vBq, ↓reduceIte, Nat.reduceBEq, Nat.reduceEqDiff, Nat.reduceLT, Nat.reduceLeDiff, Nat.reduceAdd, Nat.reduceMul, Nat.reduceSub, reduceCtorEq, Int.reduceToNat]) ⟨by show a + 1 ≤ kk; omega, hA2, by show l2.length ≤ 1 + i * 6 + 2 * (a + 1); omega, hR2⟩ (by show kk - (a + 1) < kk - a; omega) ?_
          (simp (disch := first | omega | (simp only [vlen]; first | done | omega)) only [Fits_u, Fits_m, Fits_nil, List.length_append, hn, vku, ↓vAq, vBq, ↓reduceIte, Nat.reduceBEq, Nat.reduceEqDiff, Nat.reduceLT, Nat.reduceLeDiff, Nat.reduceAdd, Nat.reduceMul, Nat.reduceSub, reduceCtorEq, Int.reduceToNat] <;> (repeat' first | rfl | apply And.intro))
          all_goals first | rfl | trace_state
        · have hae : a = kk := by omega
          subst hae
          repeat' first | ((first | refine Br.dec ?_ ?_ | refine Br.eqi ?_ ?_) <;> intro h <;> try (exfalso; omega)) | (simp (disch := first | omega | (simp only [vlen]; first | done | omega)) only [hn, vku, ↓vAq, vBq, ↓reduceIte, Nat.reduceBEq, Nat.reduceEqDiff, Nat.reduceLT, Nat.reduceLeDiff, Nat.reduceAdd, Nat.reduceMul, Nat.reduceSub, reduceCtorEq, Int.reduceToNat]) | (refine Br.mk ?_ ?_ <;> intro h) | (refine BrN.mk (fun h => ?_) ?_) | (refine AltVC.mk ?_ ?_)
          refine loopK.mk (i + 1, l, fun j => if j = i then R else W j) (by simp (disch := first | omega | (simp only [vlen]; first | done | omega)) only [vku, ↓vAq, vBq, ↓reduceIte, Nat.reduceBEq, Nat.reduceEqDiff, Nat.reduceLT, Nat.reduceLeDiff, Nat.reduceAdd, Nat.reduceMul, Nat.reduceSub, reduceCtorEq, Int.reduceToNat]) ⟨by show i + 1 ≤ n; omega, ⟨hA.ok, hA.pos, hA.non, fun x b hx hb => ?_, fun x b hx hb => ?_⟩, by show l.length ≤ 1 + (i + 1) * 6; omega⟩ (by show n - (i + 1) < n - i; omega) ?_
          · show (if x = i then R else W x) b < l.length
            by_cases e : x = i
            · rw [if_pos e]; exact (hR b hb).1
            · rw [if_neg e]; exact hA.lt x b (by omega) hb
          · show lang l ((if x = i then R else W x) b) = _
            by_cases e : x = i
            · rw [if_pos e, e]; exact (hR b hb).2
            · rw [if_neg e]; exact hA.lg x b (by omega) hb
          (simp (disch := first | omega | (simp only [vlen]; first | done | omega)) only [Fits_u, Fits_m, Fits_nil, List.length_append, hn, vku, ↓vAq, vBq, ↓reduceIte, Nat.reduceBEq, Nat.reduceEqDiff, Nat.reduceLT, Nat.reduceLeDiff, Nat.reduceAdd, Nat.reduceMul, Nat.reduceSub, reduceCtorEq, Int.reduceToNat] <;> (repeat' first | rfl | apply And.intro))
          all_goals first | exact obTabK (fun j hj => wyC_step) (decide_eq_true (by omega)).symm | rfl | trace_state
    · have hie : i = n := by omega
      subst hie
      rw [wyC_all, decide_eq_true (show 0 < i by omega)]
      repeat' first | ((first | refine Br.dec ?_ ?_ | refine Br.eqi ?_ ?_) <;> intro h <;> try (exfalso; omega)) | (simp (disch := first | omega | (simp only [vlen]; first | done | omega)) only [hn, vku, ↓vAq, vBq, ↓reduceIte, Nat.reduceBEq, Nat.reduceEqDiff, Nat.reduceLT, Nat.reduceLeDiff, Nat.reduceAdd, Nat.reduceMul, Nat.reduceSub, reduceCtorEq, Int.reduceToNat]) | (refine Br.mk ?_ ?_ <;> intro h) | (refine BrN.mk (fun h => ?_) ?_) | (refine AltVC.mk ?_ ?_)
      refine LoopVC.mk (X := Nat × List Dm.Node × (Nat → Nat → Nat)) (fun x => [(5, .ptr 3 2 0 0), (7, .ref 4 1 0 i), (80, iv .i64 x.1)]) (fun x => [(0, ⟨5, [[iv .i64 i, iv .i64 m.k, .sl 1 (rows i64s m.next), iv .i64 m.start, iv .u32 m.final]], true, false, .fix⟩), (3, ⟨2, [[.own false 3 (tbl nodD x.2.1), .omp poK 4 (poM x.2.1)]], true, true, .fix⟩), (4, ⟨1, tabD i fun j => .own false 1 (i64s (wyR i (x.2.2 j))), true, true, .arr⟩)]) (fun x => i - x.1) (fun x => x.1 ≤ i ∧ KtB m i x.2.1 x.2.2 x.1 ∧ x.2.1.length ≤ 50 + x.1 * 150) (0, l, W) ⟨Nat.zero_le _, hA.b hkk, by show l.length ≤ 50 + 0 * 150; omega⟩ ?_ ?_
      · (simp (disch := first | omega | (simp only [vlen]; first | done | omega)) only [Fits_u, Fits_m, Fits_nil, List.length_append, hn, vku, ↓vAq, vBq, ↓reduceIte, Nat.reduceBEq, Nat.reduceEqDiff, Nat.reduceLT, Nat.reduceLeDiff, Nat.reduceAdd, Nat.reduceMul, Nat.reduceSub, reduceCtorEq, Int.reduceToNat] <;> (repeat' first | rfl | apply And.intro))
        all_goals first | rfl | trace_state
      · rintro ⟨k, l, W⟩ ⟨hk, hB, hll⟩
        simp only at hk hB hll ⊢
        by_cases hkl : k < i
        · have hst := poolStar_spec m.k l hB.ok (by omega) (W k k) (hB.lt k k hkl hkl)
          repeat' first | ((first | refine Br.dec ?_ ?_ | refine Br.eqi ?_ ?_) <;> intro h <;> try (exfalso; omega)) | (simp (disch := first | omega | (simp only [vlen]; first | done | omega)) only [hn, vku, ↓vAq, vBq, ↓reduceIte, Nat.reduceBEq, Nat.reduceEqDiff, Nat.reduceLT, Nat.reduceLeDiff, Nat.reduceAdd, Nat.reduceMul, Nat.reduceSub, reduceCtorEq, Int.reduceToNat]) | (refine Br.mk ?_ ?_ <;> intro h) | (refine BrN.mk (fun h => ?_) ?_) | (refine AltVC.mk ?_ ?_)
          refine CallVC.lendE [3] [.ptr 0 2 0 0, iv .i64 (W k k)] [poO l] hst (by simp) (by rfl) (by unfold poO; (simp (disch := first | omega | (simp only [vlen]; first | done | omega)) only [vle0, vku, ↓vAq, vBq, ↓reduceIte, Nat.reduceBEq, Nat.reduceEqDiff, Nat.reduceLT, Nat.reduceLeDiff, Nat.reduceAdd, Nat.reduceMul, Nat.reduceSub, reduceCtorEq, Int.reduceToNat] <;> (repeat' first | rfl | apply And.intro))) ?_
          rintro _ _ ⟨l1, r1, rfl, rfl, ok1, he1, hl1, hr1, hg1⟩
          unfold poO
          have hB1 := hB.ext ok1 he1
          have hg1' : lang l1 r1 = Star (Pt (nxM m) m.k k k k) := by rw [hg1, hB.lg k k hkl hkl]
          repeat' first | ((first | refine Br.dec ?_ ?_ | refine Br.eqi ?_ ?_) <;> intro h <;> try (exfalso; omega)) | (simp (disch := first | omega | (simp only [vlen]; first | done | omega)) only [hn, vku, ↓vAq, vBq, ↓reduceIte, Nat.reduceBEq, Nat.reduceEqDiff, Nat.reduceLT, Nat.reduceLeDiff, Nat.reduceAdd, Nat.reduceMul, Nat.reduceSub, reduceCtorEq, Int.reduceToNat]) | (refine Br.mk ?_ ?_ <;> intro h) | (refine BrN.mk (fun h => ?_) ?_) | (refine AltVC.mk ?_ ?_)
          rw [tabD_rep]
          refine LoopVC.fold 5 4 k 0 true ?_
          repeat' first | ((first | refine Br.dec ?_ ?_ | refine Br.eqi ?_ ?_) <;> intro h <;> try (exfalso; omega)) | (simp (disch := first | omega | (simp only [vlen]; first | done | omega)) only [hn, vku, ↓vAq, vBq, ↓reduceIte, Nat.reduceBEq, Nat.reduceEqDiff, Nat.reduceLT, Nat.reduceLeDiff, Nat.reduceAdd, Nat.reduceMul, Nat.reduceSub, reduceCtorEq, Int.reduceToNat]) | (refine Br.mk ?_ ?_ <;> intro h) | (refine BrN.mk (fun h => ?_) ?_) | (refine AltVC.mk ?_ ?_)
          refine Chk.mk ⟨by simp [i64s, wyR, tab], tabD_all fun j hj => by split <;> rfl⟩ ?_
          refine LoopVC.mk (X := Nat × List Dm.Node × (Nat → Nat → Nat)) (fun x => [(5, .ptr 3 2 0 0), (7, .ref 4 1 0 i), (13, .ref 6 1 0 i), (97, iv .i64 x.1)]) (fun x => [(0, ⟨5, [[iv .i64 i, iv .i64 m.k, .sl 1 (rows i64s m.next), iv .i64 m.start, iv .u32 m.final]], true, false, .fix⟩), (3, ⟨2, [[.own false 3 (tbl nodD x.2.1), .omp poK 4 (poM x.2.1)]], true, true, .fix⟩), (4, ⟨1, tabD i fun j => .own false 1 (i64s (wyR i (W j))), true, true, .arr⟩), (6, ⟨1, tabD i fun j => wyC i x.1 x.2.2 j, true, decide (0 < x.1), .arr⟩)]) (fun x => i - x.1) (fun x => x.1 ≤ i ∧ KtB m i x.2.1 W k ∧ r1 < x.2.1.length ∧ lang x.2.1 r1 = Star (Pt (nxM m) m.k k k k) ∧ x.2.1.length ≤ 51 + k * 150 + x.1 * 21 ∧ ∀ a b, a < x.1 → b < i → x.2.2 a b < x.2.1.length ∧ lang x.2.1 (x.2.2 a b) = Pt (nxM m) m.k (k + 1) a b) (0, l1, fun _ _ => 0) ⟨Nat.zero_le _, hB1, hr1, hg1', by show l1.length ≤ 51 + k * 150 + 0 * 21; omega, fun a b h => absurd h (Nat.not_lt_zero _)⟩ ?_ ?_
          · (simp (disch := first | omega | (simp only [vlen]; first | done | omega)) only [Fits_u, Fits_m, Fits_nil, List.length_append, hn, vku, ↓vAq, vBq, ↓reduceIte, Nat.reduceBEq, Nat.reduceEqDiff, Nat.reduceLT, Nat.reduceLeDiff, Nat.reduceAdd, Nat.reduceMul, Nat.reduceSub, reduceCtorEq, Int.reduceToNat] <;> (repeat' first | rfl | apply And.intro))
            all_goals first | exact obTabK (fun j hj => wyC_zero.symm) rfl | exact obTabK (fun j hj => by split <;> first | rfl | (next e => rw [e])) rfl | rfl | trace_state
          · rintro ⟨p, l, V⟩ ⟨hp, hB, hr1, hg1, hll, hV⟩
            simp only at hp hB hr1 hg1 hll hV ⊢
            by_cases hpl : p < i
            · repeat' first | ((first | refine Br.dec ?_ ?_ | refine Br.eqi ?_ ?_) <;> intro h <;> try (exfalso; omega)) | (simp (disch := first | omega | (simp only [vlen]; first | done | omega)) only [hn, vku, ↓vAq, vBq, ↓reduceIte, Nat.reduceBEq, Nat.reduceEqDiff, Nat.reduceLT, Nat.reduceLeDiff, Nat.reduceAdd, Nat.reduceMul, Nat.reduceSub, reduceCtorEq, Int.reduceToNat]) | (refine Br.mk ?_ ?_ <;> intro h) | (refine BrN.mk (fun h => ?_) ?_) | (refine AltVC.mk ?_ ?_)
              refine LoopVC.fold 7 6 p 0 true ?_
              repeat' first | ((first | refine Br.dec ?_ ?_ | refine Br.eqi ?_ ?_) <;> intro h <;> try (exfalso; omega)) | (simp (disch := first | omega | (simp only [vlen]; first | done | omega)) only [hn, vku, ↓vAq, vBq, ↓reduceIte, Nat.reduceBEq, Nat.reduceEqDiff, Nat.reduceLT, Nat.reduceLeDiff, Nat.reduceAdd, Nat.reduceMul, Nat.reduceSub, reduceCtorEq, Int.reduceToNat]) | (refine Br.mk ?_ ?_ <;> intro h) | (refine BrN.mk (fun h => ?_) ?_) | (refine AltVC.mk ?_ ?_)
              refine Chk.mk ⟨Nat.le_refl _, tabD_all fun j hj => by split <;> first | rfl | exact wyC_clo⟩ ?_
              refine LoopVC.mk (X := Nat × List Dm.Node × (Nat → Nat)) (fun x => [(5, .ptr 3 2 0 0), (7, .ref 4 1 0 i), (13, .ref 6 1 0 i), (111, iv .i64 x.1)]) (fun x => [(0, ⟨5, [[iv .i64 i, iv .i64 m.k, .sl 1 (rows i64s m.next), iv .i64 m.start, iv .u32 m.final]], true, false, .fix⟩), (3, ⟨2, [[.own false 3 (tbl nodD x.2.1), .omp poK 4 (poM x.2.1)]], true, true, .fix⟩), (4, ⟨1, tabD i fun j => .own false 1 (i64s (wyR i (W j))), true, true, .arr⟩), (6, ⟨1, tabD i fun j => if j = p then .own false 1 (i64s (wyR i x.2.2)) else wyC i p V j, true, true, .arr⟩)]) (fun x => i - x.1) (fun x => x.1 ≤ i ∧ KtB m i x.2.1 W k ∧ r1 < x.2.1.length ∧ lang x.2.1 r1 = Star (Pt (nxM m) m.k k k k) ∧ x.2.1.length ≤ 51 + k * 150 + p * 21 + x.1 * 3 ∧ (∀ a b, a < p → b < i → V a b < x.2.1.length ∧ lang x.2.1 (V a b) = Pt (nxM m) m.k (k + 1) a b) ∧ ∀ b, b < x.1 → x.2.2 b < x.2.1.length ∧ lang x.2.1 (x.2.2 b) = Pt (nxM m) m.k (k + 1) p b) (0, l, fun _ => 0) ⟨Nat.zero_le _, hB, hr1, hg1, by show l.length ≤ 51 + k * 150 + p * 21 + 0 * 3; omega, hV, fun b h => absurd h (Nat.not_lt_zero _)⟩ ?_ ?_
              · (simp (disch := first | omega | (simp only [vlen]; first | done | omega)) only [Fits_u, Fits_m, Fits_nil, List.length_append, hn, vku, ↓vAq, vBq, ↓reduceIte, Nat.reduceBEq, Nat.reduceEqDiff, Nat.reduceLT, Nat.reduceLeDiff, Nat.reduceAdd, Nat.reduceMul, Nat.reduceSub, reduceCtorEq, Int.reduceToNat] <;> (repeat' first | rfl | apply And.intro))
                all_goals first | rfl | trace_state
              · rintro ⟨j, l, R⟩ ⟨hj, hB, hr1, hg1, hll, hV, hR⟩
                simp only at hj hB hr1 hg1 hll hV hR ⊢
                by_cases hjl : j < i
                · have hc1 := poolCat_spec m.k l hB.ok (by omega) r1 (W k j) hr1 (hB.lt k j hkl hjl)
                  repeat' first | ((first | refine Br.dec ?_ ?_ | refine Br.eqi ?_ ?_) <;> intro h <;> try (exfalso; omega)) | (simp (disch := first | omega | (simp only [vlen]; first | done | omega)) only [hn, vku, ↓vAq, vBq, ↓reduceIte, Nat.reduceBEq, Nat.reduceEqDiff, Nat.reduceLT, Nat.reduceLeDiff, Nat.reduceAdd, Nat.reduceMul, Nat.reduceSub, reduceCtorEq, Int.reduceToNat]) | (refine Br.mk ?_ ?_ <;> intro h) | (refine BrN.mk (fun h => ?_) ?_) | (refine AltVC.mk ?_ ?_)
                  refine DrawVC.ct (X := List Dm.Node × Nat) (fun x => [(5, .ptr 3 2 0 0), (7, .ref 4 1 0 i), (13, .ref 6 1 0 i), (16, iv .i64 x.2)]) (fun x => [(0, ⟨5, [[iv .i64 i, iv .i64 m.k, .sl 1 (rows i64s m.next), iv .i64 m.start, iv .u32 m.final]], true, false, .fix⟩), (3, ⟨2, [[.own false 3 (tbl nodD x.1), .omp poK 4 (poM x.1)]], true, true, .fix⟩), (4, ⟨1, tabD i fun j => .own false 1 (i64s (wyR i (W j))), true, true, .arr⟩), (6, ⟨1, tabD i fun j => if j = p then .own false 1 (i64s (wyR i R)) else wyC i p V j, true, true, .arr⟩)]) (fun x => NodesOk m.k x.1 ∧ x.1.length ≤ l.length + 2 ∧ (∃ e, x.1 = l ++ e) ∧ x.2 < x.1.length ∧ lang x.1 x.2 = catL (lang l (W p k)) (catL (lang l r1) (lang l (W k j)))) 8 (by simp (disch := first | omega | (simp only [vlen]; first | done | omega)) only [vku, ↓vAq, vBq, ↓reduceIte, Nat.reduceBEq, Nat.reduceEqDiff, Nat.reduceLT, Nat.reduceLeDiff, Nat.reduceAdd, Nat.reduceMul, Nat.reduceSub, reduceCtorEq, Int.reduceToNat]) ?_ ?_
                  · by_cases e : p = k
                    · subst e
                      repeat' first | ((first | refine Br.dec ?_ ?_ | refine Br.eqi ?_ ?_) <;> intro h <;> try (exfalso; omega)) | (simp (disch := first | omega | (simp only [vlen]; first | done | omega)) only [hn, vku, ↓vAq, vBq, ↓reduceIte, Nat.reduceBEq, Nat.reduceEqDiff, Nat.reduceLT, Nat.reduceLeDiff, Nat.reduceAdd, Nat.reduceMul, Nat.reduceSub, reduceCtorEq, Int.reduceToNat]) | (refine Br.mk ?_ ?_ <;> intro h) | (refine BrN.mk (fun h => ?_) ?_) | (refine AltVC.mk ?_ ?_)
                      all_goals
                        refine CallVC.lendE [3] [.ptr 0 2 0 0, iv .i64 r1, iv .i64 (W p j)] [poO l] hc1 (by simp) (by rfl) (by unfold poO; (simp (disch := first | omega | (simp only [vlen]; first | done | omega)) only [vle0, vku, ↓vAq, vBq, ↓reduceIte, Nat.reduceBEq, Nat.reduceEqDiff, Nat.reduceLT, Nat.reduceLeDiff, Nat.reduceAdd, Nat.reduceMul, Nat.reduceSub, reduceCtorEq, Int.reduceToNat] <;> (repeat' first | rfl | apply And.intro))) ?_
                        rintro _ _ ⟨la, ra, rfl, rfl, oka, hea, hla, hra, hga⟩
                        unfold poO
                        (repeat' first | ((first | refine Br.dec ?_ ?_ | refine Br.eqi ?_ ?_) <;> intro h <;> try (exfalso; omega)) | (simp (disch := first | omega | (simp only [vlen]; first | done | omega)) only [hn, vku, ↓vAq, vBq, ↓reduceIte, Nat.reduceBEq, Nat.reduceEqDiff, Nat.reduceLT, Nat.reduceLeDiff, Nat.reduceAdd, Nat.reduceMul, Nat.reduceSub, reduceCtorEq, Int.reduceToNat]) | (refine Br.mk ?_ ?_ <;> intro h) | (refine BrN.mk (fun h => ?_) ?_) | (refine AltVC.mk ?_ ?_))
                      all_goals
                        have hpa : W p p < la.length := by
                          obtain ⟨e', rfl⟩ := hea
                          rw [List.length_append]; have := hB.lt p p hpl hkl; omega
                        have hc2 := poolCat_spec m.k la oka (by omega) (W p p) ra hpa hra
                        refine CallVC.lendE [3] [.ptr 0 2 0 0, iv .i64 (W p p), iv .i64 ra] [poO la] hc2 (by simp) (by rfl) (by unfold poO; (simp (disch := first | omega | (simp only [vlen]; first | done | omega)) only [vle0, vku, ↓vAq, vBq, ↓reduceIte, Nat.reduceBEq, Nat.reduceEqDiff, Nat.reduceLT, Nat.reduceLeDiff, Nat.reduceAdd, Nat.reduceMul, Nat.reduceSub, reduceCtorEq, Int.reduceToNat] <;> (repeat' first | rfl | apply And.intro))) ?_
                        rintro _ _ ⟨lb, rb, rfl, rfl, okb, heb, hlb, hrb, hgb⟩
                        unfold poO
                        (repeat' first | ((first | refine Br.dec ?_ ?_ | refine Br.eqi ?_ ?_) <;> intro h <;> try (exfalso; omega)) | (simp (disch := first | omega | (simp only [vlen]; first | done | omega)) only [hn, vku, ↓vAq, vBq, ↓reduceIte, Nat.reduceBEq, Nat.reduceEqDiff, Nat.reduceLT, Nat.reduceLeDiff, Nat.reduceAdd, Nat.reduceMul, Nat.reduceSub, reduceCtorEq, Int.reduceToNat]) | (refine Br.mk ?_ ?_ <;> intro h) | (refine BrN.mk (fun h => ?_) ?_) | (refine AltVC.mk ?_ ?_))
                      all_goals
                        refine cutK.fold 8 4 p 0 true ?_
                        (repeat' first | ((first | refine Br.dec ?_ ?_ | refine Br.eqi ?_ ?_) <;> intro h <;> try (exfalso; omega)) | (simp (disch := first | omega | (simp only [vlen]; first | done | omega)) only [hn, vku, ↓vAq, vBq, ↓reduceIte, Nat.reduceBEq, Nat.reduceEqDiff, Nat.reduceLT, Nat.reduceLeDiff, Nat.reduceAdd, Nat.reduceMul, Nat.reduceSub, reduceCtorEq, Int.reduceToNat]) | (refine Br.mk ?_ ?_ <;> intro h) | (refine BrN.mk (fun h => ?_) ?_) | (refine AltVC.mk ?_ ?_))
                        refine Chk.mk ⟨by simp [i64s, wyR, tab], tabD_all fun j hj => by split <;> rfl⟩ ?_
                        refine cutK.mk (lb, rb) (by simp (disch := first | omega | (simp only [vlen]; first | done | omega)) only [vku, ↓vAq, vBq, ↓reduceIte, Nat.reduceBEq, Nat.reduceEqDiff, Nat.reduceLT, Nat.reduceLeDiff, Nat.reduceAdd, Nat.reduceMul, Nat.reduceSub, reduceCtorEq, Int.reduceToNat]) (kt_by hB hr1 hpl hkl hjl hea hla okb heb hlb hrb hga hgb) ?_
                        ((simp (disch := first | omega | (simp only [vlen]; first | done | omega)) only [Fits_u, Fits_m, Fits_nil, List.length_append, hn, vku, ↓vAq, vBq, ↓reduceIte, Nat.reduceBEq, Nat.reduceEqDiff, Nat.reduceLT, Nat.reduceLeDiff, Nat.reduceAdd, Nat.reduceMul, Nat.reduceSub, reduceCtorEq, Int.reduceToNat] <;> (repeat' first | rfl | apply And.intro)))
                      all_goals first | exact obTabK (fun j hj => by split <;> first | rfl | (next e => rw [e])) rfl | rfl | trace_state
                    · repeat' first | ((first | refine Br.dec ?_ ?_ | refine Br.eqi ?_ ?_) <;> intro h <;> try (exfalso; omega)) | (simp (disch := first | omega | (simp only [vlen]; first | done | omega)) only [e, hn, vku, ↓vAq, vBq, ↓reduceIte, Nat.reduceBEq, Nat.reduceEqDiff, Nat.reduceLT, Nat.reduceLeDiff, Nat.reduceAdd, Nat.reduceMul, Nat.reduceSub, reduceCtorEq, Int.reduceToNat]) | (refine Br.mk ?_ ?_ <;> intro h) | (refine BrN.mk (fun h => ?_) ?_) | (refine AltVC.mk ?_ ?_)
                      all_goals
                        refine CallVC.lendE [3] [.ptr 0 2 0 0, iv .i64 r1, iv .i64 (W k j)] [poO l] hc1 (by simp) (by rfl) (by unfold poO; (simp (disch := first | omega | (simp only [vlen]; first | done | omega)) only [vle0, vku, ↓vAq, vBq, ↓reduceIte, Nat.reduceBEq, Nat.reduceEqDiff, Nat.reduceLT, Nat.reduceLeDiff, Nat.reduceAdd, Nat.reduceMul, Nat.reduceSub, reduceCtorEq, Int.reduceToNat] <;> (repeat' first | rfl | apply And.intro))) ?_
                        rintro _ _ ⟨la, ra, rfl, rfl, oka, hea, hla, hra, hga⟩
                        unfold poO
                        (repeat' first | ((first | refine Br.dec ?_ ?_ | refine Br.eqi ?_ ?_) <;> intro h <;> try (exfalso; omega)) | (simp (disch := first | omega | (simp only [vlen]; first | done | omega)) only [e, hn, vku, ↓vAq, vBq, ↓reduceIte, Nat.reduceBEq, Nat.reduceEqDiff, Nat.reduceLT, Nat.reduceLeDiff, Nat.reduceAdd, Nat.reduceMul, Nat.reduceSub, reduceCtorEq, Int.reduceToNat]) | (refine Br.mk ?_ ?_ <;> intro h) | (refine BrN.mk (fun h => ?_) ?_) | (refine AltVC.mk ?_ ?_))
                      all_goals
                        have hpa : W p k < la.length := by
                          obtain ⟨e', rfl⟩ := hea
                          rw [List.length_append]; have := hB.lt p k hpl hkl; omega
                        have hc2 := poolCat_spec m.k la oka (by omega) (W p k) ra hpa hra
                        refine CallVC.lendE [3] [.ptr 0 2 0 0, iv .i64 (W p k), iv .i64 ra] [poO la] hc2 (by simp) (by rfl) (by unfold poO; (simp (disch := first | omega | (simp only [vlen]; first | done | omega)) only [vle0, vku, ↓vAq, vBq, ↓reduceIte, Nat.reduceBEq, Nat.reduceEqDiff, Nat.reduceLT, Nat.reduceLeDiff, Nat.reduceAdd, Nat.reduceMul, Nat.reduceSub, reduceCtorEq, Int.reduceToNat] <;> (repeat' first | rfl | apply And.intro))) ?_
                        rintro _ _ ⟨lb, rb, rfl, rfl, okb, heb, hlb, hrb, hgb⟩
                        unfold poO
                        (repeat' first | ((first | refine Br.dec ?_ ?_ | refine Br.eqi ?_ ?_) <;> intro h <;> try (exfalso; omega)) | (simp (disch := first | omega | (simp only [vlen]; first | done | omega)) only [e, hn, vku, ↓vAq, vBq, ↓reduceIte, Nat.reduceBEq, Nat.reduceEqDiff, Nat.reduceLT, Nat.reduceLeDiff, Nat.reduceAdd, Nat.reduceMul, Nat.reduceSub, reduceCtorEq, Int.reduceToNat]) | (refine Br.mk ?_ ?_ <;> intro h) | (refine BrN.mk (fun h => ?_) ?_) | (refine AltVC.mk ?_ ?_))
                      all_goals
                        refine cutK.fold 9 4 p 0 false ?_
                        (repeat' first | ((first | refine Br.dec ?_ ?_ | refine Br.eqi ?_ ?_) <;> intro h <;> try (exfalso; omega)) | (simp (disch := first | omega | (simp only [vlen]; first | done | omega)) only [e, hn, vku, ↓vAq, vBq, ↓reduceIte, Nat.reduceBEq, Nat.reduceEqDiff, Nat.reduceLT, Nat.reduceLeDiff, Nat.reduceAdd, Nat.reduceMul, Nat.reduceSub, reduceCtorEq, Int.reduceToNat]) | (refine Br.mk ?_ ?_ <;> intro h) | (refine BrN.mk (fun h => ?_) ?_) | (refine AltVC.mk ?_ ?_))
                        refine cutK.fold 8 4 k 0 true ?_
                        (repeat' first | ((first | refine Br.dec ?_ ?_ | refine Br.eqi ?_ ?_) <;> intro h <;> try (exfalso; omega)) | (simp (disch := first | omega | (simp only [vlen]; first | done | omega)) only [e, hn, vku, ↓vAq, vBq, ↓reduceIte, Nat.reduceBEq, Nat.reduceEqDiff, Nat.reduceLT, Nat.reduceLeDiff, Nat.reduceAdd, Nat.reduceMul, Nat.reduceSub, reduceCtorEq, Int.reduceToNat]) | (refine Br.mk ?_ ?_ <;> intro h) | (refine BrN.mk (fun h => ?_) ?_) | (refine AltVC.mk ?_ ?_))
                        refine Chk.mk ⟨by simp [i64s, wyR, tab], tabD_all fun j hj => by (repeat' split) <;> rfl⟩ ?_
                        refine cutK.mk (lb, rb) (by simp (disch := first | omega | (simp only [vlen]; first | done | omega)) only [vku, ↓vAq, vBq, ↓reduceIte, Nat.reduceBEq, Nat.reduceEqDiff, Nat.reduceLT, Nat.reduceLeDiff, Nat.reduceAdd, Nat.reduceMul, Nat.reduceSub, reduceCtorEq, Int.reduceToNat]) (kt_by hB hr1 hpl hkl hjl hea hla okb heb hlb hrb hga hgb) ?_
                        ((simp (disch := first | omega | (simp only [vlen]; first | done | omega)) only [Fits_u, Fits_m, Fits_nil, List.length_append, e, hn, vku, ↓vAq, vBq, ↓reduceIte, Nat.reduceBEq, Nat.reduceEqDiff, Nat.reduceLT, Nat.reduceLeDiff, Nat.reduceAdd, Nat.reduceMul, Nat.reduceSub, reduceCtorEq, Int.reduceToNat] <;> (repeat' first | rfl | apply And.intro)))
                      all_goals first | exact obTabK (fun j hj => by (repeat' split) <;> first | rfl | (next e => rw [e])) rfl | rfl | trace_state
                  rintro ⟨l2, r2⟩ ⟨ok2, hl2, he2, hr2, hg2⟩
                  simp only at ok2 hl2 he2 hr2 hg2 ⊢
                  have hB2 := hB.ext ok2 he2
                  have hwt : (wyR i (W p)).getD j 0 = W p j := by simp [wyR, tab, List.getD_eq_getElem?_getD, hjl]
                  have hor := poolOr_spec m.k l2 ok2 (by omega) (W p j) r2 (hB2.lt p j hpl hjl) hr2
                  repeat' first | ((first | refine Br.dec ?_ ?_ | refine Br.eqi ?_ ?_) <;> intro h <;> try (exfalso; omega)) | (simp (disch := first | omega | (simp only [vlen]; first | done | omega)) only [hn, vku, ↓vAq, vBq, ↓reduceIte, Nat.reduceBEq, Nat.reduceEqDiff, Nat.reduceLT, Nat.reduceLeDiff, Nat.reduceAdd, Nat.reduceMul, Nat.reduceSub, reduceCtorEq, Int.reduceToNat]) | (refine Br.mk ?_ ?_ <;> intro h) | (refine BrN.mk (fun h => ?_) ?_) | (refine AltVC.mk ?_ ?_)
                  refine DrawVC.ct (X := List Dm.Node × Nat) (fun x => [(5, .ptr 3 2 0 0), (7, .ref 4 1 0 i), (13, .ref 6 1 0 i)]) (fun x => [(0, ⟨5, [[iv .i64 i, iv .i64 m.k, .sl 1 (rows i64s m.next), iv .i64 m.start, iv .u32 m.final]], true, false, .fix⟩), (3, ⟨2, [[.own false 3 (tbl nodD x.1), .omp poK 4 (poM x.1)]], true, true, .fix⟩), (4, ⟨1, tabD i fun j => .own false 1 (i64s (wyR i (W j))), true, true, .arr⟩), (6, ⟨1, tabD i fun q => if q = p then .own false 1 (i64s (wyR i fun b => if b = j then x.2 else R b)) else wyC i p V q, true, true, .arr⟩)]) (fun x => NodesOk m.k x.1 ∧ x.1.length ≤ l2.length + 1 ∧ (∃ e, x.1 = l2 ++ e) ∧ x.2 < x.1.length ∧ lang x.1 x.2 = orL (lang l2 (W p j)) (lang l2 r2)) 8 (by simp (disch := first | omega | (simp only [vlen]; first | done | omega)) only [vku, ↓vAq, vBq, ↓reduceIte, Nat.reduceBEq, Nat.reduceEqDiff, Nat.reduceLT, Nat.reduceLeDiff, Nat.reduceAdd, Nat.reduceMul, Nat.reduceSub, reduceCtorEq, Int.reduceToNat]) ?_ ?_
                  · repeat' first | ((first | refine Br.dec ?_ ?_ | refine Br.eqi ?_ ?_) <;> intro h <;> try (exfalso; omega)) | (simp (disch := first | omega | (simp only [vlen]; first | done | omega)) only [hwt, hn, vku, ↓vAq, vBq, ↓reduceIte, Nat.reduceBEq, Nat.reduceEqDiff, Nat.reduceLT, Nat.reduceLeDiff, Nat.reduceAdd, Nat.reduceMul, Nat.reduceSub, reduceCtorEq, Int.reduceToNat]) | (refine Br.mk ?_ ?_ <;> intro h) | (refine BrN.mk (fun h => ?_) ?_) | (refine AltVC.mk ?_ ?_)
                    all_goals
                      refine CallVC.lendE [3] [.ptr 0 2 0 0, iv .i64 (W p j), iv .i64 r2] [poO l2] hor (by simp) (by rfl) (by unfold poO; (simp (disch := first | omega | (simp only [vlen]; first | done | omega)) only [vle0, vku, ↓vAq, vBq, ↓reduceIte, Nat.reduceBEq, Nat.reduceEqDiff, Nat.reduceLT, Nat.reduceLeDiff, Nat.reduceAdd, Nat.reduceMul, Nat.reduceSub, reduceCtorEq, Int.reduceToNat] <;> (repeat' first | rfl | apply And.intro))) ?_
                      rintro _ _ ⟨l3, r3, rfl, rfl, ok3, he3, hl3, hr3, hg3⟩
                      unfold poO
                      (repeat' first | ((first | refine Br.dec ?_ ?_ | refine Br.eqi ?_ ?_) <;> intro h <;> try (exfalso; omega)) | (simp (disch := first | omega | (simp only [vlen]; first | done | omega)) only [hn, vku, ↓vAq, vBq, ↓reduceIte, Nat.reduceBEq, Nat.reduceEqDiff, Nat.reduceLT, Nat.reduceLeDiff, Nat.reduceAdd, Nat.reduceMul, Nat.reduceSub, reduceCtorEq, Int.reduceToNat]) | (refine Br.mk ?_ ?_ <;> intro h) | (refine BrN.mk (fun h => ?_) ?_) | (refine AltVC.mk ?_ ?_))
                    all_goals
                      refine cutK.fold 9 6 p 0 true ?_
                      (repeat' first | ((first | refine Br.dec ?_ ?_ | refine Br.eqi ?_ ?_) <;> intro h <;> try (exfalso; omega)) | (simp (disch := first | omega | (simp only [vlen]; first | done | omega)) only [hn, vku, ↓vAq, vBq, ↓reduceIte, Nat.reduceBEq, Nat.reduceEqDiff, Nat.reduceLT, Nat.reduceLeDiff, Nat.reduceAdd, Nat.reduceMul, Nat.reduceSub, reduceCtorEq, Int.reduceToNat]) | (refine Br.mk ?_ ?_ <;> intro h) | (refine BrN.mk (fun h => ?_) ?_) | (refine AltVC.mk ?_ ?_))
                      refine Chk.mk ⟨by simp [i64s, wyR, tab], tabD_all fun j hj => by split <;> first | rfl | exact wyC_clo⟩ ?_
                      refine cutK.fold 8 4 p 0 true ?_
                      (repeat' first | ((first | refine Br.dec ?_ ?_ | refine Br.eqi ?_ ?_) <;> intro h <;> try (exfalso; omega)) | (simp (disch := first | omega | (simp only [vlen]; first | done | omega)) only [hn, vku, ↓vAq, vBq, ↓reduceIte, Nat.reduceBEq, Nat.reduceEqDiff, Nat.reduceLT, Nat.reduceLeDiff, Nat.reduceAdd, Nat.reduceMul, Nat.reduceSub, reduceCtorEq, Int.reduceToNat]) | (refine Br.mk ?_ ?_ <;> intro h) | (refine BrN.mk (fun h => ?_) ?_) | (refine AltVC.mk ?_ ?_))
                      refine Chk.mk ⟨by simp [i64s, wyR, tab], tabD_all fun j hj => by split <;> rfl⟩ ?_
                      refine cutK.mk (l3, r3) (by simp (disch := first | omega | (simp only [vlen]; first | done | omega)) only [vku, ↓vAq, vBq, ↓reduceIte, Nat.reduceBEq, Nat.reduceEqDiff, Nat.reduceLT, Nat.reduceLeDiff, Nat.reduceAdd, Nat.reduceMul, Nat.reduceSub, reduceCtorEq, Int.reduceToNat]) ⟨ok3, hl3, he3, hr3, hg3⟩ ?_
                      ((simp (disch := first | omega | (simp only [vlen]; first | done | omega)) only [Fits_u, Fits_m, Fits_nil, List.length_append, hn, vku, ↓vAq, vBq, ↓reduceIte, Nat.reduceBEq, Nat.reduceEqDiff, Nat.reduceLT, Nat.reduceLeDiff, Nat.reduceAdd, Nat.reduceMul, Nat.reduceSub, reduceCtorEq, Int.reduceToNat] <;> (repeat' first | rfl | apply And.intro)))
                    all_goals first | exact obTabK (fun j hj => by split <;> first | rfl | (next e => rw [e])) rfl | rfl | trace_state
                  · rintro ⟨l3, r3⟩ ⟨ok3, hl3, he3, hr3, hg3⟩
                    simp only at ok3 hl3 he3 hr3 hg3 ⊢
                    repeat' first | ((first | refine Br.dec ?_ ?_ | refine Br.eqi ?_ ?_) <;> intro h <;> try (exfalso; omega)) | (simp (disch := first | omega | (simp only [vlen]; first | done | omega)) only [hn, vku, ↓vAq, vBq, ↓reduceIte, Nat.reduceBEq, Nat.reduceEqDiff, Nat.reduceLT, Nat.reduceLeDiff, Nat.reduceAdd, Nat.reduceMul, Nat.reduceSub, reduceCtorEq, Int.reduceToNat]) | (refine Br.mk ?_ ?_ <;> intro h) | (refine BrN.mk (fun h => ?_) ?_) | (refine AltVC.mk ?_ ?_)
                    refine loopK.mk (j + 1, l3, fun b => if b = j then r3 else R b) (by simp (disch := first | omega | (simp only [vlen]; first | done | omega)) only [vku, ↓vAq, vBq, ↓reduceIte, Nat.reduceBEq, Nat.reduceEqDiff, Nat.reduceLT, Nat.reduceLeDiff, Nat.reduceAdd, Nat.reduceMul, Nat.reduceSub, reduceCtorEq, Int.reduceToNat]) (kt_row hB hkl hpl hjl hr1 hg1 hll hV hR he2 hl2 hg2 ok3 he3 hl3 hr3 hg3) (by show i - (j + 1) < i - j; omega) ?_
                    (simp (disch := first | omega | (simp only [vlen]; first | done | omega)) only [Fits_u, Fits_m, Fits_nil, List.length_append, hn, vku, ↓vAq, vBq, ↓reduceIte, Nat.reduceBEq, Nat.reduceEqDiff, Nat.reduceLT, Nat.reduceLeDiff, Nat.reduceAdd, Nat.reduceMul, Nat.reduceSub, reduceCtorEq, Int.reduceToNat] <;> (repeat' first | rfl | apply And.intro))
                    all_goals first | rfl | trace_state
                · have hje : j = i := by omega
                  subst hje
                  repeat' first | ((first | refine Br.dec ?_ ?_ | refine Br.eqi ?_ ?_) <;> intro h <;> try (exfalso; omega)) | (simp (disch := first | omega | (simp only [vlen]; first | done | omega)) only [hn, vku, ↓vAq, vBq, ↓reduceIte, Nat.reduceBEq, Nat.reduceEqDiff, Nat.reduceLT, Nat.reduceLeDiff, Nat.reduceAdd, Nat.reduceMul, Nat.reduceSub, reduceCtorEq, Int.reduceToNat]) | (refine Br.mk ?_ ?_ <;> intro h) | (refine BrN.mk (fun h => ?_) ?_) | (refine AltVC.mk ?_ ?_)
                  refine loopK.mk (p + 1, l, fun a => if a = p then R else V a) (by simp (disch := first | omega | (simp only [vlen]; first | done | omega)) only [vku, ↓vAq, vBq, ↓reduceIte, Nat.reduceBEq, Nat.reduceEqDiff, Nat.reduceLT, Nat.reduceLeDiff, Nat.reduceAdd, Nat.reduceMul, Nat.reduceSub, reduceCtorEq, Int.reduceToNat]) ⟨by show p + 1 ≤ j; omega, hB, hr1, hg1, by show l.length ≤ 51 + k * 150 + (p + 1) * 21; omega, fun a b ha hb => ?_⟩ (by show j - (p + 1) < j - p; omega) ?_
                  · show (if a = p then R else V a) b < l.length ∧ lang l ((if a = p then R else V a) b) = _
                    by_cases e : a = p
                    · rw [if_pos e, e]; exact hR b hb
                    · rw [if_neg e]; exact hV a b (by omega) hb
                  (simp (disch := first | omega | (simp only [vlen]; first | done | omega)) only [Fits_u, Fits_m, Fits_nil, List.length_append, hn, vku, ↓vAq, vBq, ↓reduceIte, Nat.reduceBEq, Nat.reduceEqDiff, Nat.reduceLT, Nat.reduceLeDiff, Nat.reduceAdd, Nat.reduceMul, Nat.reduceSub, reduceCtorEq, Int.reduceToNat] <;> (repeat' first | rfl | apply And.intro))
                  all_goals first | exact obTabK (fun j hj => wyC_step) (decide_eq_true (by omega)).symm | rfl | trace_state
            · have hpe : p = i := by omega
              subst hpe
              rw [wyC_all, decide_eq_true (show 0 < p by omega)]
              repeat' first | ((first | refine Br.dec ?_ ?_ | refine Br.eqi ?_ ?_) <;> intro h <;> try (exfalso; omega)) | (simp (disch := first | omega | (simp only [vlen]; first | done | omega)) only [hn, vku, ↓vAq, vBq, ↓reduceIte, Nat.reduceBEq, Nat.reduceEqDiff, Nat.reduceLT, Nat.reduceLeDiff, Nat.reduceAdd, Nat.reduceMul, Nat.reduceSub, reduceCtorEq, Int.reduceToNat]) | (refine Br.mk ?_ ?_ <;> intro h) | (refine BrN.mk (fun h => ?_) ?_) | (refine AltVC.mk ?_ ?_)
              refine loopK.swap 4 6 ?_
              repeat' first | ((first | refine Br.dec ?_ ?_ | refine Br.eqi ?_ ?_) <;> intro h <;> try (exfalso; omega)) | (simp (disch := first | omega | (simp only [vlen]; first | done | omega)) only [hn, vku, ↓vAq, vBq, ↓reduceIte, Nat.reduceBEq, Nat.reduceEqDiff, Nat.reduceLT, Nat.reduceLeDiff, Nat.reduceAdd, Nat.reduceMul, Nat.reduceSub, reduceCtorEq, Int.reduceToNat]) | (refine Br.mk ?_ ?_ <;> intro h) | (refine BrN.mk (fun h => ?_) ?_) | (refine AltVC.mk ?_ ?_)
              refine loopK.mk (k + 1, l, V) (by simp (disch := first | omega | (simp only [vlen]; first | done | omega)) only [vku, ↓vAq, vBq, ↓reduceIte, Nat.reduceBEq, Nat.reduceEqDiff, Nat.reduceLT, Nat.reduceLeDiff, Nat.reduceAdd, Nat.reduceMul, Nat.reduceSub, reduceCtorEq, Int.reduceToNat]) ⟨by show k + 1 ≤ p; omega, ⟨hB.ok, hB.pos, hB.non, fun a b ha hb => (hV a b ha hb).1, fun a b ha hb => (hV a b ha hb).2⟩, by show l.length ≤ 50 + (k + 1) * 150; omega⟩ (by show p - (k + 1) < p - k; omega) ?_
              (simp (disch := first | omega | (simp only [vlen]; first | done | omega)) only [Fits_u, Fits_m, Fits_nil, List.length_append, hn, vku, ↓vAq, vBq, ↓reduceIte, Nat.reduceBEq, Nat.reduceEqDiff, Nat.reduceLT, Nat.reduceLeDiff, Nat.reduceAdd, Nat.reduceMul, Nat.reduceSub, reduceCtorEq, Int.reduceToNat] <;> (repeat' first | rfl | apply And.intro))
              all_goals first | rfl | trace_state
        · have hke : k = i := by omega
          subst hke
          obtain ⟨st, hst⟩ : ∃ st : Nat, m.start = st := ⟨m.start.toNat, by have := hvm.start; omega⟩
          obtain ⟨F, hF⟩ : ∃ F : Nat, m.final = F := ⟨m.final.toNat, by omega⟩
          have hstk : st < k := by have := hvm.start; omega
          repeat' first | ((first | refine Br.dec ?_ ?_ | refine Br.eqi ?_ ?_) <;> intro h <;> try (exfalso; omega)) | (simp (disch := first | omega | (simp only [vlen]; first | done | omega)) only [hn, hst, hF, vku, ↓vAq, vBq, ↓reduceIte, Nat.reduceBEq, Nat.reduceEqDiff, Nat.reduceLT, Nat.reduceLeDiff, Nat.reduceAdd, Nat.reduceMul, Nat.reduceSub, reduceCtorEq, Int.reduceToNat]) | (refine Br.mk ?_ ?_ <;> intro h) | (refine BrN.mk (fun h => ?_) ?_) | (refine AltVC.mk ?_ ?_)
          refine LoopVC.mk (X := Nat × List Dm.Node × Nat) (fun x => [(5, .ptr 3 2 0 0), (7, .ref 4 1 0 k), (17, iv .i64 x.2.2), (156, iv .i64 x.1)]) (fun x => [(0, ⟨5, [[iv .i64 k, iv .i64 m.k, .sl 1 (rows i64s m.next), iv .i64 st, iv .u32 F]], true, false, .fix⟩), (3, ⟨2, [[.own false 3 (tbl nodD x.2.1), .omp poK 4 (poM x.2.1)]], true, true, .fix⟩), (4, ⟨1, tabD k fun j => .own false 1 (i64s (wyR k (W j))), true, true, .arr⟩)]) (fun x => k - x.1) (fun x => x.1 ≤ k ∧ KtB m k x.2.1 W k ∧ x.2.2 < x.2.1.length ∧ lang x.2.1 x.2.2 = fL (nxM m) m.k k st (fun s => F.testBit s) x.1 ∧ x.2.1.length ≤ 50 + k * 150 + x.1 * 3) (0, l, 0) ⟨Nat.zero_le _, hB, hB.pos, by show lang l 0 = _; rw [hB.non]; exact fL_0.symm, by show l.length ≤ 50 + k * 150 + 0 * 3; omega⟩ ?_ ?_
          · (simp (disch := first | omega | (simp only [vlen]; first | done | omega)) only [Fits_u, Fits_m, Fits_nil, List.length_append, hn, hst, hF, vku, ↓vAq, vBq, ↓reduceIte, Nat.reduceBEq, Nat.reduceEqDiff, Nat.reduceLT, Nat.reduceLeDiff, Nat.reduceAdd, Nat.reduceMul, Nat.reduceSub, reduceCtorEq, Int.reduceToNat] <;> (repeat' first | rfl | apply And.intro))
            all_goals first | rfl | trace_state
          · rintro ⟨s, l, al⟩ ⟨hs, hB, hal, hlg, hll⟩
            simp only at hs hB hal hlg hll ⊢
            by_cases hsk : s < k
            · have hH := has_spec F s (by omega) (by omega)
              have hor := poolOr_spec m.k l hB.ok (by omega) al (W st s) hal (hB.lt st s hstk hsk)
              by_cases hb : F.testBit s = true
              · rw [hb] at hH
                repeat' first | ((first | refine Br.dec ?_ ?_ | refine Br.eqi ?_ ?_) <;> intro h <;> try (exfalso; omega)) | (simp (disch := first | omega | (simp only [vlen]; first | done | omega)) only [hn, hst, hF, vku, ↓vAq, vBq, ↓reduceIte, Nat.reduceBEq, Nat.reduceEqDiff, Nat.reduceLT, Nat.reduceLeDiff, Nat.reduceAdd, Nat.reduceMul, Nat.reduceSub, reduceCtorEq, Int.reduceToNat]) | (refine Br.mk ?_ ?_ <;> intro h) | (refine BrN.mk (fun h => ?_) ?_) | (refine AltVC.mk ?_ ?_)
                refine CallVC.eq hH ?_
                repeat' first | ((first | refine Br.dec ?_ ?_ | refine Br.eqi ?_ ?_) <;> intro h <;> try (exfalso; omega)) | (simp (disch := first | omega | (simp only [vlen]; first | done | omega)) only [hn, hst, hF, vku, ↓vAq, vBq, ↓reduceIte, Nat.reduceBEq, Nat.reduceEqDiff, Nat.reduceLT, Nat.reduceLeDiff, Nat.reduceAdd, Nat.reduceMul, Nat.reduceSub, reduceCtorEq, Int.reduceToNat]) | (refine Br.mk ?_ ?_ <;> intro h) | (refine BrN.mk (fun h => ?_) ?_) | (refine AltVC.mk ?_ ?_)
                refine CallVC.lendE [3] [.ptr 0 2 0 0, iv .i64 al, iv .i64 (W st s)] [poO l] hor (by simp) (by rfl) (by unfold poO; (simp (disch := first | omega | (simp only [vlen]; first | done | omega)) only [vle0, vku, ↓vAq, vBq, ↓reduceIte, Nat.reduceBEq, Nat.reduceEqDiff, Nat.reduceLT, Nat.reduceLeDiff, Nat.reduceAdd, Nat.reduceMul, Nat.reduceSub, reduceCtorEq, Int.reduceToNat] <;> (repeat' first | rfl | apply And.intro))) ?_
                rintro _ _ ⟨l1, r1, rfl, rfl, ok1, he1, hl1, hr1, hg1⟩
                unfold poO
                have hB1 := hB.ext ok1 he1
                rw [hlg, hB.lg st s hstk hsk] at hg1
                by_cases he : s = st
                · have hno : NodeOk m.k l1.length ⟨2, 0, 0⟩ := ⟨by show (1 : Int) ≤ 2; decide, by show (2 : Int) ≤ 6; decide, fun h => absurd (show (2 : Int) = 3 from h) (by decide), fun h => absurd (show (4 : Int) ≤ 2 from h) (by decide), fun h => absurd (show (2 : Int) = 4 ∨ (2 : Int) = 5 from h) (by decide)⟩
                  have had := poolAdd_spec l1 (by omega) ⟨2, 0, 0⟩ ⟨⟨by show (0 : Int) ≤ 2; decide, by show (2 : Int) ≤ 6; decide⟩, ⟨by show (0 : Int) ≤ 0; decide, by show (0 : Int) ≤ 1000000; decide⟩, ⟨by show (0 : Int) ≤ 0; decide, by show (0 : Int) ≤ 1000000; decide⟩⟩
                  repeat' first | ((first | refine Br.dec ?_ ?_ | refine Br.eqi ?_ ?_) <;> intro h <;> try (exfalso; omega)) | (simp (disch := first | omega | (simp only [vlen]; first | done | omega)) only [hn, hst, hF, vku, ↓vAq, vBq, ↓reduceIte, Nat.reduceBEq, Nat.reduceEqDiff, Nat.reduceLT, Nat.reduceLeDiff, Nat.reduceAdd, Nat.reduceMul, Nat.reduceSub, reduceCtorEq, Int.reduceToNat]) | (refine Br.mk ?_ ?_ <;> intro h) | (refine BrN.mk (fun h => ?_) ?_) | (refine AltVC.mk ?_ ?_)
                  refine CallVC.lendE [3] [.ptr 0 2 0 0, .ag (nodD ⟨2, 0, 0⟩)] [poO l1] had (by simp) (by rfl) (by unfold poO; (simp (disch := first | omega | (simp only [vlen]; first | done | omega)) only [vle0, vku, ↓vAq, vBq, ↓reduceIte, Nat.reduceBEq, Nat.reduceEqDiff, Nat.reduceLT, Nat.reduceLeDiff, Nat.reduceAdd, Nat.reduceMul, Nat.reduceSub, reduceCtorEq, Int.reduceToNat] <;> (repeat' first | rfl | apply And.intro))) ?_
                  rintro _ _ hpo
                  obtain ⟨l2, r2, rfl, rfl, ok2, he2, hl2, hr2, hg2⟩ := hpo.po ok1 hno
                  unfold poO
                  have hr12 : r1 < l2.length := by
                    obtain ⟨e, rfl⟩ := he2
                    rw [List.length_append]; omega
                  have hor2 := poolOr_spec m.k l2 ok2 (by omega) r1 r2 hr12 hr2
                  repeat' first | ((first | refine Br.dec ?_ ?_ | refine Br.eqi ?_ ?_) <;> intro h <;> try (exfalso; omega)) | (simp (disch := first | omega | (simp only [vlen]; first | done | omega)) only [hn, hst, hF, vku, ↓vAq, vBq, ↓reduceIte, Nat.reduceBEq, Nat.reduceEqDiff, Nat.reduceLT, Nat.reduceLeDiff, Nat.reduceAdd, Nat.reduceMul, Nat.reduceSub, reduceCtorEq, Int.reduceToNat]) | (refine Br.mk ?_ ?_ <;> intro h) | (refine BrN.mk (fun h => ?_) ?_) | (refine AltVC.mk ?_ ?_)
                  refine CallVC.lendE [3] [.ptr 0 2 0 0, iv .i64 r1, iv .i64 r2] [poO l2] hor2 (by simp) (by rfl) (by unfold poO; (simp (disch := first | omega | (simp only [vlen]; first | done | omega)) only [vle0, vku, ↓vAq, vBq, ↓reduceIte, Nat.reduceBEq, Nat.reduceEqDiff, Nat.reduceLT, Nat.reduceLeDiff, Nat.reduceAdd, Nat.reduceMul, Nat.reduceSub, reduceCtorEq, Int.reduceToNat] <;> (repeat' first | rfl | apply And.intro))) ?_
                  rintro _ _ ⟨l3, r3, rfl, rfl, ok3, he3, hl3, hr3, hg3⟩
                  unfold poO
                  have hg4 : lang l3 r3 = fL (nxM m) m.k k st (fun s => F.testBit s) (s + 1) := by
                    have e1 : lang l2 r1 = lang l1 r1 := by
                      obtain ⟨e, rfl⟩ := he2
                      exact lang_pre hr1
                    rw [hg3, hg2, e1, hg1, fL_st hb he, he]; rfl
                  repeat' first | ((first | refine Br.dec ?_ ?_ | refine Br.eqi ?_ ?_) <;> intro h <;> try (exfalso; omega)) | (simp (disch := first | omega | (simp only [vlen]; first | done | omega)) only [hn, hst, hF, vku, ↓vAq, vBq, ↓reduceIte, Nat.reduceBEq, Nat.reduceEqDiff, Nat.reduceLT, Nat.reduceLeDiff, Nat.reduceAdd, Nat.reduceMul, Nat.reduceSub, reduceCtorEq, Int.reduceToNat]) | (refine Br.mk ?_ ?_ <;> intro h) | (refine BrN.mk (fun h => ?_) ?_) | (refine AltVC.mk ?_ ?_)
                  refine loopK.fold 5 4 st 0 true ?_
                  repeat' first | ((first | refine Br.dec ?_ ?_ | refine Br.eqi ?_ ?_) <;> intro h <;> try (exfalso; omega)) | (simp (disch := first | omega | (simp only [vlen]; first | done | omega)) only [hn, hst, hF, vku, ↓vAq, vBq, ↓reduceIte, Nat.reduceBEq, Nat.reduceEqDiff, Nat.reduceLT, Nat.reduceLeDiff, Nat.reduceAdd, Nat.reduceMul, Nat.reduceSub, reduceCtorEq, Int.reduceToNat]) | (refine Br.mk ?_ ?_ <;> intro h) | (refine BrN.mk (fun h => ?_) ?_) | (refine AltVC.mk ?_ ?_)
                  refine Chk.mk ⟨by simp [i64s, wyR, tab], tabD_all fun j hj => by split <;> rfl⟩ ?_
                  refine loopK.mk (s + 1, l3, r3) (by simp (disch := first | omega | (simp only [vlen]; first | done | omega)) only [vku, ↓vAq, vBq, ↓reduceIte, Nat.reduceBEq, Nat.reduceEqDiff, Nat.reduceLT, Nat.reduceLeDiff, Nat.reduceAdd, Nat.reduceMul, Nat.reduceSub, reduceCtorEq, Int.reduceToNat]) ⟨by show s + 1 ≤ k; omega, (hB1.ext ok2 he2).ext ok3 he3, hr3, hg4, by show l3.length ≤ 50 + k * 150 + (s + 1) * 3; omega⟩ (by show k - (s + 1) < k - s; omega) ?_
                  (simp (disch := first | omega | (simp only [vlen]; first | done | omega)) only [Fits_u, Fits_m, Fits_nil, List.length_append, hn, hst, hF, vku, ↓vAq, vBq, ↓reduceIte, Nat.reduceBEq, Nat.reduceEqDiff, Nat.reduceLT, Nat.reduceLeDiff, Nat.reduceAdd, Nat.reduceMul, Nat.reduceSub, reduceCtorEq, Int.reduceToNat] <;> (repeat' first | rfl | apply And.intro))
                  all_goals first | exact obTabK (fun j hj => by split <;> first | rfl | (next e => rw [e])) rfl | rfl | trace_state
                · repeat' first | ((first | refine Br.dec ?_ ?_ | refine Br.eqi ?_ ?_) <;> intro h <;> try (exfalso; omega)) | (simp (disch := first | omega | (simp only [vlen]; first | done | omega)) only [hn, hst, hF, vku, ↓vAq, vBq, ↓reduceIte, Nat.reduceBEq, Nat.reduceEqDiff, Nat.reduceLT, Nat.reduceLeDiff, Nat.reduceAdd, Nat.reduceMul, Nat.reduceSub, reduceCtorEq, Int.reduceToNat]) | (refine Br.mk ?_ ?_ <;> intro h) | (refine BrN.mk (fun h => ?_) ?_) | (refine AltVC.mk ?_ ?_)
                  refine loopK.fold 5 4 st 0 true ?_
                  repeat' first | ((first | refine Br.dec ?_ ?_ | refine Br.eqi ?_ ?_) <;> intro h <;> try (exfalso; omega)) | (simp (disch := first | omega | (simp only [vlen]; first | done | omega)) only [hn, hst, hF, vku, ↓vAq, vBq, ↓reduceIte, Nat.reduceBEq, Nat.reduceEqDiff, Nat.reduceLT, Nat.reduceLeDiff, Nat.reduceAdd, Nat.reduceMul, Nat.reduceSub, reduceCtorEq, Int.reduceToNat]) | (refine Br.mk ?_ ?_ <;> intro h) | (refine BrN.mk (fun h => ?_) ?_) | (refine AltVC.mk ?_ ?_)
                  refine Chk.mk ⟨by simp [i64s, wyR, tab], tabD_all fun j hj => by split <;> rfl⟩ ?_
                  refine loopK.mk (s + 1, l1, r1) (by simp (disch := first | omega | (simp only [vlen]; first | done | omega)) only [vku, ↓vAq, vBq, ↓reduceIte, Nat.reduceBEq, Nat.reduceEqDiff, Nat.reduceLT, Nat.reduceLeDiff, Nat.reduceAdd, Nat.reduceMul, Nat.reduceSub, reduceCtorEq, Int.reduceToNat]) ⟨by show s + 1 ≤ k; omega, hB1, hr1, by show lang l1 r1 = _; rw [hg1]; exact (fL_yes hb he).symm, by show l1.length ≤ 50 + k * 150 + (s + 1) * 3; omega⟩ (by show k - (s + 1) < k - s; omega) ?_
                  (simp (disch := first | omega | (simp only [vlen]; first | done | omega)) only [Fits_u, Fits_m, Fits_nil, List.length_append, hn, hst, hF, vku, ↓vAq, vBq, ↓reduceIte, Nat.reduceBEq, Nat.reduceEqDiff, Nat.reduceLT, Nat.reduceLeDiff, Nat.reduceAdd, Nat.reduceMul, Nat.reduceSub, reduceCtorEq, Int.reduceToNat] <;> (repeat' first | rfl | apply And.intro))
                  all_goals first | exact obTabK (fun j hj => by split <;> first | rfl | (next e => rw [e])) rfl | rfl | trace_state
              · rw [Bool.not_eq_true] at hb
                rw [hb] at hH
                repeat' first | ((first | refine Br.dec ?_ ?_ | refine Br.eqi ?_ ?_) <;> intro h <;> try (exfalso; omega)) | (simp (disch := first | omega | (simp only [vlen]; first | done | omega)) only [hn, hst, hF, vku, ↓vAq, vBq, ↓reduceIte, Nat.reduceBEq, Nat.reduceEqDiff, Nat.reduceLT, Nat.reduceLeDiff, Nat.reduceAdd, Nat.reduceMul, Nat.reduceSub, reduceCtorEq, Int.reduceToNat]) | (refine Br.mk ?_ ?_ <;> intro h) | (refine BrN.mk (fun h => ?_) ?_) | (refine AltVC.mk ?_ ?_)
                refine CallVC.eq hH ?_
                repeat' first | ((first | refine Br.dec ?_ ?_ | refine Br.eqi ?_ ?_) <;> intro h <;> try (exfalso; omega)) | (simp (disch := first | omega | (simp only [vlen]; first | done | omega)) only [hn, hst, hF, vku, ↓vAq, vBq, ↓reduceIte, Nat.reduceBEq, Nat.reduceEqDiff, Nat.reduceLT, Nat.reduceLeDiff, Nat.reduceAdd, Nat.reduceMul, Nat.reduceSub, reduceCtorEq, Int.reduceToNat]) | (refine Br.mk ?_ ?_ <;> intro h) | (refine BrN.mk (fun h => ?_) ?_) | (refine AltVC.mk ?_ ?_)
                refine loopK.mk (s + 1, l, al) (by simp (disch := first | omega | (simp only [vlen]; first | done | omega)) only [vku, ↓vAq, vBq, ↓reduceIte, Nat.reduceBEq, Nat.reduceEqDiff, Nat.reduceLT, Nat.reduceLeDiff, Nat.reduceAdd, Nat.reduceMul, Nat.reduceSub, reduceCtorEq, Int.reduceToNat]) ⟨by show s + 1 ≤ k; omega, hB, hal, by show lang l al = _; rw [hlg]; exact (fL_no hb).symm, by show l.length ≤ 50 + k * 150 + (s + 1) * 3; omega⟩ (by show k - (s + 1) < k - s; omega) ?_
                (simp (disch := first | omega | (simp only [vlen]; first | done | omega)) only [Fits_u, Fits_m, Fits_nil, List.length_append, hn, hst, hF, vku, ↓vAq, vBq, ↓reduceIte, Nat.reduceBEq, Nat.reduceEqDiff, Nat.reduceLT, Nat.reduceLeDiff, Nat.reduceAdd, Nat.reduceMul, Nat.reduceSub, reduceCtorEq, Int.reduceToNat] <;> (repeat' first | rfl | apply And.intro))
                all_goals first | rfl | trace_state
            · have hse : s = k := by omega
              subst hse
              repeat' first | ((first | refine Br.dec ?_ ?_ | refine Br.eqi ?_ ?_) <;> intro h <;> try (exfalso; omega)) | (simp (disch := first | omega | (simp only [vlen]; first | done | omega)) only [hn, hst, hF, vku, ↓vAq, vBq, ↓reduceIte, Nat.reduceBEq, Nat.reduceEqDiff, Nat.reduceLT, Nat.reduceLeDiff, Nat.reduceAdd, Nat.reduceMul, Nat.reduceSub, reduceCtorEq, Int.reduceToNat]) | (refine Br.mk ?_ ?_ <;> intro h) | (refine BrN.mk (fun h => ?_) ?_) | (refine AltVC.mk ?_ ?_)
              have hno : NodeOk m.k l.length ⟨5, al, al⟩ := ⟨by show (1 : Int) ≤ 5; decide, by show (5 : Int) ≤ 6; decide, fun h => absurd (show (5 : Int) = 3 from h) (by decide), fun _ => ⟨by show (0 : Int) ≤ (al : Int); omega, by show (al : Int) < _; omega⟩, fun _ => ⟨by show (0 : Int) ≤ (al : Int); omega, by show (al : Int) < _; omega⟩⟩
              refine fin_mk (.inr ⟨hc, l ++ [⟨5, al, al⟩], ok_snoc hB.ok hno, by simp, by rw [List.length_append, List.length_singleton]; omega, ?_, by rw [← nod_app]⟩)
              rw [List.length_append, List.length_singleton, Nat.add_sub_cancel, lang_last, hn, hst, hF, Int.toNat_natCast, Int.toNat_natCast, Int.toNat_natCast, ← hlg]
              unfold stepL
              exact or_self
end Go.Proofs.Ytdncgpgfnclifaa
