/-
  coppicerref: Firsts, Gone.
-/
import Derived.Test.YtplkkacfjepgpaaAheadR
set_option linter.unusedVariables false
set_option linter.unusedSimpArgs false
set_option linter.unnecessarySimpa false
namespace Go.Proofs.Ytplkkacfjepgpaa
open Go.Dm
set_option linter.defProp false
inductive HdR (g : Grammar) (N : Nat) (l : List Int) : Int → Prop
  | base (y : Int) (h : y ∈ hds g N l) : HdR g N l y
  | step (r : Rule) (z : Int) (hr : r ∈ g.rules) (h : HdR g N l (g.k + r.left)) (hz : z ∈ hds g N r.right) : HdR g N l z
theorem hdr_sgn {g : Grammar} (hv : Valid g) {N : Nat} {l : List Int} {y : Int} (h : HdR g N l y) : ∀ {x : Nat}, sgn g (Fst g N) y x → FstL g N l x := by
  induction h with
  | base y h => exact fun hx => ⟨y, h, hx⟩
  | step r z hr h hz ih =>
    intro x hx
    have hl := hv.left r hr
    refine ih (.inr ⟨by omega, ?_⟩)
    rw [show (g.k + r.left - g.k).toNat = r.left.toNat by omega]
    exact Fst.of hr hz hx
theorem hdr_fst {g : Grammar} (hv : Valid g) {N : Nat} {l : List Int} {n x : Nat} (hf : Fst g N n x) : ∀ {y : Int}, 0 ≤ y - g.k → (y - g.k).toNat = n → HdR g N l y → ∃ z, HdR g N l z ∧ z < g.k ∧ z.toNat = x := by
  induction hf with
  | sym r y' hr hy hk =>
    intro y h0 h1 h2
    have hl := hv.left r hr
    have e : y = g.k + r.left := by omega
    subst e
    exact ⟨y', .step r y' hr h2 hy, hk, rfl⟩
  | nam r y' x hr hy hk hf ih =>
    intro y h0 h1 h2
    have hl := hv.left r hr
    have e : y = g.k + r.left := by omega
    subst e
    exact ih (by omega) rfl (.step r y' hr h2 hy)
theorem fst_iff {g : Grammar} (hv : Valid g) {N : Nat} {l : List Int} {x : Nat} : FstL g N l x ↔ ∃ z, HdR g N l z ∧ z < g.k ∧ z.toNat = x := by
  constructor
  · rintro ⟨y, hy, ⟨h, e⟩ | ⟨h, h2⟩⟩
    · exact ⟨y, .base y hy, h, e⟩
    · exact hdr_fst hv h2 (by omega) rfl (.base y hy)
  · rintro ⟨z, h, h1, h2⟩
    exact hdr_sgn hv h (.inl ⟨h1, h2⟩)
open Classical in
noncomputable def fstS (g : Grammar) (N : Nat) (l : List Int) : Nat := setOf (fun x => decide (FstL g N l x)) 3
open Classical in
theorem fstS_bit {g : Grammar} {N : Nat} {l : List Int} {x : Nat} (hx : x < 3) : (fstS g N l).testBit x = true ↔ FstL g N l x := by
  unfold fstS
  rw [setOf_bit, Bool.and_eq_true]
  exact ⟨fun h => of_decide_eq_true h.2, fun h => ⟨decide_eq_true hx, decide_eq_true h⟩⟩
def symS (g : Grammar) (L : List Int) : Nat := (L.filter fun y => decide (y < g.k)).foldl (fun S y => S ||| 2 ^ y.toNat) 0
structure FdOk (g : Grammar) (N : Nat) (l L : List Int) : Prop where
  nodup : L.Nodup
  rng : ∀ y, y ∈ L → 0 ≤ y ∧ y < g.k + g.n
  snd : ∀ y, y ∈ L → HdR g N l y
  base : ∀ y, y ∈ hds g N l → y ∈ L
def FdDone (g : Grammar) (N : Nat) (L : List Int) (k : Nat) : Prop := ∀ a, a < k → ∀ r, r ∈ g.rules → L.getD a 0 = g.k + r.left → ∀ z, z ∈ hds g N r.right → z ∈ L
theorem FdOk.add {g : Grammar} {N : Nat} {l L : List Int} (h : FdOk g N l L) {y : Int} (h1 : 0 ≤ y ∧ y < g.k + g.n) (h2 : HdR g N l y) : FdOk g N l (addI L y) :=
  ⟨addI_nodup h.nodup, fun z hz => by
    rcases addI_mem.1 hz with hz | rfl
    · exact h.rng z hz
    · exact h1, fun z hz => by
    rcases addI_mem.1 hz with hz | rfl
    · exact h.snd z hz
    · exact h2, fun z hz => addI_mem.2 (.inl (h.base z hz))⟩
theorem fd_all {g : Grammar} {N : Nat} {l L : List Int} (h : FdOk g N l L) (hd : FdDone g N L L.length) {y : Int} (hy : HdR g N l y) : y ∈ L := by
  induction hy with
  | base y hy => exact h.base y hy
  | step r z hr _ hz ih =>
    obtain ⟨a, ha, e⟩ := List.getElem_of_mem ih
    exact hd a ha r hr (by rw [← e]; simp [List.getD, ha]) z hz
theorem addI_get {L : List Int} {y : Int} {a : Nat} (h : a < L.length) : (addI L y).getD a 0 = L.getD a 0 := by
  unfold addI
  split
  · rfl
  · exact getD_app h
theorem FdDone.add {g : Grammar} {N : Nat} {L : List Int} {k : Nat} (h : FdDone g N L k) (hk : k ≤ L.length) {y : Int} : FdDone g N (addI L y) k := fun a ha r hr e z hz => by
  rw [addI_get (by omega)] at e
  exact addI_mem.2 (.inl (h a ha r hr e z hz))
theorem symS_bit {L : List Int} {g : Grammar} {x : Nat} : (symS g L).testBit x = true ↔ ∃ y, y ∈ L ∧ y < g.k ∧ y.toNat = x := by
  unfold symS
  have := @bitsL_bit x (L.filter fun y => decide (y < g.k))
  unfold bitsL at this
  rw [this]
  simp [and_assoc]
theorem symS_lt {L : List Int} {g : Grammar} (hk : g.k ≤ 3) (h : ∀ y, y ∈ L → 0 ≤ y) : symS g L < 2 ^ 3 := by
  unfold symS
  have := @bitsL_lt 3 (L.filter fun y => decide (y < g.k)) (fun y hy => by
    have := List.mem_filter.1 hy
    have h1 := h y this.1
    have h2 := of_decide_eq_true this.2
    omega)
  unfold bitsL at this
  exact this
theorem symS_snoc {L : List Int} {g : Grammar} {y : Int} : symS g (L ++ [y]) = if y < g.k then symS g L ||| 2 ^ y.toNat else symS g L := by
  unfold symS
  rw [List.filter_append, List.foldl_append]
  split
  · next h => simp [h]
  · next h => simp [h]
open Classical in
theorem symS_is {g : Grammar} (hv : Valid g) {N : Nat} {l L : List Int} (h : FdOk g N l L) (hd : FdDone g N L L.length) : symS g L = fstS g N l := by
  unfold fstS
  refine set_ext (symS_lt hv.k.2 fun y hy => (h.rng y hy).1) fun x _ => ?_
  rw [Bool.eq_iff_iff, decide_eq_true_eq, symS_bit, fst_iff hv]
  exact ⟨fun ⟨y, h1, h2, h3⟩ => ⟨y, h.snd y h1, h2, h3⟩, fun ⟨y, h1, h2, h3⟩ => ⟨y, fd_all h hd h1, h2, h3⟩⟩
def FdR (g : Grammar) (N : Nat) (L : List Int) (c : Int) (j : Nat) : Prop := ∀ i, i < j → c = g.k + (g.rules.getD i default).left → ∀ z, z ∈ hds g N (g.rules.getD i default).right → z ∈ L
theorem FdR.add {g : Grammar} {N : Nat} {L : List Int} {c : Int} {j : Nat} (h : FdR g N L c j) {y : Int} : FdR g N (addI L y) c j := fun i hi e z hz => addI_mem.2 (.inl (h i hi e z hz))
theorem addI_le {L : List Int} {y : Int} : L.length ≤ (addI L y).length := by unfold addI; split <;> simp
theorem fd_rule {g : Grammar} {N : Nat} {L : List Int} {k : Nat} (hd : FdDone g N L k) (hr : FdR g N L (L.getD k 0) g.rules.length) : FdDone g N L (k + 1) := fun a ha r hr' e z hz => by
  rcases Nat.lt_or_ge a k with h | h
  · exact hd a h r hr' e z hz
  · have : a = k := by omega
    subst this
    obtain ⟨j, hj, rfl⟩ := List.getElem_of_mem hr'
    have hg : g.rules.getD j default = g.rules[j] := by simp [List.getD, hj]
    exact hr j hj (by rw [hg]; exact e) z (by rw [hg]; exact hz)
set_option maxRecDepth 10000 in
set_option maxHeartbeats 4000000 in
theorem firsts_spec (g : Grammar) (hv : Valid g) (l : List Int) (hl : l.length ≤ 1000) (hs : ∀ y, y ∈ l → 0 ≤ y ∧ y < g.k + g.n) : Dm.Spec Try.prog 14 [.ag (graD g), .sl 1 (i64s l)] (· = iv .u32 (fstS g (nameSet g true) l)) := by
  refine spec_of_vc mixed Try.func14 c14 (by rw [show Try.f14.ntmps = _ from Try.ntmps14]; simp) ?_
  unfold m14 r14
  have hk := hv.k
  have hn := hv.n
  have hlen := hv.len
  have hheads := headsH_spec g hv l hl hs
  have hheadr := fun (r : Rule) (hr : r ∈ g.rules) => heads_spec g hv r.right (by have := hv.long r hr; omega) (hv.right r hr)
  generalize hNe : nameSet g true = N at hheads hheadr ⊢
  repeat' first | ((first | refine Br.dec ?_ ?_ | refine Br.eqi ?_ ?_) <;> intro h <;> try (exfalso; omega)) | (simp (disch := (first | omega | (simp only [vlen]; first | done | omega))) only [vam, ↓vAq, vBq, ↓reduceIte, Nat.reduceBEq, Nat.reduceEqDiff, Nat.reduceLT, Nat.reduceLeDiff, Nat.reduceAdd, Nat.reduceMul, Nat.reduceSub, reduceCtorEq, Int.reduceToNat]) | (refine Br.mk ?_ ?_ <;> intro h) | (refine BrN.mk (fun h => ?_) ?_) | (refine AltVC.mk ?_ ?_)
  refine CallVC.lendE [] [.ag (graD g), .sl 1 (i64s l)] [] hheads (by simp) (by rfl) (by (simp (disch := (first | omega | (simp only [vlen]; first | done | omega))) only [vle0, ↓vAq, vBq, ↓reduceIte, Nat.reduceBEq, Nat.reduceEqDiff, Nat.reduceLT, Nat.reduceLeDiff, Nat.reduceAdd, Nat.reduceMul, Nat.reduceSub, reduceCtorEq, Int.reduceToNat] <;> (repeat' first | rfl | apply And.intro))) ?_
  rintro d o ⟨L0, rfl, rfl, hok⟩
  repeat' first | ((first | refine Br.dec ?_ ?_ | refine Br.eqi ?_ ?_) <;> intro h <;> try (exfalso; omega)) | (simp (disch := (first | omega | (simp only [vlen]; first | done | omega))) only [vam, ↓vAq, vBq, ↓reduceIte, Nat.reduceBEq, Nat.reduceEqDiff, Nat.reduceLT, Nat.reduceLeDiff, Nat.reduceAdd, Nat.reduceMul, Nat.reduceSub, reduceCtorEq, Int.reduceToNat]) | (refine Br.mk ?_ ?_ <;> intro h) | (refine BrN.mk (fun h => ?_) ?_) | (refine AltVC.mk ?_ ?_)
  have hlen8 : ∀ {L : List Int}, FdOk g N l L → L.length ≤ 8 := fun h => sign_len h.nodup fun y hy => by have := h.rng y hy; omega
  refine LoopVC.mk (X := List Int × Nat) (fun x => [(5, .ref 3 1 0 x.1.length), (6, iv .i64 x.2)]) (fun x => [(0, gOb g), (3, ⟨1, i64s x.1, true, false, .arr⟩)]) (fun x => 9 - x.2) (fun x => x.2 ≤ x.1.length ∧ FdOk g N l x.1 ∧ FdDone g N x.1 x.2) (L0, 0) ⟨by simp, ⟨hok.nodup, fun y hy => hs y (hds_sub ((hok.mem y).1 hy)), fun y hy => .base y ((hok.mem y).1 hy), fun y hy => (hok.mem y).2 hy⟩, fun a ha => by simp at ha⟩ ?_ ?_
  · (simp (disch := (first | omega | (simp only [vlen]; first | done | omega))) only [Fits_u, Fits_m, Fits_nil, List.length_append, vam, ↓vAq, vBq, ↓reduceIte, Nat.reduceBEq, Nat.reduceEqDiff, Nat.reduceLT, Nat.reduceLeDiff, Nat.reduceAdd, Nat.reduceMul, Nat.reduceSub, reduceCtorEq, Int.reduceToNat] <;> (repeat' first | rfl | apply And.intro))
  · rintro ⟨L, k⟩ ⟨h1, h2, h3⟩
    simp only at h1 h2 h3
    have hl8 := hlen8 h2
    by_cases hkl : k < L.length
    · repeat' first | ((first | refine Br.dec ?_ ?_ | refine Br.eqi ?_ ?_) <;> intro h <;> try (exfalso; omega)) | (simp (disch := (first | omega | (simp only [vlen]; first | done | omega))) only [vam, ↓vAq, vBq, ↓reduceIte, Nat.reduceBEq, Nat.reduceEqDiff, Nat.reduceLT, Nat.reduceLeDiff, Nat.reduceAdd, Nat.reduceMul, Nat.reduceSub, reduceCtorEq, Int.reduceToNat]) | (refine Br.mk ?_ ?_ <;> intro h) | (refine BrN.mk (fun h => ?_) ?_) | (refine AltVC.mk ?_ ?_)
      refine LoopVC.mk (X := List Int × Nat) (fun x => [(5, .ref 3 1 0 x.1.length), (26, iv .i64 x.2)]) (fun x => [(0, gOb g), (3, ⟨1, i64s x.1, true, false, .arr⟩)]) (fun x => g.rules.length - x.2) (fun x => x.2 ≤ g.rules.length ∧ k < x.1.length ∧ FdOk g N l x.1 ∧ FdDone g N x.1 k ∧ FdR g N x.1 (x.1.getD k 0) x.2) (L, 0) ⟨by simp, hkl, h2, h3, fun i hi => by simp at hi⟩ ?_ ?_
      · (simp (disch := (first | omega | (simp only [vlen]; first | done | omega))) only [Fits_u, Fits_m, Fits_nil, List.length_append, vam, ↓vAq, vBq, ↓reduceIte, Nat.reduceBEq, Nat.reduceEqDiff, Nat.reduceLT, Nat.reduceLeDiff, Nat.reduceAdd, Nat.reduceMul, Nat.reduceSub, reduceCtorEq, Int.reduceToNat] <;> (repeat' first | rfl | apply And.intro))
      · rintro ⟨L2, j⟩ ⟨k1, k2, k3, k4, k5⟩
        simp only at k1 k2 k3 k4 k5
        have hl28 := hlen8 k3
        by_cases hj : j < g.rules.length
        · have hm : g.rules.getD j default ∈ g.rules := getD_mem' hj
          have hcr := k3.rng _ (getD_mem (l := L2) (i := k) (d := 0) k2)
          have hsucc : ∀ {L3 : List Int}, FdR g N L3 (L3.getD k 0) j → (L3.getD k 0 = g.k + (g.rules.getD j default).left → ∀ z, z ∈ hds g N (g.rules.getD j default).right → z ∈ L3) → FdR g N L3 (L3.getD k 0) (j + 1) := fun h h' i hi e z hz => by
            rcases Nat.lt_or_ge i j with q | q
            · exact h i q e z hz
            · have : i = j := by omega
              subst this; exact h' e z hz
          generalize hre : g.rules.getD j default = r at hm hsucc
          have hleft := hv.left r hm
          have hlong := hv.long r hm
          have hright := hv.right r hm
          repeat' first | ((first | refine Br.dec ?_ ?_ | refine Br.eqi ?_ ?_) <;> intro h <;> try (exfalso; omega)) | (simp (disch := (first | omega | (simp only [vlen]; first | done | omega))) only [vam, hre, ↓vAq, vBq, ↓reduceIte, Nat.reduceBEq, Nat.reduceEqDiff, Nat.reduceLT, Nat.reduceLeDiff, Nat.reduceAdd, Nat.reduceMul, Nat.reduceSub, reduceCtorEq, Int.reduceToNat]) | (refine Br.mk ?_ ?_ <;> intro h) | (refine BrN.mk (fun h => ?_) ?_) | (refine AltVC.mk ?_ ?_)
          · refine CallVC.mk (hheadr r hm) ?_
            rintro d ⟨Lh, rfl, hokh⟩
            have hhl := sign_len (n := 8) hokh.nodup (fun y hy => by have := hright y (hds_sub ((hokh.mem y).1 hy)); omega)
            have hceq : L2.getD k 0 = g.k + r.left := by assumption
            have hrle := hokh.mem
            repeat' first | ((first | refine Br.dec ?_ ?_ | refine Br.eqi ?_ ?_) <;> intro h <;> try (exfalso; omega)) | (simp (disch := (first | omega | (simp only [vlen]; first | done | omega))) only [vam, hre, ↓vAq, vBq, ↓reduceIte, Nat.reduceBEq, Nat.reduceEqDiff, Nat.reduceLT, Nat.reduceLeDiff, Nat.reduceAdd, Nat.reduceMul, Nat.reduceSub, reduceCtorEq, Int.reduceToNat]) | (refine Br.mk ?_ ?_ <;> intro h) | (refine BrN.mk (fun h => ?_) ?_) | (refine AltVC.mk ?_ ?_)
            refine LoopVC.mk (X := List Int × Nat) (fun x => [(5, .ref 3 1 0 x.1.length), (45, iv .i64 x.2)]) (fun x => [(0, gOb g), (3, ⟨1, i64s x.1, true, false, .arr⟩), (4, rOb r)]) (fun x => Lh.length - x.2) (fun x => x.2 ≤ Lh.length ∧ k < x.1.length ∧ FdOk g N l x.1 ∧ FdDone g N x.1 k ∧ x.1.getD k 0 = L2.getD k 0 ∧ FdR g N x.1 (x.1.getD k 0) j ∧ ∀ z, z ∈ Lh.take x.2 → z ∈ x.1) (L2, 0) ⟨by simp, k2, k3, k4, rfl, k5, by simp⟩ ?_ ?_
            · (simp (disch := (first | omega | (simp only [vlen]; first | done | omega))) only [Fits_u, Fits_m, Fits_nil, List.length_append, vam, ↓vAq, vBq, ↓reduceIte, Nat.reduceBEq, Nat.reduceEqDiff, Nat.reduceLT, Nat.reduceLeDiff, Nat.reduceAdd, Nat.reduceMul, Nat.reduceSub, reduceCtorEq, Int.reduceToNat] <;> (repeat' first | rfl | apply And.intro))
            · rintro ⟨L3, q⟩ ⟨q1, q2, q3, q4, q5, q6, q7⟩
              simp only at q1 q2 q3 q4 q5 q6 q7
              have hl38 := hlen8 q3
              by_cases hq : q < Lh.length
              · have hzm := getD_mem (l := Lh) (i := q) (d := 0) hq
                have hzh := (hrle _).1 hzm
                have hzr := hright _ (hds_sub hzh)
                have hhd : HdR g N l (g.k + r.left) := by rw [← hceq, ← q5]; exact q3.snd _ (getD_mem q2)
                have hadd := q3.add hzr (.step r _ hm hhd hzh)
                have hst := take_succ_getD hq 0
                have hhas := hasL_spec L3 (by omega) (Lh.getD q 0)
                have hin : ∀ z, z ∈ Lh.take (q + 1) → z ∈ addI L3 (Lh.getD q 0) := fun z hz => by
                  rw [hst, List.mem_append, List.mem_singleton] at hz
                  rcases hz with h | h
                  · exact addI_mem.2 (.inl (q7 z h))
                  · exact addI_mem.2 (.inr h)
                have hget := addI_get (y := Lh.getD q 0) q2
                have hale := addI_le (L := L3) (y := Lh.getD q 0)
                have hdn := q4.add (y := Lh.getD q 0) (Nat.le_of_lt q2)
                have hfr := q6.add (y := Lh.getD q 0)
                by_cases hx : Lh.getD q 0 ∈ L3
                · have e : addI L3 (Lh.getD q 0) = L3 := by rw [addI, if_pos hx]
                  rw [e] at hin hadd
                  rw [decide_eq_true hx] at hhas
                  repeat' first | ((first | refine Br.dec ?_ ?_ | refine Br.eqi ?_ ?_) <;> intro h <;> try (exfalso; omega)) | (simp (disch := (first | omega | (simp only [vlen]; first | done | omega))) only [vam, ↓vAq, vBq, ↓reduceIte, Nat.reduceBEq, Nat.reduceEqDiff, Nat.reduceLT, Nat.reduceLeDiff, Nat.reduceAdd, Nat.reduceMul, Nat.reduceSub, reduceCtorEq, Int.reduceToNat]) | (refine Br.mk ?_ ?_ <;> intro h) | (refine BrN.mk (fun h => ?_) ?_) | (refine AltVC.mk ?_ ?_)
                  refine CallVC.eqo hhas (by repeat' first | ((first | refine Br.dec ?_ ?_ | refine Br.eqi ?_ ?_) <;> intro h <;> try (exfalso; omega)) | (simp (disch := (first | omega | (simp only [vlen]; first | done | omega))) only [vam, ↓vAq, vBq, ↓reduceIte, Nat.reduceBEq, Nat.reduceEqDiff, Nat.reduceLT, Nat.reduceLeDiff, Nat.reduceAdd, Nat.reduceMul, Nat.reduceSub, reduceCtorEq, Int.reduceToNat]) | (refine Br.mk ?_ ?_ <;> intro h) | (refine BrN.mk (fun h => ?_) ?_) | (refine AltVC.mk ?_ ?_)) ?_
                  repeat' first | ((first | refine Br.dec ?_ ?_ | refine Br.eqi ?_ ?_) <;> intro h <;> try (exfalso; omega)) | (simp (disch := (first | omega | (simp only [vlen]; first | done | omega))) only [vam, ↓vAq, vBq, ↓reduceIte, Nat.reduceBEq, Nat.reduceEqDiff, Nat.reduceLT, Nat.reduceLeDiff, Nat.reduceAdd, Nat.reduceMul, Nat.reduceSub, reduceCtorEq, Int.reduceToNat]) | (refine Br.mk ?_ ?_ <;> intro h) | (refine BrN.mk (fun h => ?_) ?_) | (refine AltVC.mk ?_ ?_)
                  exact loopK.mk (L3, q + 1) (by simp (disch := (first | omega | (simp only [vlen]; first | done | omega))) only [↓vAq, vBq, ↓reduceIte, Nat.reduceBEq, Nat.reduceEqDiff, Nat.reduceLT, Nat.reduceLeDiff, Nat.reduceAdd, Nat.reduceMul, Nat.reduceSub, reduceCtorEq, Int.reduceToNat]) ⟨by simp only; omega, q2, q3, q4, q5, q6, hin⟩ (by simp only; omega) (by (simp (disch := (first | omega | (simp only [vlen]; first | done | omega))) only [Fits_u, Fits_m, Fits_nil, List.length_append, vam, ↓vAq, vBq, ↓reduceIte, Nat.reduceBEq, Nat.reduceEqDiff, Nat.reduceLT, Nat.reduceLeDiff, Nat.reduceAdd, Nat.reduceMul, Nat.reduceSub, reduceCtorEq, Int.reduceToNat] <;> (repeat' first | rfl | apply And.intro)))
                · have e : addI L3 (Lh.getD q 0) = L3 ++ [Lh.getD q 0] := by rw [addI, if_neg hx]
                  rw [e] at hin hadd hget hale hdn hfr
                  rw [decide_eq_false hx] at hhas
                  repeat' first | ((first | refine Br.dec ?_ ?_ | refine Br.eqi ?_ ?_) <;> intro h <;> try (exfalso; omega)) | (simp (disch := (first | omega | (simp only [vlen]; first | done | omega))) only [vam, ↓vAq, vBq, ↓reduceIte, Nat.reduceBEq, Nat.reduceEqDiff, Nat.reduceLT, Nat.reduceLeDiff, Nat.reduceAdd, Nat.reduceMul, Nat.reduceSub, reduceCtorEq, Int.reduceToNat]) | (refine Br.mk ?_ ?_ <;> intro h) | (refine BrN.mk (fun h => ?_) ?_) | (refine AltVC.mk ?_ ?_)
                  refine CallVC.eqo hhas (by repeat' first | ((first | refine Br.dec ?_ ?_ | refine Br.eqi ?_ ?_) <;> intro h <;> try (exfalso; omega)) | (simp (disch := (first | omega | (simp only [vlen]; first | done | omega))) only [vam, ↓vAq, vBq, ↓reduceIte, Nat.reduceBEq, Nat.reduceEqDiff, Nat.reduceLT, Nat.reduceLeDiff, Nat.reduceAdd, Nat.reduceMul, Nat.reduceSub, reduceCtorEq, Int.reduceToNat]) | (refine Br.mk ?_ ?_ <;> intro h) | (refine BrN.mk (fun h => ?_) ?_) | (refine AltVC.mk ?_ ?_)) ?_
                  repeat' first | ((first | refine Br.dec ?_ ?_ | refine Br.eqi ?_ ?_) <;> intro h <;> try (exfalso; omega)) | (simp (disch := (first | omega | (simp only [vlen]; first | done | omega))) only [vam, ↓vAq, vBq, ↓reduceIte, Nat.reduceBEq, Nat.reduceEqDiff, Nat.reduceLT, Nat.reduceLeDiff, Nat.reduceAdd, Nat.reduceMul, Nat.reduceSub, reduceCtorEq, Int.reduceToNat]) | (refine Br.mk ?_ ?_ <;> intro h) | (refine BrN.mk (fun h => ?_) ?_) | (refine AltVC.mk ?_ ?_)
                  exact loopK.mk (L3 ++ [Lh.getD q 0], q + 1) (by simp (disch := (first | omega | (simp only [vlen]; first | done | omega))) only [↓vAq, vBq, ↓reduceIte, Nat.reduceBEq, Nat.reduceEqDiff, Nat.reduceLT, Nat.reduceLeDiff, Nat.reduceAdd, Nat.reduceMul, Nat.reduceSub, reduceCtorEq, Int.reduceToNat]) ⟨by simp only; omega, by simp only; omega, hadd, hdn, hget.trans q5, by simp only; rw [hget]; exact hfr, hin⟩ (by simp only; omega) (by (simp (disch := (first | omega | (simp only [vlen]; first | done | omega))) only [Fits_u, Fits_m, Fits_nil, List.length_append, vam, List.length_append, List.length_singleton, ↓vAq, vBq, ↓reduceIte, Nat.reduceBEq, Nat.reduceEqDiff, Nat.reduceLT, Nat.reduceLeDiff, Nat.reduceAdd, Nat.reduceMul, Nat.reduceSub, reduceCtorEq, Int.reduceToNat] <;> (repeat' first | rfl | apply And.intro)))
              · have hqe : q = Lh.length := by omega
                subst hqe
                rw [List.take_length] at q7
                repeat' first | ((first | refine Br.dec ?_ ?_ | refine Br.eqi ?_ ?_) <;> intro h <;> try (exfalso; omega)) | (simp (disch := (first | omega | (simp only [vlen]; first | done | omega))) only [vam, ↓vAq, vBq, ↓reduceIte, Nat.reduceBEq, Nat.reduceEqDiff, Nat.reduceLT, Nat.reduceLeDiff, Nat.reduceAdd, Nat.reduceMul, Nat.reduceSub, reduceCtorEq, Int.reduceToNat]) | (refine Br.mk ?_ ?_ <;> intro h) | (refine BrN.mk (fun h => ?_) ?_) | (refine AltVC.mk ?_ ?_)
                exact loopK.mk (L3, j + 1) (by simp (disch := (first | omega | (simp only [vlen]; first | done | omega))) only [↓vAq, vBq, ↓reduceIte, Nat.reduceBEq, Nat.reduceEqDiff, Nat.reduceLT, Nat.reduceLeDiff, Nat.reduceAdd, Nat.reduceMul, Nat.reduceSub, reduceCtorEq, Int.reduceToNat]) ⟨by simp only; omega, q2, q3, q4, hsucc q6 fun _ z hz => q7 z ((hrle z).2 hz)⟩ (by simp only; omega) (by (simp (disch := (first | omega | (simp only [vlen]; first | done | omega))) only [Fits_u, Fits_m, Fits_nil, List.length_append, vam, ↓vAq, vBq, ↓reduceIte, Nat.reduceBEq, Nat.reduceEqDiff, Nat.reduceLT, Nat.reduceLeDiff, Nat.reduceAdd, Nat.reduceMul, Nat.reduceSub, reduceCtorEq, Int.reduceToNat] <;> (repeat' first | rfl | apply And.intro)))
          · exact loopK.mk (L2, j + 1) (by simp (disch := (first | omega | (simp only [vlen]; first | done | omega))) only [↓vAq, vBq, ↓reduceIte, Nat.reduceBEq, Nat.reduceEqDiff, Nat.reduceLT, Nat.reduceLeDiff, Nat.reduceAdd, Nat.reduceMul, Nat.reduceSub, reduceCtorEq, Int.reduceToNat]) ⟨by simp only; omega, k2, k3, k4, hsucc k5 fun e => absurd e (by assumption)⟩ (by simp only; omega) (by (simp (disch := (first | omega | (simp only [vlen]; first | done | omega))) only [Fits_u, Fits_m, Fits_nil, List.length_append, vam, ↓vAq, vBq, ↓reduceIte, Nat.reduceBEq, Nat.reduceEqDiff, Nat.reduceLT, Nat.reduceLeDiff, Nat.reduceAdd, Nat.reduceMul, Nat.reduceSub, reduceCtorEq, Int.reduceToNat] <;> (repeat' first | rfl | apply And.intro)))
        · have he : j = g.rules.length := by omega
          subst he
          repeat' first | ((first | refine Br.dec ?_ ?_ | refine Br.eqi ?_ ?_) <;> intro h <;> try (exfalso; omega)) | (simp (disch := (first | omega | (simp only [vlen]; first | done | omega))) only [vam, ↓vAq, vBq, ↓reduceIte, Nat.reduceBEq, Nat.reduceEqDiff, Nat.reduceLT, Nat.reduceLeDiff, Nat.reduceAdd, Nat.reduceMul, Nat.reduceSub, reduceCtorEq, Int.reduceToNat]) | (refine Br.mk ?_ ?_ <;> intro h) | (refine BrN.mk (fun h => ?_) ?_) | (refine AltVC.mk ?_ ?_)
          exact loopK.mk (L2, k + 1) (by simp (disch := (first | omega | (simp only [vlen]; first | done | omega))) only [↓vAq, vBq, ↓reduceIte, Nat.reduceBEq, Nat.reduceEqDiff, Nat.reduceLT, Nat.reduceLeDiff, Nat.reduceAdd, Nat.reduceMul, Nat.reduceSub, reduceCtorEq, Int.reduceToNat]) ⟨by simp only; omega, k3, fd_rule k4 k5⟩ (by simp only; omega) (by (simp (disch := (first | omega | (simp only [vlen]; first | done | omega))) only [Fits_u, Fits_m, Fits_nil, List.length_append, vam, ↓vAq, vBq, ↓reduceIte, Nat.reduceBEq, Nat.reduceEqDiff, Nat.reduceLT, Nat.reduceLeDiff, Nat.reduceAdd, Nat.reduceMul, Nat.reduceSub, reduceCtorEq, Int.reduceToNat] <;> (repeat' first | rfl | apply And.intro)))
    · have hkk : k = L.length := by omega
      subst hkk
      have hrng := h2.rng
      repeat' first | ((first | refine Br.dec ?_ ?_ | refine Br.eqi ?_ ?_) <;> intro h <;> try (exfalso; omega)) | (simp (disch := (first | omega | (simp only [vlen]; first | done | omega))) only [vam, ↓vAq, vBq, ↓reduceIte, Nat.reduceBEq, Nat.reduceEqDiff, Nat.reduceLT, Nat.reduceLeDiff, Nat.reduceAdd, Nat.reduceMul, Nat.reduceSub, reduceCtorEq, Int.reduceToNat]) | (refine Br.mk ?_ ?_ <;> intro h) | (refine BrN.mk (fun h => ?_) ?_) | (refine AltVC.mk ?_ ?_)
      refine LoopVC.mk (X := Nat) (fun q => [(11, iv .u32 (symS g (L.take q))), (59, .ref 3 1 0 L.length), (61, iv .i64 q)]) (fun _ => [(0, gOb g), (3, ⟨1, i64s L, true, false, .arr⟩)]) (fun q => L.length - q) (fun q => q ≤ L.length) 0 (by omega) ?_ ?_
      · (simp (disch := (first | omega | (simp only [vlen]; first | done | omega))) only [Fits_u, Fits_m, Fits_nil, List.length_append, vam, ↓vAq, vBq, ↓reduceIte, Nat.reduceBEq, Nat.reduceEqDiff, Nat.reduceLT, Nat.reduceLeDiff, Nat.reduceAdd, Nat.reduceMul, Nat.reduceSub, reduceCtorEq, Int.reduceToNat] <;> (repeat' first | rfl | apply And.intro))
      · intro q hq
        by_cases hql : q < L.length
        · have hy := hrng _ (getD_mem (l := L) (i := q) (d := 0) hql)
          have hsy := symS_lt (g := g) (L := L.take q) hk.2 (fun y hy => (hrng y (List.mem_of_mem_take hy)).1)
          have hsy15 := p16 hsy (by omega)
          have hst := take_succ_getD hql 0
          repeat' first | ((first | refine Br.dec ?_ ?_ | refine Br.eqi ?_ ?_) <;> intro h <;> try (exfalso; omega)) | (simp (disch := (first | omega | (simp only [vlen]; first | done | omega))) only [vam, ↓vAq, vBq, ↓reduceIte, Nat.reduceBEq, Nat.reduceEqDiff, Nat.reduceLT, Nat.reduceLeDiff, Nat.reduceAdd, Nat.reduceMul, Nat.reduceSub, reduceCtorEq, Int.reduceToNat]) | (refine Br.mk ?_ ?_ <;> intro h) | (refine BrN.mk (fun h => ?_) ?_) | (refine AltVC.mk ?_ ?_)
          · have hlt : L.getD q 0 < g.k := by assumption
            have hp2 : 2 ^ (L.getD q 0).toNat < 2 ^ 3 := Nat.pow_lt_pow_right (by omega) (by omega)
            have hp3 := p16 hp2 (by omega)
            rw [shlN (by omega), orN (by omega) (by omega)]
            exact loopK.mk (q + 1) (by simp (disch := (first | omega | (simp only [vlen]; first | done | omega))) only [↓vAq, vBq, ↓reduceIte, Nat.reduceBEq, Nat.reduceEqDiff, Nat.reduceLT, Nat.reduceLeDiff, Nat.reduceAdd, Nat.reduceMul, Nat.reduceSub, reduceCtorEq, Int.reduceToNat]) (by omega) (by omega) (by rw [hst, symS_snoc, if_pos hlt]; (simp (disch := (first | omega | (simp only [vlen]; first | done | omega))) only [Fits_u, Fits_m, Fits_nil, List.length_append, vam, ↓vAq, vBq, ↓reduceIte, Nat.reduceBEq, Nat.reduceEqDiff, Nat.reduceLT, Nat.reduceLeDiff, Nat.reduceAdd, Nat.reduceMul, Nat.reduceSub, reduceCtorEq, Int.reduceToNat] <;> (repeat' first | rfl | apply And.intro)))
          · have hlt : ¬ L.getD q 0 < g.k := by assumption
            exact loopK.mk (q + 1) (by simp (disch := (first | omega | (simp only [vlen]; first | done | omega))) only [↓vAq, vBq, ↓reduceIte, Nat.reduceBEq, Nat.reduceEqDiff, Nat.reduceLT, Nat.reduceLeDiff, Nat.reduceAdd, Nat.reduceMul, Nat.reduceSub, reduceCtorEq, Int.reduceToNat]) (by omega) (by omega) (by rw [hst, symS_snoc, if_neg hlt]; (simp (disch := (first | omega | (simp only [vlen]; first | done | omega))) only [Fits_u, Fits_m, Fits_nil, List.length_append, vam, ↓vAq, vBq, ↓reduceIte, Nat.reduceBEq, Nat.reduceEqDiff, Nat.reduceLT, Nat.reduceLeDiff, Nat.reduceAdd, Nat.reduceMul, Nat.reduceSub, reduceCtorEq, Int.reduceToNat] <;> (repeat' first | rfl | apply And.intro)))
        · have hqe : q = L.length := by omega
          subst hqe
          repeat' first | ((first | refine Br.dec ?_ ?_ | refine Br.eqi ?_ ?_) <;> intro h <;> try (exfalso; omega)) | (simp (disch := (first | omega | (simp only [vlen]; first | done | omega))) only [vam, ↓vAq, vBq, ↓reduceIte, Nat.reduceBEq, Nat.reduceEqDiff, Nat.reduceLT, Nat.reduceLeDiff, Nat.reduceAdd, Nat.reduceMul, Nat.reduceSub, reduceCtorEq, Int.reduceToNat]) | (refine Br.mk ?_ ?_ <;> intro h) | (refine BrN.mk (fun h => ?_) ?_) | (refine AltVC.mk ?_ ?_)
          exact fin_mk (by rw [symS_is hv h2 h3])
end Go.Proofs.Ytplkkacfjepgpaa
