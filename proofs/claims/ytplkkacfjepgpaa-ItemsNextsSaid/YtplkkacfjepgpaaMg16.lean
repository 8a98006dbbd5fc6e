/-
 Texts of this claim, one behind another.
-/
import Derived.Test.YtplkkacfjepgpaaMg15
import Derived.Test.YtplkkacfjepgpaaMg11
import Derived.Test.YtplkkacfjepgpaaMg13
namespace Go.Proofs.Ytplkkacfjepgpaa
open Go.Dm
set_option linter.unusedSimpArgs false
set_option linter.unnecessarySimpa false
set_option linter.unusedVariables false
set_option linter.defProp false
def kB (g : Grammar) (r : Rule) : Bool := allOf g true (nameSet g false).testBit r.right
def kpG (g : Grammar) : Grammar := ⟨g.k, g.n, g.start, g.rules.filter (kB g)⟩
def kpT (g : Grammar) (q : Nat) : List Rule := (g.rules.take q).filter (kB g)
theorem kpT_0 {g : Grammar} : kpT g 0 = [] := (rfl)
theorem kpT_y {g : Grammar} {q : Nat} (hq : q < g.rules.length) (h : kB g (g.rules.getD q default) = true) : kpT g (q + 1) = kpT g q ++ [g.rules.getD q default] := by
  unfold kpT
  rw [take_succ_getD hq default, List.filter_append, List.filter_cons_of_pos h]; rfl
theorem kpT_n {g : Grammar} {q : Nat} (hq : q < g.rules.length) (h : kB g (g.rules.getD q default) = false) : kpT g (q + 1) = kpT g q := by
  unfold kpT
  rw [take_succ_getD hq default, List.filter_append, List.filter_cons_of_neg (by rw [h]; simp)]; simp
theorem kpT_le {g : Grammar} {q : Nat} : (kpT g q).length ≤ g.rules.length := Nat.le_trans (List.length_filter_le _ _) (by simp; omega)
theorem ns_lt {g : Grammar} (hv : Valid g) {b : Bool} : nameSet g b < 32 := by
  have h1 : nameSet g b < 2 ^ g.n.toNat := setOf_lt
  have h2 := hv.n
  have : 2 ^ g.n.toNat ≤ 2 ^ 5 := Nat.pow_le_pow_right (by omega) (by omega)
  omega
theorem ns_bit {g : Grammar} {b : Bool} {i : Nat} : (nameSet g b).testBit i = (decide (i < g.n.toNat) && mkN g b g.n.toNat i) := setOf_bit
theorem kB_left {g : Grammar} (hv : Valid g) {r : Rule} (hr : r ∈ g.rules) (h : kB g r = true) : (nameSet g false).testBit r.left.toNat = true := by
  obtain ⟨d, hd⟩ := sound_step (void := false) (S := nameSet g false) hv hr (fun x hx => by
    rw [ns_bit] at hx
    simp only [Bool.and_eq_true] at hx
    exact ⟨_, hx.2⟩) h
  have hl := hv.left r hr
  rw [ns_bit, decide_eq_true (by omega), mkN_stable hv (by omega) hd]; rfl
theorem kp_valid {g : Grammar} (hv : Valid g) : Valid (kpG g) :=
  ⟨hv.k, hv.n, hv.start, Nat.le_trans (List.length_filter_le _ _) hv.len, fun r hr => hv.left r ((List.mem_filter.1 hr).1), fun r hr => hv.long r ((List.mem_filter.1 hr).1), fun r hr => hv.right r ((List.mem_filter.1 hr).1)⟩
theorem ic_of3 {g : Grammar} {w : List Int} (h : gwC g w = 0) : Valid g ∧ w.length ≤ 12 ∧ (∀ i, i < w.length → 0 ≤ w.getD i 0 ∧ w.getD i 0 < g.k) := by
  obtain ⟨h1, h2⟩ := gw_of h
  have hv := valid_of h1
  have hw : w.length ≤ 12 ∧ w.any (badSym g.k) = false := by
    unfold wcode at h2
    split at h2
    · cases h2
    · next h3 =>
      split at h2
      · cases h2
      · next h4 => exact ⟨by omega, by simpa using h4⟩
  refine ⟨hv, hw.1, fun i hi => ?_⟩
  have h5 := List.any_eq_false.1 hw.2 _ (getD_mem' (l := w) (i := i) hi)
  have h6 : w.getD i default = w.getD i 0 := rfl
  simp only [badSym, decide_eq_true_eq] at h5
  omega
def NxR (g : Grammar) (w : List Int) (d : D) : Prop := (gwC g w ≠ 0 ∧ d = .tu [iv .u32 (0 : Nat), iv .i64 (gwC g w)]) ∨ (gwC g w = 0 ∧ ∃ X : Nat, d = .tu [iv .u32 X, iv .i64 0] ∧ X < 8 ∧ ∀ s, X.testBit s = true ↔ (s : Int) < g.k ∧ Hit (kpG g) w s)
def kpO (g : Grammar) (L : List Rule) : List (Nat × Ob) := [(0, ⟨4, [[iv .i64 g.k, iv .i64 g.n, iv .i64 g.start, .sl 2 (tbl rulD g.rules)]], true, false, .fix⟩), (1, ⟨4, [[iv .i64 g.k, iv .i64 g.n, iv .i64 g.start, .own false 2 (tbl rulD L)]], true, true, .fix⟩)]
def kpN (g h : Grammar) (S : List (List It)) (H : List (List Ha)) (i : Nat) (L : List It) (kd : Kd) : List (Nat × Ob) := [(0, ⟨4, [[iv .i64 g.k, iv .i64 g.n, iv .i64 g.start, .sl 2 (tbl rulD g.rules)]], true, false, .fix⟩), (3, ⟨1, (tbl scR S).set i [.ref 6 3 0 L.length], false, true, .fix⟩), (4, ⟨6, [[iv .i64 h.k, iv .i64 h.n, iv .i64 h.start, .sl 2 (tbl rulD h.rules), .ref 3 1 0 S.length, .ref 5 1 0 H.length]], false, true, .fix⟩), (5, ⟨1, tbl hmR H, true, true, .fix⟩), (6, ⟨3, tbl itD L, true, false, kd⟩)]
theorem nx_skip {g : Grammar} {K : Int} {L : List It} {X j : Nat} (h : ∀ s, X.testBit s = true ↔ (s : Int) < K ∧ ∃ q, q < j ∧ nxt g (L.getD q default) = some (s : Int)) (hn : ∀ s : Nat, (s : Int) < K → nxt g (L.getD j default) ≠ some (s : Int)) :
    ∀ s, X.testBit s = true ↔ (s : Int) < K ∧ ∃ q, q < j + 1 ∧ nxt g (L.getD q default) = some (s : Int) := fun s => by
  rw [h s]
  refine and_congr_right fun hs => ⟨fun ⟨q, h1, h2⟩ => ⟨q, by omega, h2⟩, fun ⟨q, h1, h2⟩ => ?_⟩
  by_cases e : q = j
  · subst e; exact absurd h2 (hn s hs)
  · exact ⟨q, by omega, h2⟩
theorem nx_add {g : Grammar} {K : Int} {L : List It} {X j c : Nat} (h : ∀ s, X.testBit s = true ↔ (s : Int) < K ∧ ∃ q, q < j ∧ nxt g (L.getD q default) = some (s : Int)) (hc : (c : Int) < K) (hn : nxt g (L.getD j default) = some (c : Int)) :
    ∀ s, (X ||| 2 ^ c).testBit s = true ↔ (s : Int) < K ∧ ∃ q, q < j + 1 ∧ nxt g (L.getD q default) = some (s : Int) := fun s => by
  rw [or_bit, Bool.or_eq_true, decide_eq_true_eq, h s]
  constructor
  · rintro (⟨h1, q, h2, h3⟩ | rfl)
    · exact ⟨h1, q, by omega, h3⟩
    · exact ⟨hc, j, Nat.lt_succ_self _, hn⟩
  · rintro ⟨h1, q, h2, h3⟩
    by_cases e : q = j
    · subst e
      rw [hn, Option.some.injEq] at h3
      exact .inr (by omega)
    · exact .inl ⟨h1, q, by omega, h3⟩
theorem sr_trim6 {S : List (List It)} {i n : Nat} : List.map (fun e => List.map (D.trim 7) e) ((tbl scR S).set i [.ref 6 3 0 n]) = (tbl scR S).set i [.ref 6 3 0 n] := by
  have e : ((fun e => List.map (D.trim 7) e) ∘ scR) = scR := by funext l; simp [scR, trim_oo]
  rw [List.map_set]
  simp only [tbl, List.map_map, e, List.map_cons, List.map_nil, trim_ref, show (6 < 7) = True from by simp, if_true]
set_option maxRecDepth 10000 in
set_option maxHeartbeats 4000000 in
theorem inext_spec (g : Grammar) (hg : g.ok) (w : List Int) (hw : w.length ≤ 9223372036854775807) : Dm.Spec Try.prog 9 [.ag (graD g), .sl 1 (i64s w)] (NxR g w) := by
  refine spec_of_vc mixed Try.func9 c9 (by rw [show Try.f9.ntmps = _ from Try.ntmps9]; simp) ?_
  unfold m9 r9
  have htc := tcheck_spec g hg w hw
  by_cases h0 : gwC g w = 0
  rotate_left
  · repeat' first | ((first | refine Br.dec ?_ ?_ | refine Br.eqi ?_ ?_) <;> intro h <;> try (exfalso; omega)) | (simp (disch := first | omega | (simp only [vlen]; first | done | omega)) only [graD_eq, vit, ↓vAq, vBq, ↓reduceIte, Nat.reduceBEq, Nat.reduceEqDiff, Nat.reduceLT, Nat.reduceLeDiff, Nat.reduceAdd, Nat.reduceMul, Nat.reduceSub, reduceCtorEq, Int.reduceToNat]) | (refine Br.mk ?_ ?_ <;> intro h) | (refine BrN.mk (fun h => ?_) ?_) | (refine AltVC.mk ?_ ?_)
    refine CallVC.eq htc ?_
    repeat' first | ((first | refine Br.dec ?_ ?_ | refine Br.eqi ?_ ?_) <;> intro h <;> try (exfalso; omega)) | (simp (disch := first | omega | (simp only [vlen]; first | done | omega)) only [graD_eq, vit, ↓vAq, vBq, ↓reduceIte, Nat.reduceBEq, Nat.reduceEqDiff, Nat.reduceLT, Nat.reduceLeDiff, Nat.reduceAdd, Nat.reduceMul, Nat.reduceSub, reduceCtorEq, Int.reduceToNat]) | (refine Br.mk ?_ ?_ <;> intro h) | (refine BrN.mk (fun h => ?_) ?_) | (refine AltVC.mk ?_ ?_)
    exact fin_mk (.inl ⟨h0, rfl⟩)
  · obtain ⟨hv, hwl, hwk⟩ := ic_of3 h0
    rw [h0] at htc
    have hkv := kp_valid hv
    have hrl := hv.len
    have hns := ns_lt hv (b := false)
    have hpr := productive_spec g hv
    have hn0 := hv.n
    repeat' first | ((first | refine Br.dec ?_ ?_ | refine Br.eqi ?_ ?_) <;> intro h <;> try (exfalso; omega)) | (simp (disch := first | omega | (simp only [vlen]; first | done | omega)) only [graD_eq, vit, ↓vAq, vBq, ↓reduceIte, Nat.reduceBEq, Nat.reduceEqDiff, Nat.reduceLT, Nat.reduceLeDiff, Nat.reduceAdd, Nat.reduceMul, Nat.reduceSub, reduceCtorEq, Int.reduceToNat]) | (refine Br.mk ?_ ?_ <;> intro h) | (refine BrN.mk (fun h => ?_) ?_) | (refine AltVC.mk ?_ ?_)
    refine CallVC.eq htc ?_
    repeat' first | ((first | refine Br.dec ?_ ?_ | refine Br.eqi ?_ ?_) <;> intro h <;> try (exfalso; omega)) | (simp (disch := first | omega | (simp only [vlen]; first | done | omega)) only [graD_eq, vit, ↓vAq, vBq, ↓reduceIte, Nat.reduceBEq, Nat.reduceEqDiff, Nat.reduceLT, Nat.reduceLeDiff, Nat.reduceAdd, Nat.reduceMul, Nat.reduceSub, reduceCtorEq, Int.reduceToNat]) | (refine Br.mk ?_ ?_ <;> intro h) | (refine BrN.mk (fun h => ?_) ?_) | (refine AltVC.mk ?_ ?_)
    refine CallVC.eq hpr ?_
    repeat' first | ((first | refine Br.dec ?_ ?_ | refine Br.eqi ?_ ?_) <;> intro h <;> try (exfalso; omega)) | (simp (disch := first | omega | (simp only [vlen]; first | done | omega)) only [graD_eq, vit, ↓vAq, vBq, ↓reduceIte, Nat.reduceBEq, Nat.reduceEqDiff, Nat.reduceLT, Nat.reduceLeDiff, Nat.reduceAdd, Nat.reduceMul, Nat.reduceSub, reduceCtorEq, Int.reduceToNat]) | (refine Br.mk ?_ ?_ <;> intro h) | (refine BrN.mk (fun h => ?_) ?_) | (refine AltVC.mk ?_ ?_)
    refine LoopVC.nlo 1 0 3 2 ?_
    repeat' first | ((first | refine Br.dec ?_ ?_ | refine Br.eqi ?_ ?_) <;> intro h <;> try (exfalso; omega)) | (simp (disch := first | omega | (simp only [vlen]; first | done | omega)) only [graD_eq, vit, ↓vAq, vBq, ↓reduceIte, Nat.reduceBEq, Nat.reduceEqDiff, Nat.reduceLT, Nat.reduceLeDiff, Nat.reduceAdd, Nat.reduceMul, Nat.reduceSub, reduceCtorEq, Int.reduceToNat]) | (refine Br.mk ?_ ?_ <;> intro h) | (refine BrN.mk (fun h => ?_) ?_) | (refine AltVC.mk ?_ ?_)
    refine LoopVC.mk (X := Nat) (fun q => [(30, iv .i64 q)]) (fun q => kpO g (kpT g q)) (fun q => g.rules.length - q) (fun q => q ≤ g.rules.length) 0 (Nat.zero_le _) ?_ ?_
    · rw [kpT_0]
      unfold kpO
      (simp (disch := first | omega | (simp only [vlen]; first | done | omega)) only [Fits_u, Fits_m, Fits_nil, List.length_append, vit, ↓vAq, vBq, ↓reduceIte, Nat.reduceBEq, Nat.reduceEqDiff, Nat.reduceLT, Nat.reduceLeDiff, Nat.reduceAdd, Nat.reduceMul, Nat.reduceSub, reduceCtorEq, Int.reduceToNat] <;> (repeat' first | rfl | apply And.intro))
      all_goals trace_state
    · intro q hq
      unfold kpO
      have hkl := @kpT_le g q
      by_cases hlt : q < g.rules.length
      · have hmr := getD_mem' (l := g.rules) (i := q) hlt
        have hleft := hv.left _ hmr
        have hlong := hv.long _ hmr
        have hright := hv.right _ hmr
        obtain ⟨a, ha⟩ : ∃ a : Nat, (g.rules.getD q default).left = a := ⟨(g.rules.getD q default).left.toNat, by omega⟩
        have hhas := has_spec (nameSet g false) a (by omega) (by omega)
        have hall := allOf_spec g (by have := hv.k; omega) (g.rules.getD q default).right (by omega) (nameSet g false) (by omega) true (fun y hy => by have := hright y hy; omega)
        cases hb : kB g (g.rules.getD q default) with
        | true =>
          have hbl := kB_left hv hmr hb
          rw [ha, Int.toNat_natCast] at hbl
          rw [hbl] at hhas
          rw [show allOf g true (nameSet g false).testBit (g.rules.getD q default).right = true from hb] at hall
          repeat' first | ((first | refine Br.dec ?_ ?_ | refine Br.eqi ?_ ?_) <;> intro h <;> try (exfalso; omega)) | (simp (disch := first | omega | (simp only [vlen]; first | done | omega)) only [ha, graD_eq, vit, ↓vAq, vBq, ↓reduceIte, Nat.reduceBEq, Nat.reduceEqDiff, Nat.reduceLT, Nat.reduceLeDiff, Nat.reduceAdd, Nat.reduceMul, Nat.reduceSub, reduceCtorEq, Int.reduceToNat]) | (refine Br.mk ?_ ?_ <;> intro h) | (refine BrN.mk (fun h => ?_) ?_) | (refine AltVC.mk ?_ ?_)
          refine CallVC.eq hhas ?_
          repeat' first | ((first | refine Br.dec ?_ ?_ | refine Br.eqi ?_ ?_) <;> intro h <;> try (exfalso; omega)) | (simp (disch := first | omega | (simp only [vlen]; first | done | omega)) only [ha, graD_eq, vit, ↓vAq, vBq, ↓reduceIte, Nat.reduceBEq, Nat.reduceEqDiff, Nat.reduceLT, Nat.reduceLeDiff, Nat.reduceAdd, Nat.reduceMul, Nat.reduceSub, reduceCtorEq, Int.reduceToNat]) | (refine Br.mk ?_ ?_ <;> intro h) | (refine BrN.mk (fun h => ?_) ?_) | (refine AltVC.mk ?_ ?_)
          refine CallVC.eq hall ?_
          repeat' first | ((first | refine Br.dec ?_ ?_ | refine Br.eqi ?_ ?_) <;> intro h <;> try (exfalso; omega)) | (simp (disch := first | omega | (simp only [vlen]; first | done | omega)) only [ha, graD_eq, vit, ↓vAq, vBq, ↓reduceIte, Nat.reduceBEq, Nat.reduceEqDiff, Nat.reduceLT, Nat.reduceLeDiff, Nat.reduceAdd, Nat.reduceMul, Nat.reduceSub, reduceCtorEq, Int.reduceToNat]) | (refine Br.mk ?_ ?_ <;> intro h) | (refine BrN.mk (fun h => ?_) ?_) | (refine AltVC.mk ?_ ?_)
          refine loopK.fold 3 1 0 3 true ?_
          have hke : tbl rulD (kpT g q) ++ [[iv .i64 a, .sl 1 (i64s (g.rules.getD q default).right)]] = tbl rulD (kpT g (q + 1)) := by rw [kpT_y hlt hb, tbl_app, ← ha]; rfl
          have hkl2 := @kpT_le g (q + 1)
          have hkl3 : (kpT g (q + 1)).length = (kpT g q).length + 1 := by rw [kpT_y hlt hb]; simp
          repeat' first | ((first | refine Br.dec ?_ ?_ | refine Br.eqi ?_ ?_) <;> intro h <;> try (exfalso; omega)) | (simp (disch := first | omega | (simp only [vlen]; first | done | omega)) only [hke, vit, ↓vAq, vBq, ↓reduceIte, Nat.reduceBEq, Nat.reduceEqDiff, Nat.reduceLT, Nat.reduceLeDiff, Nat.reduceAdd, Nat.reduceMul, Nat.reduceSub, reduceCtorEq, Int.reduceToNat]) | (refine Br.mk ?_ ?_ <;> intro h) | (refine BrN.mk (fun h => ?_) ?_) | (refine AltVC.mk ?_ ?_)
          refine loopK.mk (q + 1) (by simp (disch := first | omega | (simp only [vlen]; first | done | omega)) only [vit, ↓vAq, vBq, ↓reduceIte, Nat.reduceBEq, Nat.reduceEqDiff, Nat.reduceLT, Nat.reduceLeDiff, Nat.reduceAdd, Nat.reduceMul, Nat.reduceSub, reduceCtorEq, Int.reduceToNat]) (by show q + 1 ≤ _; omega) (by show _ - (q + 1) < _ - q; omega) ?_
          (simp (disch := first | omega | (simp only [vlen]; first | done | omega)) only [Fits_u, Fits_m, Fits_nil, List.length_append, hkl3, vit, ↓vAq, vBq, ↓reduceIte, Nat.reduceBEq, Nat.reduceEqDiff, Nat.reduceLT, Nat.reduceLeDiff, Nat.reduceAdd, Nat.reduceMul, Nat.reduceSub, reduceCtorEq, Int.reduceToNat] <;> (repeat' first | rfl | apply And.intro))
          all_goals trace_state
        | false =>
          rw [show allOf g true (nameSet g false).testBit (g.rules.getD q default).right = false from hb] at hall
          cases hbl : (nameSet g false).testBit a with
          | true =>
            rw [hbl] at hhas
            repeat' first | ((first | refine Br.dec ?_ ?_ | refine Br.eqi ?_ ?_) <;> intro h <;> try (exfalso; omega)) | (simp (disch := first | omega | (simp only [vlen]; first | done | omega)) only [ha, graD_eq, vit, ↓vAq, vBq, ↓reduceIte, Nat.reduceBEq, Nat.reduceEqDiff, Nat.reduceLT, Nat.reduceLeDiff, Nat.reduceAdd, Nat.reduceMul, Nat.reduceSub, reduceCtorEq, Int.reduceToNat]) | (refine Br.mk ?_ ?_ <;> intro h) | (refine BrN.mk (fun h => ?_) ?_) | (refine AltVC.mk ?_ ?_)
            refine CallVC.eq hhas ?_
            repeat' first | ((first | refine Br.dec ?_ ?_ | refine Br.eqi ?_ ?_) <;> intro h <;> try (exfalso; omega)) | (simp (disch := first | omega | (simp only [vlen]; first | done | omega)) only [ha, graD_eq, vit, ↓vAq, vBq, ↓reduceIte, Nat.reduceBEq, Nat.reduceEqDiff, Nat.reduceLT, Nat.reduceLeDiff, Nat.reduceAdd, Nat.reduceMul, Nat.reduceSub, reduceCtorEq, Int.reduceToNat]) | (refine Br.mk ?_ ?_ <;> intro h) | (refine BrN.mk (fun h => ?_) ?_) | (refine AltVC.mk ?_ ?_)
            refine CallVC.eq hall ?_
            repeat' first | ((first | refine Br.dec ?_ ?_ | refine Br.eqi ?_ ?_) <;> intro h <;> try (exfalso; omega)) | (simp (disch := first | omega | (simp only [vlen]; first | done | omega)) only [ha, graD_eq, vit, ↓vAq, vBq, ↓reduceIte, Nat.reduceBEq, Nat.reduceEqDiff, Nat.reduceLT, Nat.reduceLeDiff, Nat.reduceAdd, Nat.reduceMul, Nat.reduceSub, reduceCtorEq, Int.reduceToNat]) | (refine Br.mk ?_ ?_ <;> intro h) | (refine BrN.mk (fun h => ?_) ?_) | (refine AltVC.mk ?_ ?_)
            refine loopK.mk (q + 1) (by simp (disch := first | omega | (simp only [vlen]; first | done | omega)) only [vit, ↓vAq, vBq, ↓reduceIte, Nat.reduceBEq, Nat.reduceEqDiff, Nat.reduceLT, Nat.reduceLeDiff, Nat.reduceAdd, Nat.reduceMul, Nat.reduceSub, reduceCtorEq, Int.reduceToNat]) (by show q + 1 ≤ _; omega) (by show _ - (q + 1) < _ - q; omega) ?_
            rw [kpT_n hlt hb]
            (simp (disch := first | omega | (simp only [vlen]; first | done | omega)) only [Fits_u, Fits_m, Fits_nil, List.length_append, vit, ↓vAq, vBq, ↓reduceIte, Nat.reduceBEq, Nat.reduceEqDiff, Nat.reduceLT, Nat.reduceLeDiff, Nat.reduceAdd, Nat.reduceMul, Nat.reduceSub, reduceCtorEq, Int.reduceToNat] <;> (repeat' first | rfl | apply And.intro))
            all_goals trace_state
          | false =>
            rw [hbl] at hhas
            repeat' first | ((first | refine Br.dec ?_ ?_ | refine Br.eqi ?_ ?_) <;> intro h <;> try (exfalso; omega)) | (simp (disch := first | omega | (simp only [vlen]; first | done | omega)) only [ha, graD_eq, vit, ↓vAq, vBq, ↓reduceIte, Nat.reduceBEq, Nat.reduceEqDiff, Nat.reduceLT, Nat.reduceLeDiff, Nat.reduceAdd, Nat.reduceMul, Nat.reduceSub, reduceCtorEq, Int.reduceToNat]) | (refine Br.mk ?_ ?_ <;> intro h) | (refine BrN.mk (fun h => ?_) ?_) | (refine AltVC.mk ?_ ?_)
            refine CallVC.eq hhas ?_
            repeat' first | ((first | refine Br.dec ?_ ?_ | refine Br.eqi ?_ ?_) <;> intro h <;> try (exfalso; omega)) | (simp (disch := first | omega | (simp only [vlen]; first | done | omega)) only [ha, graD_eq, vit, ↓vAq, vBq, ↓reduceIte, Nat.reduceBEq, Nat.reduceEqDiff, Nat.reduceLT, Nat.reduceLeDiff, Nat.reduceAdd, Nat.reduceMul, Nat.reduceSub, reduceCtorEq, Int.reduceToNat]) | (refine Br.mk ?_ ?_ <;> intro h) | (refine BrN.mk (fun h => ?_) ?_) | (refine AltVC.mk ?_ ?_)
            refine loopK.mk (q + 1) (by simp (disch := first | omega | (simp only [vlen]; first | done | omega)) only [vit, ↓vAq, vBq, ↓reduceIte, Nat.reduceBEq, Nat.reduceEqDiff, Nat.reduceLT, Nat.reduceLeDiff, Nat.reduceAdd, Nat.reduceMul, Nat.reduceSub, reduceCtorEq, Int.reduceToNat]) (by show q + 1 ≤ _; omega) (by show _ - (q + 1) < _ - q; omega) ?_
            rw [kpT_n hlt hb]
            (simp (disch := first | omega | (simp only [vlen]; first | done | omega)) only [Fits_u, Fits_m, Fits_nil, List.length_append, vit, ↓vAq, vBq, ↓reduceIte, Nat.reduceBEq, Nat.reduceEqDiff, Nat.reduceLT, Nat.reduceLeDiff, Nat.reduceAdd, Nat.reduceMul, Nat.reduceSub, reduceCtorEq, Int.reduceToNat] <;> (repeat' first | rfl | apply And.intro))
            all_goals trace_state
      · have hqe : q = g.rules.length := by omega
        have hkg : kpT g q = (kpG g).rules := by unfold kpT; rw [hqe, List.take_length]; rfl
        have hbu := build_spec (kpG g) w ⟨hkv, hwl⟩
        have hgw : GW (kpG g) w := ⟨fun i hi => (hwk i hi).2, fun r hr => (hkv.left _ (getD_mem' hr)).1⟩
        have hgk := hv.k
        have ek : (kpG g).k = g.k := rfl
        have en : (kpG g).n = g.n := rfl
        have es : (kpG g).start = g.start := rfl
        rw [hkg]
        repeat' first | ((first | refine Br.dec ?_ ?_ | refine Br.eqi ?_ ?_) <;> intro h <;> try (exfalso; omega)) | (simp (disch := first | omega | (simp only [vlen]; first | done | omega)) only [graD_eq, vit, ↓vAq, vBq, ↓reduceIte, Nat.reduceBEq, Nat.reduceEqDiff, Nat.reduceLT, Nat.reduceLeDiff, Nat.reduceAdd, Nat.reduceMul, Nat.reduceSub, reduceCtorEq, Int.reduceToNat]) | (refine Br.mk ?_ ?_ <;> intro h) | (refine BrN.mk (fun h => ?_) ?_) | (refine AltVC.mk ?_ ?_)
        refine GhoV.frz 1 ?_
        repeat' first | ((first | refine Br.dec ?_ ?_ | refine Br.eqi ?_ ?_) <;> intro h <;> try (exfalso; omega)) | (simp (disch := first | omega | (simp only [vlen]; first | done | omega)) only [graD_eq, vit, ↓vAq, vBq, ↓reduceIte, Nat.reduceBEq, Nat.reduceEqDiff, Nat.reduceLT, Nat.reduceLeDiff, Nat.reduceAdd, Nat.reduceMul, Nat.reduceSub, reduceCtorEq, Int.reduceToNat]) | (refine Br.mk ?_ ?_ <;> intro h) | (refine BrN.mk (fun h => ?_) ?_) | (refine AltVC.mk ?_ ?_)
        refine GhoV.go ?_
        repeat' first | ((first | refine Br.dec ?_ ?_ | refine Br.eqi ?_ ?_) <;> intro h <;> try (exfalso; omega)) | (simp (disch := first | omega | (simp only [vlen]; first | done | omega)) only [graD_eq, vit, ↓vAq, vBq, ↓reduceIte, Nat.reduceBEq, Nat.reduceEqDiff, Nat.reduceLT, Nat.reduceLeDiff, Nat.reduceAdd, Nat.reduceMul, Nat.reduceSub, reduceCtorEq, Int.reduceToNat]) | (refine Br.mk ?_ ?_ <;> intro h) | (refine BrN.mk (fun h => ?_) ?_) | (refine AltVC.mk ?_ ?_)
        refine CallVC.lendE [] [.ag (graD (kpG g)), .sl 1 (i64s w)] [] hbu (by simp) (by rfl) (by simp (disch := first | omega | (simp only [vlen]; first | done | omega)) only [vle0, ek, en, es, graD_eq, vit, ↓vAq, vBq, ↓reduceIte, Nat.reduceBEq, Nat.reduceEqDiff, Nat.reduceLT, Nat.reduceLeDiff, Nat.reduceAdd, Nat.reduceMul, Nat.reduceSub, reduceCtorEq, Int.reduceToNat] <;> (repeat' first | rfl | apply And.intro)) ?_
        rintro _ _ ⟨rfl, S, H, rfl, hS, hC⟩
        have hl := hS.len
        have hHit : ∀ s : Int, Hit (kpG g) w s ↔ ∃ x, x ∈ S.getD w.length default ∧ nxt (kpG g) x = some s := fun s => ⟨fun ⟨x, h1, h2⟩ => ⟨x, hC.all h1, h2⟩, fun ⟨x, h1, h2⟩ => ⟨x, hS.ear _ _ h1, h2⟩⟩
        have hsm : (S.getD w.length default).length ≤ 650 := hS.small hkv.len hkv.long hwl w.length
        unfold buO
        repeat' first | ((first | refine Br.dec ?_ ?_ | refine Br.eqi ?_ ?_) <;> intro h <;> try (exfalso; omega)) | (simp (disch := first | omega | (simp only [vlen]; first | done | omega)) only [vit, ↓vAq, vBq, ↓reduceIte, Nat.reduceBEq, Nat.reduceEqDiff, Nat.reduceLT, Nat.reduceLeDiff, Nat.reduceAdd, Nat.reduceMul, Nat.reduceSub, reduceCtorEq, Int.reduceToNat]) | (refine Br.mk ?_ ?_ <;> intro h) | (refine BrN.mk (fun h => ?_) ?_) | (refine AltVC.mk ?_ ?_)
        by_cases hL : (S.getD w.length default).length = 0
        · refine LoopVC.mk (X := Nat) (fun z => [(64, iv .i64 (0 : Nat)), (62, .ref 6 3 0 (S.getD w.length default).length), (12, iv .u32 (0 : Nat))]) (fun z => kpN g (kpG g) S H w.length (S.getD w.length default) .arr) (fun z => 0) (fun z => True) 0 trivial ?_ ?_
          · unfold kpN
            (simp (disch := first | omega | (simp only [vlen]; first | done | omega)) only [Fits_u, Fits_m, Fits_nil, List.length_append, vit, ↓vAq, vBq, ↓reduceIte, Nat.reduceBEq, Nat.reduceEqDiff, Nat.reduceLT, Nat.reduceLeDiff, Nat.reduceAdd, Nat.reduceMul, Nat.reduceSub, reduceCtorEq, Int.reduceToNat] <;> (repeat' first | rfl | apply And.intro))
            all_goals trace_state
          · intro z _
            unfold kpN
            repeat' first | ((first | refine Br.dec ?_ ?_ | refine Br.eqi ?_ ?_) <;> intro h <;> try (exfalso; omega)) | (simp (disch := first | omega | (simp only [vlen]; first | done | omega)) only [hL, vit, ↓vAq, vBq, ↓reduceIte, Nat.reduceBEq, Nat.reduceEqDiff, Nat.reduceLT, Nat.reduceLeDiff, Nat.reduceAdd, Nat.reduceMul, Nat.reduceSub, reduceCtorEq, Int.reduceToNat]) | (refine Br.mk ?_ ?_ <;> intro h) | (refine BrN.mk (fun h => ?_) ?_) | (refine AltVC.mk ?_ ?_)
            refine fin_mk (.inr ⟨h0, 0, rfl, by decide, fun s => ?_⟩)
            rw [hHit]
            have h1 : S.getD w.length default = [] := List.eq_nil_of_length_eq_zero hL
            rw [h1]; simp
        refine LoopVC.stay 6 ?_
        repeat' first | ((first | refine Br.dec ?_ ?_ | refine Br.eqi ?_ ?_) <;> intro h <;> try (exfalso; omega)) | (simp (disch := first | omega | (simp only [vlen]; first | done | omega)) only [vit, ↓vAq, vBq, ↓reduceIte, Nat.reduceBEq, Nat.reduceEqDiff, Nat.reduceLT, Nat.reduceLeDiff, Nat.reduceAdd, Nat.reduceMul, Nat.reduceSub, reduceCtorEq, Int.reduceToNat]) | (refine Br.mk ?_ ?_ <;> intro h) | (refine BrN.mk (fun h => ?_) ?_) | (refine AltVC.mk ?_ ?_)
        refine LoopVC.mk (X := Nat × Nat) (fun z => [(64, iv .i64 z.1), (62, .ref 6 3 0 (S.getD w.length default).length), (12, iv .u32 z.2)]) (fun z => kpN g (kpG g) S H w.length (S.getD w.length default) .fix) (fun z => 651 - z.1)
          (fun z => z.1 ≤ (S.getD w.length default).length ∧ z.2 < 8 ∧ ∀ s, z.2.testBit s = true ↔ (s : Int) < g.k ∧ ∃ q, q < z.1 ∧ nxt (kpG g) ((S.getD w.length default).getD q default) = some (s : Int)) (0, 0) ⟨Nat.zero_le _, by decide, fun s => by simp⟩ ?_ ?_
        · unfold kpN
          (simp (disch := first | omega | (simp only [vlen]; first | done | omega)) only [Fits_u, Fits_m, Fits_nil, List.length_append, vit, ↓vAq, vBq, ↓reduceIte, Nat.reduceBEq, Nat.reduceEqDiff, Nat.reduceLT, Nat.reduceLeDiff, Nat.reduceAdd, Nat.reduceMul, Nat.reduceSub, reduceCtorEq, Int.reduceToNat] <;> (repeat' first | rfl | apply And.intro))
          all_goals trace_state
        · rintro ⟨j, X⟩ ⟨k1, k2, k3⟩
          simp only at k1 k2 k3 ⊢
          unfold kpN
          by_cases hlt : j < (S.getD w.length default).length
          · have hxE : Ear (kpG g) w w.length ((S.getD w.length default).getD j default) := hS.ear _ _ (getD_mem' hlt)
            generalize hx : (S.getD w.length default).getD j default = x at *
            obtain ⟨c1, c2, c3, c4, c5, c6, c7⟩ := Ear.bd ⟨hkv, hwl⟩ hxE
            have hnx := next2_spec (kpG g) S H w.length x c1 c2
            cases hny : nxt (kpG g) x with
            | none =>
              rw [nxD_none hny] at hnx
              repeat' first | ((first | refine Br.dec ?_ ?_ | refine Br.eqi ?_ ?_) <;> intro h <;> try (exfalso; omega)) | (simp (disch := first | omega | (simp only [vlen]; first | done | omega)) only [hx, vit, ↓vAq, vBq, ↓reduceIte, Nat.reduceBEq, Nat.reduceEqDiff, Nat.reduceLT, Nat.reduceLeDiff, Nat.reduceAdd, Nat.reduceMul, Nat.reduceSub, reduceCtorEq, Int.reduceToNat]) | (refine Br.mk ?_ ?_ <;> intro h) | (refine BrN.mk (fun h => ?_) ?_) | (refine AltVC.mk ?_ ?_)
              refine CallVC.lendE [4, 3, 5, 6] [.ptr 0 6 0 0, .ag (itD x)] (chP (kpG g) S H w.length) hnx (by simp) (by rfl) (by unfold chP; simp (disch := first | omega | (simp only [vlen]; first | done | omega)) only [vle0, pr_ren, vit, ↓vAq, vBq, ↓reduceIte, Nat.reduceBEq, Nat.reduceEqDiff, Nat.reduceLT, Nat.reduceLeDiff, Nat.reduceAdd, Nat.reduceMul, Nat.reduceSub, reduceCtorEq, Int.reduceToNat] <;> (repeat' first | rfl | apply And.intro)) ?_
              rintro _ _ ⟨rfl, rfl⟩
              unfold chP
              repeat' first | ((first | refine Br.dec ?_ ?_ | refine Br.eqi ?_ ?_) <;> intro h <;> try (exfalso; omega)) | (simp (disch := first | omega | (simp only [vlen]; first | done | omega)) only [pr_ren, vit, ↓vAq, vBq, ↓reduceIte, Nat.reduceBEq, Nat.reduceEqDiff, Nat.reduceLT, Nat.reduceLeDiff, Nat.reduceAdd, Nat.reduceMul, Nat.reduceSub, reduceCtorEq, Int.reduceToNat]) | (refine Br.mk ?_ ?_ <;> intro h) | (refine BrN.mk (fun h => ?_) ?_) | (refine AltVC.mk ?_ ?_)
              refine loopK.mk (j + 1, X) (by simp (disch := first | omega | (simp only [vlen]; first | done | omega)) only [vit, ↓vAq, vBq, ↓reduceIte, Nat.reduceBEq, Nat.reduceEqDiff, Nat.reduceLT, Nat.reduceLeDiff, Nat.reduceAdd, Nat.reduceMul, Nat.reduceSub, reduceCtorEq, Int.reduceToNat]) ⟨by show j + 1 ≤ (S.getD w.length default).length; omega, k2, nx_skip k3 (fun s _ => by rw [hx, hny]; simp)⟩ (by show 651 - (j + 1) < 651 - j; omega) ?_
              (simp (disch := first | omega | (simp only [vlen]; first | done | omega)) only [Fits_u, Fits_m, Fits_nil, List.length_append, sr_trim6, pr_ren, vit, ↓vAq, vBq, ↓reduceIte, Nat.reduceBEq, Nat.reduceEqDiff, Nat.reduceLT, Nat.reduceLeDiff, Nat.reduceAdd, Nat.reduceMul, Nat.reduceSub, reduceCtorEq, Int.reduceToNat] <;> (repeat' first | rfl | apply And.intro))
            | some c =>
              rw [nxD_some hny] at hnx
              have hc0 : 0 ≤ c ∧ c < g.k + g.n := by
                have := hkv.right _ (getD_mem' c1) c (by
                  unfold nxt at hny
                  exact List.mem_of_getElem? hny)
                exact this
              obtain ⟨cn, rfl⟩ : ∃ cn : Nat, c = cn := ⟨c.toNat, by omega⟩
              repeat' first | ((first | refine Br.dec ?_ ?_ | refine Br.eqi ?_ ?_) <;> intro h <;> try (exfalso; omega)) | (simp (disch := first | omega | (simp only [vlen]; first | done | omega)) only [hx, vit, ↓vAq, vBq, ↓reduceIte, Nat.reduceBEq, Nat.reduceEqDiff, Nat.reduceLT, Nat.reduceLeDiff, Nat.reduceAdd, Nat.reduceMul, Nat.reduceSub, reduceCtorEq, Int.reduceToNat]) | (refine Br.mk ?_ ?_ <;> intro h) | (refine BrN.mk (fun h => ?_) ?_) | (refine AltVC.mk ?_ ?_)
              refine CallVC.lendE [4, 3, 5, 6] [.ptr 0 6 0 0, .ag (itD x)] (chP (kpG g) S H w.length) hnx (by simp) (by rfl) (by unfold chP; simp (disch := first | omega | (simp only [vlen]; first | done | omega)) only [vle0, pr_ren, vit, ↓vAq, vBq, ↓reduceIte, Nat.reduceBEq, Nat.reduceEqDiff, Nat.reduceLT, Nat.reduceLeDiff, Nat.reduceAdd, Nat.reduceMul, Nat.reduceSub, reduceCtorEq, Int.reduceToNat] <;> (repeat' first | rfl | apply And.intro)) ?_
              rintro _ _ ⟨rfl, rfl⟩
              unfold chP
              by_cases hck : (cn : Int) < g.k
              · have hsh := @shlN cn (by omega)
                have hor := @orN X (2 ^ cn) (by omega) (by have := @pow_le31 cn (by omega); omega)
                have hp : 2 ^ cn < 8 := Nat.lt_of_lt_of_le (Nat.pow_lt_pow_right (by omega) (show cn < 3 by omega)) (by decide)
                repeat' first | ((first | refine Br.dec ?_ ?_ | refine Br.eqi ?_ ?_) <;> intro h <;> try (exfalso; omega)) | (simp (disch := first | omega | (simp only [vlen]; first | done | omega)) only [hsh, hor, pr_ren, vit, ↓vAq, vBq, ↓reduceIte, Nat.reduceBEq, Nat.reduceEqDiff, Nat.reduceLT, Nat.reduceLeDiff, Nat.reduceAdd, Nat.reduceMul, Nat.reduceSub, reduceCtorEq, Int.reduceToNat]) | (refine Br.mk ?_ ?_ <;> intro h) | (refine BrN.mk (fun h => ?_) ?_) | (refine AltVC.mk ?_ ?_)
                refine loopK.mk (j + 1, X ||| 2 ^ cn) (by simp (disch := first | omega | (simp only [vlen]; first | done | omega)) only [vit, ↓vAq, vBq, ↓reduceIte, Nat.reduceBEq, Nat.reduceEqDiff, Nat.reduceLT, Nat.reduceLeDiff, Nat.reduceAdd, Nat.reduceMul, Nat.reduceSub, reduceCtorEq, Int.reduceToNat]) ⟨by show j + 1 ≤ (S.getD w.length default).length; omega, Nat.or_lt_two_pow (n := 3) k2 hp, nx_add k3 hck (by rw [hx, hny])⟩ (by show 651 - (j + 1) < 651 - j; omega) ?_
                (simp (disch := first | omega | (simp only [vlen]; first | done | omega)) only [Fits_u, Fits_m, Fits_nil, List.length_append, sr_trim6, pr_ren, vit, ↓vAq, vBq, ↓reduceIte, Nat.reduceBEq, Nat.reduceEqDiff, Nat.reduceLT, Nat.reduceLeDiff, Nat.reduceAdd, Nat.reduceMul, Nat.reduceSub, reduceCtorEq, Int.reduceToNat] <;> (repeat' first | rfl | apply And.intro))
              · repeat' first | ((first | refine Br.dec ?_ ?_ | refine Br.eqi ?_ ?_) <;> intro h <;> try (exfalso; omega)) | (simp (disch := first | omega | (simp only [vlen]; first | done | omega)) only [pr_ren, vit, ↓vAq, vBq, ↓reduceIte, Nat.reduceBEq, Nat.reduceEqDiff, Nat.reduceLT, Nat.reduceLeDiff, Nat.reduceAdd, Nat.reduceMul, Nat.reduceSub, reduceCtorEq, Int.reduceToNat]) | (refine Br.mk ?_ ?_ <;> intro h) | (refine BrN.mk (fun h => ?_) ?_) | (refine AltVC.mk ?_ ?_)
                refine loopK.mk (j + 1, X) (by simp (disch := first | omega | (simp only [vlen]; first | done | omega)) only [vit, ↓vAq, vBq, ↓reduceIte, Nat.reduceBEq, Nat.reduceEqDiff, Nat.reduceLT, Nat.reduceLeDiff, Nat.reduceAdd, Nat.reduceMul, Nat.reduceSub, reduceCtorEq, Int.reduceToNat]) ⟨by show j + 1 ≤ (S.getD w.length default).length; omega, k2, nx_skip k3 (fun s hs => by rw [hx, hny]; intro e; rw [Option.some.injEq] at e; omega)⟩ (by show 651 - (j + 1) < 651 - j; omega) ?_
                (simp (disch := first | omega | (simp only [vlen]; first | done | omega)) only [Fits_u, Fits_m, Fits_nil, List.length_append, sr_trim6, pr_ren, vit, ↓vAq, vBq, ↓reduceIte, Nat.reduceBEq, Nat.reduceEqDiff, Nat.reduceLT, Nat.reduceLeDiff, Nat.reduceAdd, Nat.reduceMul, Nat.reduceSub, reduceCtorEq, Int.reduceToNat] <;> (repeat' first | rfl | apply And.intro))
          · repeat' first | ((first | refine Br.dec ?_ ?_ | refine Br.eqi ?_ ?_) <;> intro h <;> try (exfalso; omega)) | (simp (disch := first | omega | (simp only [vlen]; first | done | omega)) only [vit, ↓vAq, vBq, ↓reduceIte, Nat.reduceBEq, Nat.reduceEqDiff, Nat.reduceLT, Nat.reduceLeDiff, Nat.reduceAdd, Nat.reduceMul, Nat.reduceSub, reduceCtorEq, Int.reduceToNat]) | (refine Br.mk ?_ ?_ <;> intro h) | (refine BrN.mk (fun h => ?_) ?_) | (refine AltVC.mk ?_ ?_)
            refine fin_mk (.inr ⟨h0, X, rfl, k2, fun s => ?_⟩)
            rw [k3, hHit]
            refine and_congr_right fun _ => ⟨fun ⟨q, h1, h2⟩ => ⟨_, getD_mem' (by omega), h2⟩, fun ⟨x, h1, h2⟩ => ?_⟩
            obtain ⟨q, hq, rfl⟩ := List.mem_iff_getElem.1 h1
            exact ⟨q, by omega, by rw [List.getD_eq_getElem?_getD, List.getElem?_eq_getElem hq]; exact h2⟩
end Go.Proofs.Ytplkkacfjepgpaa

namespace Go.Dm
set_option linter.unusedSimpArgs false
set_option linter.unusedVariables false
def nsum (f : Nat → Nat) : Nat → Nat
  | 0 => 0
  | n + 1 => nsum f n + f n
theorem nsum_le_of {f g : Nat → Nat} : ∀ {n : Nat}, (∀ m, m < n → f m ≤ g m) → nsum f n ≤ nsum g n
  | 0, _ => Nat.le_refl _
  | n + 1, h => by
    have h1 := @nsum_le_of f g n fun m hm => h m (by omega)
    have h2 := h n (by omega)
    show nsum f n + f n ≤ nsum g n + g n
    omega
theorem nsum_lt_of {f g : Nat → Nat} : ∀ {n m : Nat}, (∀ m, m < n → f m ≤ g m) → m < n → f m < g m → nsum f n < nsum g n
  | 0, m, _, h, _ => absurd h (Nat.not_lt_zero _)
  | n + 1, m, h, hm, hl => by
    show nsum f n + f n < nsum g n + g n
    by_cases e : m = n
    · subst e
      have h1 := @nsum_le_of f g m fun k hk => h k (by omega)
      omega
    · have h1 := @nsum_lt_of f g n m (fun k hk => h k (by omega)) (by omega) hl
      have h2 := h n (by omega)
      omega
theorem nsum_const {c : Nat} {f : Nat → Nat} : ∀ {n : Nat}, (∀ m, m < n → f m ≤ c) → nsum f n ≤ n * c
  | 0, _ => Nat.zero_le _
  | n + 1, h => by
    have h1 := @nsum_const c f n fun m hm => h m (by omega)
    have h2 := h n (by omega)
    show nsum f n + f n ≤ (n + 1) * c
    rw [Nat.succ_mul]; omega
def tsum (f : Nat → Nat) (a b : Nat) : Nat := nsum (fun m => if a ≤ m then f m else 0) b
def rowT (T : Int → Nat → Nat → Nat) : List Int → Nat → Nat → Nat
  | [], i, j => if i = j then 1 else 0
  | [s], i, j => T s i j
  | s :: s' :: l, i, j => tsum (fun m => T s i m * rowT T (s' :: l) m j) (i + 1) j
def symV (w : List Int) (x : Int) (i j : Nat) : Nat := if j = i + 1 ∧ w.getD i 0 = x then 1 else 0
def treeF (g : Grammar) (w : List Int) : Nat → Int → Nat → Nat → Nat
  | 0, x, i, j => if x < g.k then symV w x i j else 0
  | f + 1, x, i, j => if x < g.k then symV w x i j else nsum (fun q => if (g.rules.getD q default).left = x - g.k then rowT (treeF g w f) (g.rules.getD q default).right i j else 0) g.rules.length
def trees (g : Grammar) (w : List Int) (x : Int) (i j : Nat) : Nat := treeF g w (j - i + 1) x i j
end Go.Dm

namespace Go.Proofs.Ytplkkacfjepgpaa
open Go.Dm
set_option linter.unusedSimpArgs false
set_option linter.unnecessarySimpa false
set_option linter.unusedVariables false
set_option linter.defProp false
def tbb (n : Nat) (f : Nat → Bool) : List Bool := (List.range n).map f
theorem tbb_rep {n : Nat} : List.replicate n false = tbb n fun _ => false := by apply List.ext_getElem <;> simp [tbb]
theorem tbb_len {n : Nat} {f : Nat → Bool} : (tbb n f).length = n := by simp [tbb]
theorem tbb_get {n i : Nat} {f : Nat → Bool} {d : Bool} (h : i < n) : (tbb n f).getD i d = f i := by simp [tbb, List.getD, h]
theorem tbb_set {n i : Nat} {f : Nat → Bool} {x : Bool} : (tbb n f).set i x = tbb n fun j => if j = i then x else f j := by
  apply List.ext_getElem
  · simp [tbb]
  · intro j h1 h2
    simp only [tbb, List.getElem_set, List.getElem_map, List.getElem_range]
    by_cases e : i = j
    · rw [if_pos e, if_pos e.symm]
    · rw [if_neg e, if_neg (fun h => e h.symm)]
theorem tbb_ext {n : Nat} {f g : Nat → Bool} (h : ∀ j, j < n → f j = g j) : tbb n f = tbb n g := by
  unfold tbb
  exact List.map_congr_left fun j hj => h j (List.mem_range.1 hj)
theorem tbb_bls {n : Nat} {f : Nat → Bool} : (bls (tbb n f)).length = n := by simp [bls, tbb]
def cuV (T : Nat → Nat → Nat → Bool) (N n : Nat) : D := .sl 1 (tabD N fun a => .sl 1 (tabD n fun i => .sl 1 (bls (tbb n fun j => T a i j))))
theorem cuV_eq {T : Nat → Nat → Nat → Bool} {N n : Nat} : cuV T N n = .sl 1 (tabD N fun a => .sl 1 (tabD n fun i => .sl 1 (bls (tbb n fun j => T a i j)))) := (rfl)
def vcu := And.intro vmr <| And.intro @tbb_len <| And.intro @tbb_get <| And.intro @tbb_set <| And.intro @tbb_bls <| And.intro @cuV_eq <| And.intro @rulD_eq @Int.add_sub_cancel
theorem ovB_no {g : Grammar} {w : List Int} {t : Nat → Nat → Nat → Bool} {x : Int} {l : List Int} {i j : Nat} (h : ∀ m, i ≤ m → m ≤ j → ¬ (oneB g w t x i m = true ∧ ovB g w t l m j = true)) : ovB g w t (x :: l) i j = false := by
  rw [Bool.eq_false_iff]; intro ho
  obtain ⟨m, h1, h2, h3, h4⟩ := ovB_cons.mp ho
  exact h m h1 h2 ⟨h3, h4⟩
def rwC (T : Nat → Nat → Nat → Bool) (n a i : Nat) : D := .own false 1 (bls (tbb n fun j => T a i j))
def plC (T : Nat → Nat → Nat → Bool) (n a : Nat) : D := .own true 1 (tabD n fun i => rwC T n a i)
theorem rwC_eq {T : Nat → Nat → Nat → Bool} {n a i : Nat} : rwC T n a i = .own false 1 (bls (tbb n fun j => T a i j)) := (rfl)
theorem plC_eq {T : Nat → Nat → Nat → Bool} {n a : Nat} : plC T n a = .own true 1 (tabD n fun i => rwC T n a i) := (rfl)
section
variable {T : Nat → Nat → Nat → Bool} {n a i : Nat} {s : S} {τ m : Nat} {ob : Ob}
theorem rwC_kill : (rwC T n a i).kill τ = rwC T n a i := by simp [rwC, kill_oo]
theorem plC_kill : (plC T n a).kill τ = plC T n a := by simp [plC, kill_oo]
theorem rwC_trim : (rwC T n a i).trim m = rwC T n a i := by simp [rwC, trim_oo]
theorem plC_trim : (plC T n a).trim m = plC T n a := by simp [plC, trim_oo]
theorem rwC_kOwn {τ' i' o' : Nat} {k : S → D → Prop} : kOwn s τ' i' o' ob k (rwC T n a i) = Chk (τ' ≠ s.N) (kRefN k 1 (bls (tbb n fun j => T a i j)).length) (s.unfold τ' i' o' ob false 1 (bls (tbb n fun j => T a i j))) := (rfl)
theorem plC_kOwn {τ' i' o' : Nat} {k : S → D → Prop} : kOwn s τ' i' o' ob k (plC T n a) = Chk (τ' ≠ s.N) (kRefN k 1 (tabD n fun i => rwC T n a i).length) (s.unfold τ' i' o' ob true 1 (tabD n fun i => rwC T n a i)) := (rfl)
end
theorem tbb_take {n : Nat} {f : Nat → Bool} : (tbb n f).take n = tbb n f := List.take_of_length_le (by rw [tbb_len]; exact Nat.le_refl _)
theorem tabD_takeA {n : Nat} {f : Nat → D} : (tabD n f).take n = tabD n f := List.take_of_length_le (by rw [tabD_len]; exact Nat.le_refl _)
theorem tbb_takeB {n : Nat} {f : Nat → Bool} : (bls (tbb n f)).take n = bls (tbb n f) := List.take_of_length_le (by rw [tbb_bls]; exact Nat.le_refl _)
theorem vwR_cu {T : Nat → Nat → Nat → Bool} {N n : Nat} : vwR (tabD N fun b => plC T n b) = tabD N fun a => .sl 1 (tabD n fun i => .sl 1 (bls (tbb n fun j => T a i j))) := by
  simp only [vwR, tabD, List.map_map]
  refine List.map_congr_left fun a _ => ?_
  simp only [Function.comp, List.map_cons, List.map_nil, plC, vw_own, if_true, tabD, List.map_map]
  congr 2
  refine List.map_congr_left fun i _ => ?_
  simp only [Function.comp, List.map_cons, List.map_nil, rwC, vw_own, Bool.false_eq_true, if_false]
def vct := And.intro vcu <| And.intro @vwR_cu <| And.intro @tbb_take <| And.intro @tabD_takeA <| And.intro @tbb_takeB <| And.intro @rwC_kill <| And.intro @plC_kill <| And.intro @rwC_trim <| And.intro @plC_trim <| And.intro @rwC_kOwn <| And.intro @plC_kOwn @Int.add_sub_cancel
def F3 : Nat → Nat → Nat → Bool := fun _ _ _ => false
theorem obTabW {n : Nat} {f g : Nat → D} {a b b' : Bool} {c : Kd} (h : ∀ j, j < n → f j = g j) (hb : b = b') : some (⟨1, tabD n f, a, b, c⟩ : Ob) = some ⟨1, tabD n g, a, b', c⟩ := by rw [tabD_ext h, hb]
def upd3 (T : Nat → Nat → Nat → Bool) (a i j : Nat) : Nat → Nat → Nat → Bool := fun b k m => if b = a ∧ k = i ∧ m = j then true else T b k m
theorem upd3_at {T : Nat → Nat → Nat → Bool} {a i j : Nat} : upd3 T a i j a i j = true := if_pos ⟨rfl, rfl, rfl⟩
theorem upd3_ne {T : Nat → Nat → Nat → Bool} {a i j b k m : Nat} (h : ¬ (b = a ∧ k = i ∧ m = j)) : upd3 T a i j b k m = T b k m := if_neg h
def cwt (N n : Nat) (T : Nat → Nat → Nat → Bool) : Nat := nsum (fun a => nsum (fun i => nsum (fun j => if T a i j = true then 1 else 0) n) n) N
theorem cwt_upd {N n a i j : Nat} {T : Nat → Nat → Nat → Bool} (ha : a < N) (hi : i < n) (hj : j < n) (h : T a i j = false) : cwt N n T < cwt N n (upd3 T a i j) := by
  have hle : ∀ b k m, (if T b k m = true then 1 else 0) ≤ (if upd3 T a i j b k m = true then 1 else 0) := fun b k m => by
    by_cases e : b = a ∧ k = i ∧ m = j
    · obtain ⟨rfl, rfl, rfl⟩ := e; rw [upd3_at, h]; simp
    · rw [upd3_ne e]; exact Nat.le_refl _
  refine nsum_lt_of (m := a) (fun b _ => nsum_le_of fun k _ => nsum_le_of fun m _ => hle b k m) ha ?_
  refine nsum_lt_of (m := i) (fun k _ => nsum_le_of fun m _ => hle a k m) hi ?_
  exact nsum_lt_of (m := j) (fun m _ => hle a i m) hj (by rw [upd3_at, h]; simp)
def Snd3 (g : Grammar) (w : List Int) (T : Nat → Nat → Nat → Bool) : Prop := ∀ a i j, T a i j = true → i ≤ j ∧ Der g w [g.k + a] i j
theorem Snd3.ov {g : Grammar} {w : List Int} {T : Nat → Nat → Nat → Bool} (h : Snd3 g w T) {l : List Int} {i j : Nat} (ho : ovB g w T l i j = true) : Der g w l i j := ovB_sound (fun a i j _ ht => (h a i j ht).2) ho
theorem Snd3.add {g : Grammar} {w : List Int} {T : Nat → Nat → Nat → Bool} (h : Snd3 g w T) {q a i j : Nat} (hk : 1 ≤ g.k) (hq : q < g.rules.length) (ha : (g.rules.getD q default).left = a) (hij : i ≤ j) (hd : Der g w (g.rules.getD q default).right i j) : Snd3 g w (upd3 T a i j) := fun b k m hb => by
  by_cases e : b = a ∧ k = i ∧ m = j
  · obtain ⟨rfl, rfl, rfl⟩ := e
    exact ⟨hij, (der_name (by omega)).mpr ⟨q, hq, by omega, hd⟩⟩
  · rw [upd3_ne e] at hb
    exact h b k m hb
def CLT (g : Grammar) (w : List Int) (T : Nat → Nat → Nat → Bool) (q i j : Nat) : Prop := i ≤ j → ovB g w T (g.rules.getD q default).right i j = true → T (g.rules.getD q default).left.toNat i j = true
def tbO (g : Grammar) (N n : Nat) (T : Nat → Nat → Nat → Bool) : List (Nat × Ob) := [(0, ⟨4, [[iv .i64 g.k, iv .i64 N, iv .i64 g.start, .sl 2 (tbl rulD g.rules)]], true, false, .fix⟩), (2, ⟨1, tabD N fun b => plC T n b, true, true, .arr⟩)]
end Go.Proofs.Ytplkkacfjepgpaa
