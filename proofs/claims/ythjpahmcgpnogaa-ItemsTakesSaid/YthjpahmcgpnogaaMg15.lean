/-
 Texts of this claim, one behind another.
-/
import Derived.Test.YthjpahmcgpnogaaMg14
import Derived.Test.YthjpahmcgpnogaaMg11
import Derived.Test.YthjpahmcgpnogaaMg13
namespace Go.Proofs.Ythjpahmcgpnogaa
open Go.Dm
set_option linter.unusedSimpArgs false
set_option linter.unnecessarySimpa false
set_option linter.unusedVariables false
set_option linter.defProp false
def buO (g : Grammar) (S : List (List It)) (H : List (List Ha)) : List (Option Ob) := [none, some ⟨1, tbl scR S, true, true, .fix⟩, some ⟨6, [[iv .i64 g.k, iv .i64 g.n, iv .i64 g.start, .sl 2 (tbl rulD g.rules), .ref 1 1 0 S.length, .ref 3 1 0 H.length]], false, true, .fix⟩, some ⟨1, tbl hmR H, true, true, .fix⟩]
def buR (g : Grammar) (w : List Int) (d : D) (o : List (Option Ob)) : Prop := d = .ptr 2 6 0 0 ∧ ∃ S H, o = buO g S H ∧ Snd g w S ∧ Clo g w S
def h0 (i : Nat) : D := .own (decide (0 < i)) 1 (tbl hmR (List.replicate i []))
def s0 (n i : Nat) : List (List D) := List.replicate i [.own false 3 []] ++ List.replicate (n - i) [.nl]
def s0o (n i : Nat) : Ob := ⟨1, s0 n i, true, decide (0 < i), .arr⟩
theorem h0_0 : h0 0 = .own false 1 [] := (rfl)
theorem h0_s {i : Nat} : h0 (i + 1) = .own true 1 (tbl hmR (List.replicate (i + 1) [])) := by simp [h0]
theorem s0o_0 {n : Nat} : s0o n 0 = ⟨1, List.replicate n [.nl], true, false, .arr⟩ := by simp [s0o, s0]
theorem s0o_z {n : Nat} : s0o n 0 = ⟨1, s0 n 0, true, false, .arr⟩ := (rfl)
theorem s0o_s {n i : Nat} : s0o n (i + 1) = ⟨1, s0 n (i + 1), true, true, .arr⟩ := by simp [s0o]
theorem s0_len {n i : Nat} (h : i ≤ n) : (s0 n i).length = n := by simp [s0]; omega
theorem s0_get {n i : Nat} (h : i < n) : (s0 n i).getD i [] = [.nl] := by
  simp [s0, List.getD_eq_getElem?_getD, List.getElem?_append, List.getElem?_replicate, show 0 < n - i by omega]
theorem s0_set {n i : Nat} (h : i < n) : (s0 n i).set i [.own false 3 []] = s0 n (i + 1) := by
  unfold s0
  rw [List.set_append_right _ _ (by simp), List.length_replicate, Nat.sub_self, show n - i = (n - (i + 1)) + 1 by omega, List.replicate_succ, List.set_cons_zero, show List.replicate (i + 1) [D.own false 3 []] = List.replicate i [.own false 3 []] ++ [[.own false 3 []]] from List.replicate_succ', List.append_assoc]; rfl
theorem s0_end {n : Nat} : s0 n n = tbl scR (List.replicate n []) := by simp [s0, tbl, scR]
theorem hm_rep {i : Nat} : tbl hmR (List.replicate i []) ++ [[.omp haK 4 []]] = tbl hmR (List.replicate (i + 1) []) := by
  rw [show List.replicate (i + 1) ([] : List Ha) = List.replicate i [] ++ [[]] from List.replicate_succ']; simp [tbl, hmR]
theorem hm_kl {H : List (List Ha)} {τ : Nat} : List.map (fun e => List.map (D.kill τ) e) (tbl hmR H) = tbl hmR H := by
  have e : ((fun e => List.map (D.kill τ) e) ∘ hmR) = hmR := by funext l; simp [hmR, kill_om]
  simp [tbl, e]
theorem hr_len {i : Nat} : (tbl hmR (List.replicate i [])).length = i := by simp [tbl]
theorem hr_get {i : Nat} {x : D} : (tbl hmR (List.replicate i []) ++ [[x]]).getD i [] = [x] := by simp [List.getD_eq_getElem?_getD, tbl]
theorem hr_set {i : Nat} {x y : D} : (tbl hmR (List.replicate i []) ++ [[x]]).set i [y] = tbl hmR (List.replicate i []) ++ [[y]] := by simp [List.set_append, tbl]
theorem hr_rep {i : Nat} : List.length (List.replicate i ([] : List Ha)) = i := by simp
theorem rl_len {n : Nat} : List.length (List.replicate n ([] : List It)) = n := by simp
theorem rp_get {α : Type} {n i : Nat} : (List.replicate n ([] : List α)).getD i [] = [] := by
  simp only [List.getD_eq_getElem?_getD, List.getElem?_replicate]; split <;> rfl
theorem snd_0 {g : Grammar} {w : List Int} : Snd g w (List.replicate (w.length + 1) []) := ⟨by simp, fun i x h => (by rw [rp_get] at h; cases h), fun i => (by rw [rp_get]; exact List.nodup_nil)⟩
theorem hi_0 {n : Nat} : HI (List.replicate n []) (List.replicate n []) := ⟨by simp, fun i x => by rw [rp_get, rp_get]; simp⟩
def scP (g : Grammar) (w : List Int) (j : Nat) (S : List (List It)) : Prop := ∀ x, x ∈ S.getD j [] → nxt g x = some (w.getD j 0) → (x.1, x.2.1 + 1, x.2.2) ∈ S.getD (j + 1) []
structure Dn (g : Grammar) (w : List Int) (i : Nat) (S : List (List It)) : Prop where
  b : beP g 0 g.start g.rules.length S
  c : ∀ j, j < i → clP g j S
  s : ∀ j, j < i → scP g w j S
theorem clP.ext {g : Grammar} {w : List Int} {j k : Nat} {S S' : List (List It)} (h : clP g j S) (hS : Snd g w S) (he : Ext k S S') (hk : j < k) : clP g j S' := fun x hx => by
  rw [he.oth j (by omega)] at hx
  obtain ⟨h1, h2⟩ := h x hx
  refine ⟨fun r hr hl => he.sub (h1 r hr hl), fun hn y hy hny => ?_⟩
  have h3 : x.2.2 ≤ j := (hS.ear j x hx).wi.2.2.1
  rw [he.oth x.2.2 (by omega)] at hy
  exact he.sub (h2 hn y hy hny)
theorem Dn.ext {g : Grammar} {w : List Int} {i k : Nat} {S S' : List (List It)} (h : Dn g w i S) (hS : Snd g w S) (he : Ext k S S') (hk : i ≤ k) : Dn g w i S' :=
  ⟨fun r hr hl => he.sub (h.b r hr hl), fun j hj => (h.c j hj).ext hS he (by omega), fun j hj x hx hn => by
    rw [he.oth j (by omega)] at hx
    exact he.sub (h.s j hj x hx hn)⟩
theorem Dn.clo {g : Grammar} {w : List Int} {S : List (List It)} (h : Dn g w w.length S) (hc : clP g w.length S) : Clo g w S := by
  have hcl : ∀ i, i ≤ w.length → clP g i S := fun i hi => by
    by_cases e : i = w.length
    · rw [e]; exact hc
    · exact h.c i (by omega)
  exact ⟨h.b, fun i x r hi hx hn hr => (hcl i hi x hx).1 r hr hn, fun i x hx hi hn => h.s i hi x hx hn, fun i x y hi hx hn hy hny => (hcl i hi x hx).2 hn y hy hny⟩
def chB (g : Grammar) (S : List (List It)) (H : List (List Ha)) : List (Nat × Ob) := [(0, ⟨4, [[iv .i64 g.k, iv .i64 g.n, iv .i64 g.start, .sl 2 (tbl rulD g.rules)]], true, false, .fix⟩), (1, ⟨1, tbl scR S, true, true, .fix⟩), (2, ⟨6, [[iv .i64 g.k, iv .i64 g.n, iv .i64 g.start, .sl 2 (tbl rulD g.rules), .ref 1 1 0 S.length, .ref 3 1 0 H.length]], false, true, .fix⟩), (3, ⟨1, tbl hmR H, true, true, .fix⟩)]
def chC (g : Grammar) (S : List (List It)) (H : List (List Ha)) (i : Nat) (L : List It) (kd : Kd) : List (Nat × Ob) := [(0, ⟨4, [[iv .i64 g.k, iv .i64 g.n, iv .i64 g.start, .sl 2 (tbl rulD g.rules)]], true, false, .fix⟩), (1, ⟨1, (tbl scR S).set i [.ref 4 3 0 L.length], false, true, .fix⟩), (2, ⟨6, [[iv .i64 g.k, iv .i64 g.n, iv .i64 g.start, .sl 2 (tbl rulD g.rules), .ref 1 1 0 S.length, .ref 3 1 0 H.length]], false, true, .fix⟩), (3, ⟨1, tbl hmR H, true, true, .fix⟩), (4, ⟨3, tbl itD L, true, false, kd⟩)]
theorem sr_trim {S : List (List It)} {i n : Nat} : List.map (fun e => List.map (D.trim 5) e) ((tbl scR S).set i [.ref 4 3 0 n]) = (tbl scR S).set i [.ref 4 3 0 n] := by
  have e : ((fun e => List.map (D.trim 5) e) ∘ scR) = scR := by funext l; simp [scR, trim_oo]
  rw [List.map_set]
  simp only [tbl, List.map_map, e, List.map_cons, List.map_nil, trim_ref, show (4 < 5) = True from by simp, if_true]
theorem bu_fin {g : Grammar} {S : List (List It)} {H : List (List Ha)} {s : Go.Dm.S} {d : D} {R : D → List (Option Ob) → Prop} (h1 : 4 ≤ s.N) (h2 : fitL s 4 0 (buO g S H)) (hd : R (d.trim 4) (buO g S H)) : FinH 0 R s d :=
  finH_mk (buO g S H) (Nat.zero_le _) (by simpa [buO] using h1) (by simpa [buO] using h2) hd
set_option maxRecDepth 10000 in
set_option maxHeartbeats 4000000 in
theorem build_spec (g : Grammar) (w : List Int) (hc : IC g w) : Dm.SpecH Try.prog 61 [.ag (graD g), .sl 1 (i64s w)] [] (buR g w) := by
  refine specH_of_vc mixed Try.func61 c61 (by rw [show Try.f61.ntmps = _ from Try.ntmps61]; simp) ?_
  unfold m61 r61
  have hrl := hc.v.len
  have hwl := hc.w
  repeat' first | ((first | refine Br.dec ?_ ?_ | refine Br.eqi ?_ ?_) <;> intro h <;> try (exfalso; omega)) | (simp (disch := first | omega | (simp only [vlen]; first | done | omega)) only [graD_eq, vit, ↓vAq, vBq, ↓reduceIte, Nat.reduceBEq, Nat.reduceEqDiff, Nat.reduceLT, Nat.reduceLeDiff, Nat.reduceAdd, Nat.reduceMul, Nat.reduceSub, reduceCtorEq, Int.reduceToNat]) | (refine Br.mk ?_ ?_ <;> intro h) | (refine BrN.mk (fun h => ?_) ?_) | (refine AltVC.mk ?_ ?_)
  refine LoopVC.nlo 2 0 5 1 ?_
  repeat' first | ((first | refine Br.dec ?_ ?_ | refine Br.eqi ?_ ?_) <;> intro h <;> try (exfalso; omega)) | (simp (disch := first | omega | (simp only [vlen]; first | done | omega)) only [graD_eq, vit, ↓vAq, vBq, ↓reduceIte, Nat.reduceBEq, Nat.reduceEqDiff, Nat.reduceLT, Nat.reduceLeDiff, Nat.reduceAdd, Nat.reduceMul, Nat.reduceSub, reduceCtorEq, Int.reduceToNat]) | (refine Br.mk ?_ ?_ <;> intro h) | (refine BrN.mk (fun h => ?_) ?_) | (refine AltVC.mk ?_ ?_)
  refine LoopVC.mk (X := Nat) (fun i => [(23, iv .i64 i)]) (fun i => [(0, ⟨4, [[iv .i64 g.k, iv .i64 g.n, iv .i64 g.start, .sl 2 (tbl rulD g.rules)]], true, false, .fix⟩), (1, s0o (w.length + 1) i), (2, ⟨6, [[iv .i64 g.k, iv .i64 g.n, iv .i64 g.start, .sl 2 (tbl rulD g.rules), .ref 1 1 0 (w.length + 1), h0 i]], false, true, .fix⟩)]) (fun i => w.length + 1 - i) (fun i => i ≤ w.length + 1) 0 (Nat.zero_le _) ?_ ?_
  · rw [h0_0, s0o_0]
    (simp (disch := first | omega | (simp only [vlen]; first | done | omega)) only [Fits_u, Fits_m, Fits_nil, List.length_append, vit, ↓vAq, vBq, ↓reduceIte, Nat.reduceBEq, Nat.reduceEqDiff, Nat.reduceLT, Nat.reduceLeDiff, Nat.reduceAdd, Nat.reduceMul, Nat.reduceSub, reduceCtorEq, Int.reduceToNat] <;> (repeat' first | rfl | apply And.intro))
    all_goals trace_state
  · intro i hi
    have h1 : ∀ d : D, (s0 (w.length + 1) i).length = w.length + 1 := fun _ => s0_len hi
    have h1 := s0_len hi
    by_cases hlt : i < w.length + 1
    · have h2 := s0_get hlt
      have h3 := s0_set hlt
      cases i with
      | zero =>
        rw [h0_0, s0o_z]
        repeat' first | ((first | refine Br.dec ?_ ?_ | refine Br.eqi ?_ ?_) <;> intro h <;> try (exfalso; omega)) | (simp (disch := first | omega | (simp only [vlen]; first | done | omega)) only [vit, ↓vAq, vBq, ↓reduceIte, Nat.reduceBEq, Nat.reduceEqDiff, Nat.reduceLT, Nat.reduceLeDiff, Nat.reduceAdd, Nat.reduceMul, Nat.reduceSub, reduceCtorEq, Int.reduceToNat]) | (refine Br.mk ?_ ?_ <;> intro h) | (refine BrN.mk (fun h => ?_) ?_) | (refine AltVC.mk ?_ ?_)
        refine loopK.fold 4 3 0 0 true ?_
        repeat' first | ((first | refine Br.dec ?_ ?_ | refine Br.eqi ?_ ?_) <;> intro h <;> try (exfalso; omega)) | (simp (disch := first | omega | (simp only [vlen]; first | done | omega)) only [vit, ↓vAq, vBq, ↓reduceIte, Nat.reduceBEq, Nat.reduceEqDiff, Nat.reduceLT, Nat.reduceLeDiff, Nat.reduceAdd, Nat.reduceMul, Nat.reduceSub, reduceCtorEq, Int.reduceToNat]) | (refine Br.mk ?_ ?_ <;> intro h) | (refine BrN.mk (fun h => ?_) ?_) | (refine AltVC.mk ?_ ?_)
        refine loopK.fold 3 2 0 5 false ?_
        repeat' first | ((first | refine Br.dec ?_ ?_ | refine Br.eqi ?_ ?_) <;> intro h <;> try (exfalso; omega)) | (simp (disch := first | omega | (simp only [vlen]; first | done | omega)) only [vit, ↓vAq, vBq, ↓reduceIte, Nat.reduceBEq, Nat.reduceEqDiff, Nat.reduceLT, Nat.reduceLeDiff, Nat.reduceAdd, Nat.reduceMul, Nat.reduceSub, reduceCtorEq, Int.reduceToNat]) | (refine Br.mk ?_ ?_ <;> intro h) | (refine BrN.mk (fun h => ?_) ?_) | (refine AltVC.mk ?_ ?_)
        refine loopK.nlo 1 0 0 3 ?_
        repeat' first | ((first | refine Br.dec ?_ ?_ | refine Br.eqi ?_ ?_) <;> intro h <;> try (exfalso; omega)) | (simp (disch := first | omega | (simp only [vlen]; first | done | omega)) only [h1, h2, h3, vit, ↓vAq, vBq, ↓reduceIte, Nat.reduceBEq, Nat.reduceEqDiff, Nat.reduceLT, Nat.reduceLeDiff, Nat.reduceAdd, Nat.reduceMul, Nat.reduceSub, reduceCtorEq, Int.reduceToNat]) | (refine Br.mk ?_ ?_ <;> intro h) | (refine BrN.mk (fun h => ?_) ?_) | (refine AltVC.mk ?_ ?_)
        refine loopK.mk 1 (by simp (disch := first | omega | (simp only [vlen]; first | done | omega)) only [vit, ↓vAq, vBq, ↓reduceIte, Nat.reduceBEq, Nat.reduceEqDiff, Nat.reduceLT, Nat.reduceLeDiff, Nat.reduceAdd, Nat.reduceMul, Nat.reduceSub, reduceCtorEq, Int.reduceToNat]) (by show 1 ≤ _; omega) (by show _ - 1 < _ - 0; omega) ?_
        rw [show h0 1 = .own true 1 [[.omp haK 4 []]] from rfl, s0o_s]
        (simp (disch := first | omega | (simp only [vlen]; first | done | omega)) only [Fits_u, Fits_m, Fits_nil, List.length_append, vit, ↓vAq, vBq, ↓reduceIte, Nat.reduceBEq, Nat.reduceEqDiff, Nat.reduceLT, Nat.reduceLeDiff, Nat.reduceAdd, Nat.reduceMul, Nat.reduceSub, reduceCtorEq, Int.reduceToNat] <;> (repeat' first | rfl | apply And.intro))
        all_goals trace_state
      | succ i =>
        rw [h0_s, s0o_s]
        repeat' first | ((first | refine Br.dec ?_ ?_ | refine Br.eqi ?_ ?_) <;> intro h <;> try (exfalso; omega)) | (simp (disch := first | omega | (simp only [vlen]; first | done | omega)) only [hm_kl, hr_rep, vit, ↓vAq, vBq, ↓reduceIte, Nat.reduceBEq, Nat.reduceEqDiff, Nat.reduceLT, Nat.reduceLeDiff, Nat.reduceAdd, Nat.reduceMul, Nat.reduceSub, reduceCtorEq, Int.reduceToNat]) | (refine Br.mk ?_ ?_ <;> intro h) | (refine BrN.mk (fun h => ?_) ?_) | (refine AltVC.mk ?_ ?_)
        refine loopK.fold 4 3 (i + 1) 0 true ?_
        repeat' first | ((first | refine Br.dec ?_ ?_ | refine Br.eqi ?_ ?_) <;> intro h <;> try (exfalso; omega)) | (simp (disch := first | omega | (simp only [vlen]; first | done | omega)) only [hr_get, hr_set, hr_len, hm_rep, hr_rep, hm_all, vit, ↓vAq, vBq, ↓reduceIte, Nat.reduceBEq, Nat.reduceEqDiff, Nat.reduceLT, Nat.reduceLeDiff, Nat.reduceAdd, Nat.reduceMul, Nat.reduceSub, reduceCtorEq, Int.reduceToNat]) | (refine Br.mk ?_ ?_ <;> intro h) | (refine BrN.mk (fun h => ?_) ?_) | (refine AltVC.mk ?_ ?_)
        refine loopK.fold 3 2 0 5 false ?_
        repeat' first | ((first | refine Br.dec ?_ ?_ | refine Br.eqi ?_ ?_) <;> intro h <;> try (exfalso; omega)) | (simp (disch := first | omega | (simp only [vlen]; first | done | omega)) only [hr_get, hr_set, hr_len, hm_rep, hr_rep, hm_all, vit, ↓vAq, vBq, ↓reduceIte, Nat.reduceBEq, Nat.reduceEqDiff, Nat.reduceLT, Nat.reduceLeDiff, Nat.reduceAdd, Nat.reduceMul, Nat.reduceSub, reduceCtorEq, Int.reduceToNat]) | (refine Br.mk ?_ ?_ <;> intro h) | (refine BrN.mk (fun h => ?_) ?_) | (refine AltVC.mk ?_ ?_)
        refine loopK.nlo 1 (i + 1) 0 3 ?_
        repeat' first | ((first | refine Br.dec ?_ ?_ | refine Br.eqi ?_ ?_) <;> intro h <;> try (exfalso; omega)) | (simp (disch := first | omega | (simp only [vlen]; first | done | omega)) only [h1, h2, h3, vit, ↓vAq, vBq, ↓reduceIte, Nat.reduceBEq, Nat.reduceEqDiff, Nat.reduceLT, Nat.reduceLeDiff, Nat.reduceAdd, Nat.reduceMul, Nat.reduceSub, reduceCtorEq, Int.reduceToNat]) | (refine Br.mk ?_ ?_ <;> intro h) | (refine BrN.mk (fun h => ?_) ?_) | (refine AltVC.mk ?_ ?_)
        refine loopK.mk (i + 2) (by simp (disch := first | omega | (simp only [vlen]; first | done | omega)) only [vit, ↓vAq, vBq, ↓reduceIte, Nat.reduceBEq, Nat.reduceEqDiff, Nat.reduceLT, Nat.reduceLeDiff, Nat.reduceAdd, Nat.reduceMul, Nat.reduceSub, reduceCtorEq, Int.reduceToNat]) (by show i + 2 ≤ _; omega) (by show _ - (i + 2) < _ - (i + 1); omega) ?_
        rw [h0_s, s0o_s]
        (simp (disch := first | omega | (simp only [vlen]; first | done | omega)) only [Fits_u, Fits_m, Fits_nil, List.length_append, vit, ↓vAq, vBq, ↓reduceIte, Nat.reduceBEq, Nat.reduceEqDiff, Nat.reduceLT, Nat.reduceLeDiff, Nat.reduceAdd, Nat.reduceMul, Nat.reduceSub, reduceCtorEq, Int.reduceToNat] <;> (repeat' first | rfl | apply And.intro))
        all_goals trace_state
    · have hie : i = w.length + 1 := by omega
      subst hie
      rw [h0_s, s0o_s, s0_end]
      repeat' first | ((first | refine Br.dec ?_ ?_ | refine Br.eqi ?_ ?_) <;> intro h <;> try (exfalso; omega)) | (simp (disch := first | omega | (simp only [vlen]; first | done | omega)) only [vit, ↓vAq, vBq, ↓reduceIte, Nat.reduceBEq, Nat.reduceEqDiff, Nat.reduceLT, Nat.reduceLeDiff, Nat.reduceAdd, Nat.reduceMul, Nat.reduceSub, reduceCtorEq, Int.reduceToNat]) | (refine Br.mk ?_ ?_ <;> intro h) | (refine BrN.mk (fun h => ?_) ?_) | (refine AltVC.mk ?_ ?_)
      refine CallVC.unf 2 0 5 ?_
      repeat' first | ((first | refine Br.dec ?_ ?_ | refine Br.eqi ?_ ?_) <;> intro h <;> try (exfalso; omega)) | (simp (disch := first | omega | (simp only [vlen]; first | done | omega)) only [vit, ↓vAq, vBq, ↓reduceIte, Nat.reduceBEq, Nat.reduceEqDiff, Nat.reduceLT, Nat.reduceLeDiff, Nat.reduceAdd, Nat.reduceMul, Nat.reduceSub, reduceCtorEq, Int.reduceToNat]) | (refine Br.mk ?_ ?_ <;> intro h) | (refine BrN.mk (fun h => ?_) ?_) | (refine AltVC.mk ?_ ?_)
      refine CallVC.stay 1 ?_
      repeat' first | ((first | refine Br.dec ?_ ?_ | refine Br.eqi ?_ ?_) <;> intro h <;> try (exfalso; omega)) | (simp (disch := first | omega | (simp only [vlen]; first | done | omega)) only [vit, ↓vAq, vBq, ↓reduceIte, Nat.reduceBEq, Nat.reduceEqDiff, Nat.reduceLT, Nat.reduceLeDiff, Nat.reduceAdd, Nat.reduceMul, Nat.reduceSub, reduceCtorEq, Int.reduceToNat]) | (refine Br.mk ?_ ?_ <;> intro h) | (refine BrN.mk (fun h => ?_) ?_) | (refine AltVC.mk ?_ ?_)
      refine CallVC.stay 3 ?_
      repeat' first | ((first | refine Br.dec ?_ ?_ | refine Br.eqi ?_ ?_) <;> intro h <;> try (exfalso; omega)) | (simp (disch := first | omega | (simp only [vlen]; first | done | omega)) only [vit, ↓vAq, vBq, ↓reduceIte, Nat.reduceBEq, Nat.reduceEqDiff, Nat.reduceLT, Nat.reduceLeDiff, Nat.reduceAdd, Nat.reduceMul, Nat.reduceSub, reduceCtorEq, Int.reduceToNat]) | (refine Br.mk ?_ ?_ <;> intro h) | (refine BrN.mk (fun h => ?_) ?_) | (refine AltVC.mk ?_ ?_)
      have hbe := begin_spec g w hc _ _ hi_0 (snd_0 (g := g)) 0 (Nat.zero_le _) g.start (fun r hr hl => .start hr hl)
      refine CallVC.lendE [2, 1, 3] [.ptr 0 6 0 0, iv .i64 (0 : Nat), iv .i64 g.start] (chO g _ _) hbe (by simp) (by rfl) (by unfold chO; simp (disch := first | omega | (simp only [vlen]; first | done | omega)) only [vle0, rl_len, hr_rep, vit, ↓vAq, vBq, ↓reduceIte, Nat.reduceBEq, Nat.reduceEqDiff, Nat.reduceLT, Nat.reduceLeDiff, Nat.reduceAdd, Nat.reduceMul, Nat.reduceSub, reduceCtorEq, Int.reduceToNat] <;> (repeat' first | rfl | apply And.intro)) ?_
      rintro _ _ ⟨rfl, S1, H1, rfl, e1, e2, e3, e4⟩
      have hl1 := e2.len
      unfold chO
      repeat' first | ((first | refine Br.dec ?_ ?_ | refine Br.eqi ?_ ?_) <;> intro h <;> try (exfalso; omega)) | (simp (disch := first | omega | (simp only [vlen]; first | done | omega)) only [vit, ↓vAq, vBq, ↓reduceIte, Nat.reduceBEq, Nat.reduceEqDiff, Nat.reduceLT, Nat.reduceLeDiff, Nat.reduceAdd, Nat.reduceMul, Nat.reduceSub, reduceCtorEq, Int.reduceToNat]) | (refine Br.mk ?_ ?_ <;> intro h) | (refine BrN.mk (fun h => ?_) ?_) | (refine AltVC.mk ?_ ?_)
      refine LoopVC.mk (X := Nat × List (List It) × List (List Ha)) (fun z => [(45, iv .i64 z.1)]) (fun z => chB g z.2.1 z.2.2) (fun z => w.length + 1 - z.1)
        (fun z => z.1 ≤ w.length ∧ HI z.2.1 z.2.2 ∧ Snd g w z.2.1 ∧ Dn g w z.1 z.2.1) (0, S1, H1) ⟨Nat.zero_le _, e1, e2, ⟨e4, fun j hj => absurd hj (Nat.not_lt_zero _), fun j hj => absurd hj (Nat.not_lt_zero _)⟩⟩ ?_ ?_
      · unfold chB
        (simp (disch := first | omega | (simp only [vlen]; first | done | omega)) only [Fits_u, Fits_m, Fits_nil, List.length_append, vit, ↓vAq, vBq, ↓reduceIte, Nat.reduceBEq, Nat.reduceEqDiff, Nat.reduceLT, Nat.reduceLeDiff, Nat.reduceAdd, Nat.reduceMul, Nat.reduceSub, reduceCtorEq, Int.reduceToNat] <;> (repeat' first | rfl | apply And.intro))
        all_goals trace_state
      · rintro ⟨i, S2, H2⟩ ⟨k1, k2, k3, k4⟩
        simp only at k1 k2 k3 k4 ⊢
        have hl2 := k3.len
        have hcl := close_spec g w hc S2 H2 k2 k3 i k1
        unfold chB
        repeat' first | ((first | refine Br.dec ?_ ?_ | refine Br.eqi ?_ ?_) <;> intro h <;> try (exfalso; omega)) | (simp (disch := first | omega | (simp only [vlen]; first | done | omega)) only [vit, ↓vAq, vBq, ↓reduceIte, Nat.reduceBEq, Nat.reduceEqDiff, Nat.reduceLT, Nat.reduceLeDiff, Nat.reduceAdd, Nat.reduceMul, Nat.reduceSub, reduceCtorEq, Int.reduceToNat]) | (refine Br.mk ?_ ?_ <;> intro h) | (refine BrN.mk (fun h => ?_) ?_) | (refine AltVC.mk ?_ ?_)
        refine CallVC.lendE [2, 1, 3] [.ptr 0 6 0 0, iv .i64 i] (chO g S2 H2) hcl (by simp) (by rfl) (by unfold chO; simp (disch := first | omega | (simp only [vlen]; first | done | omega)) only [vle0, vit, ↓vAq, vBq, ↓reduceIte, Nat.reduceBEq, Nat.reduceEqDiff, Nat.reduceLT, Nat.reduceLeDiff, Nat.reduceAdd, Nat.reduceMul, Nat.reduceSub, reduceCtorEq, Int.reduceToNat] <;> (repeat' first | rfl | apply And.intro)) ?_
        rintro _ _ ⟨rfl, S3, H3, rfl, f1, f2, f3, f4⟩
        have hl3 := f2.len
        have k5 := k4.ext k3 f3 (Nat.le_refl _)
        have hs3 : (S3.getD i default).length ≤ 650 := hc.small f2 i
        unfold chO
        by_cases hiw : i = w.length
        · subst hiw
          repeat' first | ((first | refine Br.dec ?_ ?_ | refine Br.eqi ?_ ?_) <;> intro h <;> try (exfalso; omega)) | (simp (disch := first | omega | (simp only [vlen]; first | done | omega)) only [vit, ↓vAq, vBq, ↓reduceIte, Nat.reduceBEq, Nat.reduceEqDiff, Nat.reduceLT, Nat.reduceLeDiff, Nat.reduceAdd, Nat.reduceMul, Nat.reduceSub, reduceCtorEq, Int.reduceToNat]) | (refine Br.mk ?_ ?_ <;> intro h) | (refine BrN.mk (fun h => ?_) ?_) | (refine AltVC.mk ?_ ?_)
          exact bu_fin (g := g) (S := S3) (H := H3) (by simp (disch := first | omega | (simp only [vlen]; first | done | omega)) only [vit, ↓vAq, vBq, ↓reduceIte, Nat.reduceBEq, Nat.reduceEqDiff, Nat.reduceLT, Nat.reduceLeDiff, Nat.reduceAdd, Nat.reduceMul, Nat.reduceSub, reduceCtorEq, Int.reduceToNat]) (by unfold buO; simp (disch := first | omega | (simp only [vlen]; first | done | omega)) only [vit, ↓vAq, vBq, ↓reduceIte, Nat.reduceBEq, Nat.reduceEqDiff, Nat.reduceLT, Nat.reduceLeDiff, Nat.reduceAdd, Nat.reduceMul, Nat.reduceSub, reduceCtorEq, Int.reduceToNat]) ⟨by simp (disch := first | omega | (simp only [vlen]; first | done | omega)) only [vit, ↓vAq, vBq, ↓reduceIte, Nat.reduceBEq, Nat.reduceEqDiff, Nat.reduceLT, Nat.reduceLeDiff, Nat.reduceAdd, Nat.reduceMul, Nat.reduceSub, reduceCtorEq, Int.reduceToNat], S3, H3, rfl, f2, k5.clo f4⟩
        · repeat' first | ((first | refine Br.dec ?_ ?_ | refine Br.eqi ?_ ?_) <;> intro h <;> try (exfalso; omega)) | (simp (disch := first | omega | (simp only [vlen]; first | done | omega)) only [vit, ↓vAq, vBq, ↓reduceIte, Nat.reduceBEq, Nat.reduceEqDiff, Nat.reduceLT, Nat.reduceLeDiff, Nat.reduceAdd, Nat.reduceMul, Nat.reduceSub, reduceCtorEq, Int.reduceToNat]) | (refine Br.mk ?_ ?_ <;> intro h) | (refine BrN.mk (fun h => ?_) ?_) | (refine AltVC.mk ?_ ?_)
          by_cases hL : (S3.getD i default).length = 0
          · have hback : (tbl scR S3).set i [.own false 3 (tbl itD (S3.getD i default))] = tbl scR S3 := by rw [sc_set, ss_same (by omega)]
            refine LoopVC.mk (X := Nat) (fun z => [(63, iv .i64 (0 : Nat)), (61, .ref 4 3 0 (S3.getD i default).length)]) (fun z => chC g S3 H3 i (S3.getD i default) .arr) (fun z => 0) (fun z => True) 0 trivial ?_ ?_
            · unfold chC
              (simp (disch := first | omega | (simp only [vlen]; first | done | omega)) only [Fits_u, Fits_m, Fits_nil, List.length_append, vit, ↓vAq, vBq, ↓reduceIte, Nat.reduceBEq, Nat.reduceEqDiff, Nat.reduceLT, Nat.reduceLeDiff, Nat.reduceAdd, Nat.reduceMul, Nat.reduceSub, reduceCtorEq, Int.reduceToNat] <;> (repeat' first | rfl | apply And.intro))
              all_goals trace_state
            · intro z _
              unfold chC
              repeat' first | ((first | refine Br.dec ?_ ?_ | refine Br.eqi ?_ ?_) <;> intro h <;> try (exfalso; omega)) | (simp (disch := first | omega | (simp only [vlen]; first | done | omega)) only [hL, vit, ↓vAq, vBq, ↓reduceIte, Nat.reduceBEq, Nat.reduceEqDiff, Nat.reduceLT, Nat.reduceLeDiff, Nat.reduceAdd, Nat.reduceMul, Nat.reduceSub, reduceCtorEq, Int.reduceToNat]) | (refine Br.mk ?_ ?_ <;> intro h) | (refine BrN.mk (fun h => ?_) ?_) | (refine AltVC.mk ?_ ?_)
              refine loopK.fold 4 1 i 0 true ?_
              repeat' first | ((first | refine Br.dec ?_ ?_ | refine Br.eqi ?_ ?_) <;> intro h <;> try (exfalso; omega)) | (simp (disch := first | omega | (simp only [vlen]; first | done | omega)) only [hback, vit, ↓vAq, vBq, ↓reduceIte, Nat.reduceBEq, Nat.reduceEqDiff, Nat.reduceLT, Nat.reduceLeDiff, Nat.reduceAdd, Nat.reduceMul, Nat.reduceSub, reduceCtorEq, Int.reduceToNat]) | (refine Br.mk ?_ ?_ <;> intro h) | (refine BrN.mk (fun h => ?_) ?_) | (refine AltVC.mk ?_ ?_)
              refine loopK.mk (i + 1, S3, H3) (by simp (disch := first | omega | (simp only [vlen]; first | done | omega)) only [vit, ↓vAq, vBq, ↓reduceIte, Nat.reduceBEq, Nat.reduceEqDiff, Nat.reduceLT, Nat.reduceLeDiff, Nat.reduceAdd, Nat.reduceMul, Nat.reduceSub, reduceCtorEq, Int.reduceToNat]) ⟨by show i + 1 ≤ w.length; omega, f1, f2, ⟨k5.b, fun p hp => by
                by_cases e : p = i
                · subst e; exact f4
                · exact k5.c p (by omega), fun p hp => by
                by_cases e : p = i
                · subst e
                  intro y hy hn
                  obtain ⟨q, hq, rfl⟩ := mem_ix hy
                  have h7 : q < (S3.getD p default).length := hq
                  omega
                · exact k5.s p (by omega)⟩⟩ (by show w.length + 1 - (i + 1) < w.length + 1 - i; omega) ?_
              (simp (disch := first | omega | (simp only [vlen]; first | done | omega)) only [Fits_u, Fits_m, Fits_nil, List.length_append, hback, vit, ↓vAq, vBq, ↓reduceIte, Nat.reduceBEq, Nat.reduceEqDiff, Nat.reduceLT, Nat.reduceLeDiff, Nat.reduceAdd, Nat.reduceMul, Nat.reduceSub, reduceCtorEq, Int.reduceToNat] <;> (repeat' first | rfl | apply And.intro))
              all_goals trace_state
          refine LoopVC.stay 4 ?_
          repeat' first | ((first | refine Br.dec ?_ ?_ | refine Br.eqi ?_ ?_) <;> intro h <;> try (exfalso; omega)) | (simp (disch := first | omega | (simp only [vlen]; first | done | omega)) only [vit, ↓vAq, vBq, ↓reduceIte, Nat.reduceBEq, Nat.reduceEqDiff, Nat.reduceLT, Nat.reduceLeDiff, Nat.reduceAdd, Nat.reduceMul, Nat.reduceSub, reduceCtorEq, Int.reduceToNat]) | (refine Br.mk ?_ ?_ <;> intro h) | (refine BrN.mk (fun h => ?_) ?_) | (refine AltVC.mk ?_ ?_)
          refine LoopVC.mk (X := Nat × List (List It) × List (List Ha)) (fun z => [(63, iv .i64 z.1), (61, .ref 4 3 0 (S3.getD i default).length)]) (fun z => chC g z.2.1 z.2.2 i (S3.getD i default) .fix) (fun z => 651 - z.1)
            (fun z => z.1 ≤ (S3.getD i default).length ∧ HI z.2.1 z.2.2 ∧ Snd g w z.2.1 ∧ Ext (i + 1) S3 z.2.1 ∧ ∀ q, q < z.1 → nxt g ((S3.getD i default).getD q default) = some (w.getD i 0) → (((S3.getD i default).getD q default).1, ((S3.getD i default).getD q default).2.1 + 1, ((S3.getD i default).getD q default).2.2) ∈ z.2.1.getD (i + 1) []) (0, S3, H3) ⟨Nat.zero_le _, f1, f2, .refl, fun q hq => absurd hq (Nat.not_lt_zero _)⟩ ?_ ?_
          · unfold chC
            (simp (disch := first | omega | (simp only [vlen]; first | done | omega)) only [Fits_u, Fits_m, Fits_nil, List.length_append, vit, ↓vAq, vBq, ↓reduceIte, Nat.reduceBEq, Nat.reduceEqDiff, Nat.reduceLT, Nat.reduceLeDiff, Nat.reduceAdd, Nat.reduceMul, Nat.reduceSub, reduceCtorEq, Int.reduceToNat] <;> (repeat' first | rfl | apply And.intro))
            all_goals trace_state
          · rintro ⟨j, S4, H4⟩ ⟨m1, m2, m3, m4, m5⟩
            simp only at m1 m2 m3 m4 m5 ⊢
            have hl4 := m3.len
            have hrow : S4.getD i default = S3.getD i default := m4.oth i (by omega)
            have hrow' : S4.getD i [] = S3.getD i [] := hrow
            unfold chC
            by_cases hlt : j < (S3.getD i default).length
            · have hxE : Ear g w i ((S3.getD i default).getD j default) := f2.ear _ _ (getD_mem' hlt)
              generalize hx : (S3.getD i default).getD j default = x at *
              obtain ⟨c1, c2, c3, c4, c5, c6, c7⟩ := Ear.bd hc hxE
              have hnx := next2_spec g S4 H4 i x c1 c2
              cases hny : nxt g x with
              | none =>
                rw [nxD_none hny] at hnx
                repeat' first | ((first | refine Br.dec ?_ ?_ | refine Br.eqi ?_ ?_) <;> intro h <;> try (exfalso; omega)) | (simp (disch := first | omega | (simp only [vlen]; first | done | omega)) only [hx, vit, ↓vAq, vBq, ↓reduceIte, Nat.reduceBEq, Nat.reduceEqDiff, Nat.reduceLT, Nat.reduceLeDiff, Nat.reduceAdd, Nat.reduceMul, Nat.reduceSub, reduceCtorEq, Int.reduceToNat]) | (refine Br.mk ?_ ?_ <;> intro h) | (refine BrN.mk (fun h => ?_) ?_) | (refine AltVC.mk ?_ ?_)
                refine CallVC.lendE [2, 1, 3, 4] [.ptr 0 6 0 0, .ag (itD x)] (chP g S4 H4 i) hnx (by simp) (by rfl) (by unfold chP; simp (disch := first | omega | (simp only [vlen]; first | done | omega)) only [vle0, hrow, pr_ren, vit, ↓vAq, vBq, ↓reduceIte, Nat.reduceBEq, Nat.reduceEqDiff, Nat.reduceLT, Nat.reduceLeDiff, Nat.reduceAdd, Nat.reduceMul, Nat.reduceSub, reduceCtorEq, Int.reduceToNat] <;> (repeat' first | rfl | apply And.intro)) ?_
                rintro _ _ ⟨rfl, rfl⟩
                unfold chP
                repeat' first | ((first | refine Br.dec ?_ ?_ | refine Br.eqi ?_ ?_) <;> intro h <;> try (exfalso; omega)) | (simp (disch := first | omega | (simp only [vlen]; first | done | omega)) only [hrow, pr_ren, vit, ↓vAq, vBq, ↓reduceIte, Nat.reduceBEq, Nat.reduceEqDiff, Nat.reduceLT, Nat.reduceLeDiff, Nat.reduceAdd, Nat.reduceMul, Nat.reduceSub, reduceCtorEq, Int.reduceToNat]) | (refine Br.mk ?_ ?_ <;> intro h) | (refine BrN.mk (fun h => ?_) ?_) | (refine AltVC.mk ?_ ?_)
                refine loopK.mk (j + 1, S4, H4) (by simp (disch := first | omega | (simp only [vlen]; first | done | omega)) only [vit, ↓vAq, vBq, ↓reduceIte, Nat.reduceBEq, Nat.reduceEqDiff, Nat.reduceLT, Nat.reduceLeDiff, Nat.reduceAdd, Nat.reduceMul, Nat.reduceSub, reduceCtorEq, Int.reduceToNat]) ⟨by show j + 1 ≤ (S3.getD i default).length; omega, m2, m3, m4, fun q hq hl => by
                  by_cases e : q = j
                  · subst e; rw [hx, hny] at hl; cases hl
                  · exact m5 q (by omega) hl⟩ (by show 651 - (j + 1) < 651 - j; omega) ?_
                (simp (disch := first | omega | (simp only [vlen]; first | done | omega)) only [Fits_u, Fits_m, Fits_nil, List.length_append, hrow, sr_trim, pr_ren, vit, ↓vAq, vBq, ↓reduceIte, Nat.reduceBEq, Nat.reduceEqDiff, Nat.reduceLT, Nat.reduceLeDiff, Nat.reduceAdd, Nat.reduceMul, Nat.reduceSub, reduceCtorEq, Int.reduceToNat] <;> (repeat' first | rfl | apply And.intro))
                all_goals trace_state
              | some c =>
                rw [nxD_some hny] at hnx
                repeat' first | ((first | refine Br.dec ?_ ?_ | refine Br.eqi ?_ ?_) <;> intro h <;> try (exfalso; omega)) | (simp (disch := first | omega | (simp only [vlen]; first | done | omega)) only [hx, vit, ↓vAq, vBq, ↓reduceIte, Nat.reduceBEq, Nat.reduceEqDiff, Nat.reduceLT, Nat.reduceLeDiff, Nat.reduceAdd, Nat.reduceMul, Nat.reduceSub, reduceCtorEq, Int.reduceToNat]) | (refine Br.mk ?_ ?_ <;> intro h) | (refine BrN.mk (fun h => ?_) ?_) | (refine AltVC.mk ?_ ?_)
                refine CallVC.lendE [2, 1, 3, 4] [.ptr 0 6 0 0, .ag (itD x)] (chP g S4 H4 i) hnx (by simp) (by rfl) (by unfold chP; simp (disch := first | omega | (simp only [vlen]; first | done | omega)) only [vle0, hrow, pr_ren, vit, ↓vAq, vBq, ↓reduceIte, Nat.reduceBEq, Nat.reduceEqDiff, Nat.reduceLT, Nat.reduceLeDiff, Nat.reduceAdd, Nat.reduceMul, Nat.reduceSub, reduceCtorEq, Int.reduceToNat] <;> (repeat' first | rfl | apply And.intro)) ?_
                rintro _ _ ⟨rfl, rfl⟩
                unfold chP
                by_cases hcw : c = w.getD i 0
                · have hE : Ear g w (i + 1) (x.1, x.2.1 + 1, x.2.2) := .scan hxE (by omega) (by rw [hny, hcw])
                  obtain ⟨d1, d2, d3, d4, d5, d6, d7⟩ := Ear.bd hc hE
                  have hsm : (S4.getD (i + 1) []).length ≤ 650 := hc.small m3 (i + 1)
                  have had := add2_spec g S4 H4 m2 i (i + 1) (by omega) (by omega) (by omega) (x.1, x.2.1 + 1, x.2.2) ⟨d5, d6, d7⟩
                  repeat' first | ((first | refine Br.dec ?_ ?_ | refine Br.eqi ?_ ?_) <;> intro h <;> try (exfalso; omega)) | (simp (disch := first | omega | (simp only [vlen]; first | done | omega)) only [hrow, pr_ren, vit, ↓vAq, vBq, ↓reduceIte, Nat.reduceBEq, Nat.reduceEqDiff, Nat.reduceLT, Nat.reduceLeDiff, Nat.reduceAdd, Nat.reduceMul, Nat.reduceSub, reduceCtorEq, Int.reduceToNat]) | (refine Br.mk ?_ ?_ <;> intro h) | (refine BrN.mk (fun h => ?_) ?_) | (refine AltVC.mk ?_ ?_)
                  refine CallVC.lendE [2, 1, 3, 4] [.ptr 0 6 0 0, iv .i64 (i + 1 : Nat), .ag (itD (x.1, x.2.1 + 1, x.2.2))] (chP g S4 H4 i) had (by simp) (by rfl) (by unfold chP; simp (disch := first | omega | (simp only [vlen]; first | done | omega)) only [vle0, hrow, pr_ren, vit, ↓vAq, vBq, ↓reduceIte, Nat.reduceBEq, Nat.reduceEqDiff, Nat.reduceLT, Nat.reduceLeDiff, Nat.reduceAdd, Nat.reduceMul, Nat.reduceSub, reduceCtorEq, Int.reduceToNat] <;> (repeat' first | rfl | apply And.intro)) ?_
                  rintro _ _ ⟨rfl, H5, rfl, n6⟩
                  have hxt := addS_ext (S := S4) (i := i + 1) (x := (x.1, x.2.1 + 1, x.2.2)) (by omega)
                  have hl5 := hxt.len
                  have hrow5 : (addS S4 (i + 1) (x.1, x.2.1 + 1, x.2.2)).getD i default = S3.getD i default := (hxt.oth i (by omega)).trans hrow
                  unfold chP
                  repeat' first | ((first | refine Br.dec ?_ ?_ | refine Br.eqi ?_ ?_) <;> intro h <;> try (exfalso; omega)) | (simp (disch := first | omega | (simp only [vlen]; first | done | omega)) only [hrow5, pr_ren, vit, ↓vAq, vBq, ↓reduceIte, Nat.reduceBEq, Nat.reduceEqDiff, Nat.reduceLT, Nat.reduceLeDiff, Nat.reduceAdd, Nat.reduceMul, Nat.reduceSub, reduceCtorEq, Int.reduceToNat]) | (refine Br.mk ?_ ?_ <;> intro h) | (refine BrN.mk (fun h => ?_) ?_) | (refine AltVC.mk ?_ ?_)
                  refine loopK.mk (j + 1, addS S4 (i + 1) (x.1, x.2.1 + 1, x.2.2), H5) (by simp (disch := first | omega | (simp only [vlen]; first | done | omega)) only [vit, ↓vAq, vBq, ↓reduceIte, Nat.reduceBEq, Nat.reduceEqDiff, Nat.reduceLT, Nat.reduceLeDiff, Nat.reduceAdd, Nat.reduceMul, Nat.reduceSub, reduceCtorEq, Int.reduceToNat]) ⟨by show j + 1 ≤ (S3.getD i default).length; omega, n6, m3.add hE, m4.trans hxt, fun q hq hl => by
                    by_cases e : q = j
                    · subst e; rw [hx]; exact addS_mem (by omega)
                    · exact hxt.sub (m5 q (by omega) hl)⟩ (by show 651 - (j + 1) < 651 - j; omega) ?_
                  (simp (disch := first | omega | (simp only [vlen]; first | done | omega)) only [Fits_u, Fits_m, Fits_nil, List.length_append, hrow5, sr_trim, pr_ren, vit, ↓vAq, vBq, ↓reduceIte, Nat.reduceBEq, Nat.reduceEqDiff, Nat.reduceLT, Nat.reduceLeDiff, Nat.reduceAdd, Nat.reduceMul, Nat.reduceSub, reduceCtorEq, Int.reduceToNat] <;> (repeat' first | rfl | apply And.intro))
                  all_goals trace_state
                · repeat' first | ((first | refine Br.dec ?_ ?_ | refine Br.eqi ?_ ?_) <;> intro h <;> try (exfalso; omega)) | (simp (disch := first | omega | (simp only [vlen]; first | done | omega)) only [hrow, pr_ren, vit, ↓vAq, vBq, ↓reduceIte, Nat.reduceBEq, Nat.reduceEqDiff, Nat.reduceLT, Nat.reduceLeDiff, Nat.reduceAdd, Nat.reduceMul, Nat.reduceSub, reduceCtorEq, Int.reduceToNat]) | (refine Br.mk ?_ ?_ <;> intro h) | (refine BrN.mk (fun h => ?_) ?_) | (refine AltVC.mk ?_ ?_)
                  refine loopK.mk (j + 1, S4, H4) (by simp (disch := first | omega | (simp only [vlen]; first | done | omega)) only [vit, ↓vAq, vBq, ↓reduceIte, Nat.reduceBEq, Nat.reduceEqDiff, Nat.reduceLT, Nat.reduceLeDiff, Nat.reduceAdd, Nat.reduceMul, Nat.reduceSub, reduceCtorEq, Int.reduceToNat]) ⟨by show j + 1 ≤ (S3.getD i default).length; omega, m2, m3, m4, fun q hq hl => by
                    by_cases e : q = j
                    · subst e; rw [hx, hny] at hl; exact absurd (Option.some.inj hl) hcw
                    · exact m5 q (by omega) hl⟩ (by show 651 - (j + 1) < 651 - j; omega) ?_
                  (simp (disch := first | omega | (simp only [vlen]; first | done | omega)) only [Fits_u, Fits_m, Fits_nil, List.length_append, hrow, sr_trim, pr_ren, vit, ↓vAq, vBq, ↓reduceIte, Nat.reduceBEq, Nat.reduceEqDiff, Nat.reduceLT, Nat.reduceLeDiff, Nat.reduceAdd, Nat.reduceMul, Nat.reduceSub, reduceCtorEq, Int.reduceToNat] <;> (repeat' first | rfl | apply And.intro))
                  all_goals trace_state
            · have hback : (tbl scR S4).set i [.own false 3 (tbl itD (S3.getD i default))] = tbl scR S4 := by rw [sc_set, ← hrow, ss_same (by omega)]
              have k6 := k5.ext f2 m4 (by omega)
              repeat' first | ((first | refine Br.dec ?_ ?_ | refine Br.eqi ?_ ?_) <;> intro h <;> try (exfalso; omega)) | (simp (disch := first | omega | (simp only [vlen]; first | done | omega)) only [vit, ↓vAq, vBq, ↓reduceIte, Nat.reduceBEq, Nat.reduceEqDiff, Nat.reduceLT, Nat.reduceLeDiff, Nat.reduceAdd, Nat.reduceMul, Nat.reduceSub, reduceCtorEq, Int.reduceToNat]) | (refine Br.mk ?_ ?_ <;> intro h) | (refine BrN.mk (fun h => ?_) ?_) | (refine AltVC.mk ?_ ?_)
              refine loopK.fold 4 1 i 0 true ?_
              repeat' first | ((first | refine Br.dec ?_ ?_ | refine Br.eqi ?_ ?_) <;> intro h <;> try (exfalso; omega)) | (simp (disch := first | omega | (simp only [vlen]; first | done | omega)) only [hback, vit, ↓vAq, vBq, ↓reduceIte, Nat.reduceBEq, Nat.reduceEqDiff, Nat.reduceLT, Nat.reduceLeDiff, Nat.reduceAdd, Nat.reduceMul, Nat.reduceSub, reduceCtorEq, Int.reduceToNat]) | (refine Br.mk ?_ ?_ <;> intro h) | (refine BrN.mk (fun h => ?_) ?_) | (refine AltVC.mk ?_ ?_)
              refine loopK.mk (i + 1, S4, H4) (by simp (disch := first | omega | (simp only [vlen]; first | done | omega)) only [vit, ↓vAq, vBq, ↓reduceIte, Nat.reduceBEq, Nat.reduceEqDiff, Nat.reduceLT, Nat.reduceLeDiff, Nat.reduceAdd, Nat.reduceMul, Nat.reduceSub, reduceCtorEq, Int.reduceToNat]) ⟨by show i + 1 ≤ w.length; omega, m2, m3, ⟨k6.b, fun p hp => by
                by_cases e : p = i
                · subst e; exact f4.ext f2 m4 (by omega)
                · exact k6.c p (by omega), fun p hp => by
                by_cases e : p = i
                · subst e
                  intro y hy hn
                  rw [hrow'] at hy
                  obtain ⟨q, hq, rfl⟩ := mem_ix hy
                  exact m5 q (by have h7 : q < (S3.getD p default).length := hq; omega) hn
                · exact k6.s p (by omega)⟩⟩ (by show w.length + 1 - (i + 1) < w.length + 1 - i; omega) ?_
              (simp (disch := first | omega | (simp only [vlen]; first | done | omega)) only [Fits_u, Fits_m, Fits_nil, List.length_append, hback, vit, ↓vAq, vBq, ↓reduceIte, Nat.reduceBEq, Nat.reduceEqDiff, Nat.reduceLT, Nat.reduceLeDiff, Nat.reduceAdd, Nat.reduceMul, Nat.reduceSub, reduceCtorEq, Int.reduceToNat] <;> (repeat' first | rfl | apply And.intro))
              all_goals trace_state
end Go.Proofs.Ythjpahmcgpnogaa

namespace Go.Dm
set_option linter.unusedSimpArgs false
set_option linter.unusedVariables false
inductive Der (g : Grammar) (w : List Int) : List Int → Nat → Nat → Prop
  | nil {i : Nat} : Der g w [] i i
  | sym {x : Int} {s : List Int} {i j : Nat} (hx : x < g.k) (hi : i < w.length) (hw : w.getD i 0 = x) (h : Der g w s (i + 1) j) : Der g w (x :: s) i j
  | name {x : Int} {s : List Int} {i m j q : Nat} (hx : ¬ x < g.k) (hq : q < g.rules.length) (hl : (g.rules.getD q default).left = x - g.k) (h1 : Der g w (g.rules.getD q default).right i m) (h2 : Der g w s m j) : Der g w (x :: s) i j
theorem Der.le {g : Grammar} {w : List Int} {s : List Int} {i j : Nat} (h : Der g w s i j) : i ≤ j ∧ (i ≤ w.length → j ≤ w.length) := by
  induction h with
  | nil => exact ⟨Nat.le_refl _, fun h => h⟩
  | sym _ hi _ _ ih => exact ⟨by omega, fun _ => ih.2 (by omega)⟩
  | name _ _ _ _ _ ih1 ih2 => exact ⟨by omega, fun h => ih2.2 (ih1.2 h)⟩
theorem Der.app {g : Grammar} {w : List Int} {a b : List Int} {i m j : Nat} (h : Der g w a i m) (k : Der g w b m j) : Der g w (a ++ b) i j := by
  induction h with
  | nil => exact k
  | sym hx hi hw _ ih => exact .sym hx hi hw (ih k)
  | name hx hq hl h1 _ _ ih2 => exact .name hx hq hl h1 (ih2 k)
theorem Der.cons {g : Grammar} {w : List Int} {x : Int} {s : List Int} {i j : Nat} (h : Der g w (x :: s) i j) : ∃ m, Der g w [x] i m ∧ Der g w s m j := by
  cases h with
  | sym hx hi hw h => exact ⟨_, .sym hx hi hw .nil, h⟩
  | name hx hq hl h1 h2 => exact ⟨_, .name hx hq hl h1 .nil, h2⟩
theorem Der.split {g : Grammar} {w : List Int} {b : List Int} : ∀ {a : List Int} {i j : Nat}, Der g w (a ++ b) i j → ∃ m, Der g w a i m ∧ Der g w b m j
  | [], i, j, h => ⟨i, .nil, h⟩
  | x :: a, i, j, h => by
    obtain ⟨m, h1, h2⟩ := Der.cons (s := a ++ b) h
    obtain ⟨m', h3, h4⟩ := Der.split h2
    exact ⟨m', Der.app h1 h3, h4⟩
theorem der_sym {g : Grammar} {w : List Int} {x : Int} {i j : Nat} (hx : x < g.k) : Der g w [x] i j ↔ j = i + 1 ∧ i < w.length ∧ w.getD i 0 = x := by
  constructor
  · intro h
    cases h with
    | sym _ hi hw h => cases h; exact ⟨rfl, hi, hw⟩
    | name h => exact absurd hx h
  · rintro ⟨rfl, hi, hw⟩; exact .sym hx hi hw .nil
theorem der_name {g : Grammar} {w : List Int} {x : Int} {i j : Nat} (hx : ¬ x < g.k) : Der g w [x] i j ↔ ∃ q, q < g.rules.length ∧ (g.rules.getD q default).left = x - g.k ∧ Der g w (g.rules.getD q default).right i j := by
  constructor
  · intro h
    cases h with
    | sym h => exact absurd h hx
    | name _ hq hl h1 h2 => cases h2; exact ⟨_, hq, hl, h1⟩
  · rintro ⟨q, hq, hl, h⟩; exact .name hx hq hl h .nil
def oneB (g : Grammar) (w : List Int) (t : Nat → Nat → Nat → Bool) (x : Int) (i m : Nat) : Bool := if x < g.k then decide (m = i + 1 ∧ i < w.length ∧ w.getD i 0 = x) else t (x - g.k).toNat i m
def ovB (g : Grammar) (w : List Int) (t : Nat → Nat → Nat → Bool) : List Int → Nat → Nat → Bool
  | [], i, j => decide (i = j)
  | x :: s, i, j => (List.range (j + 1)).any fun m => decide (i ≤ m) && oneB g w t x i m && ovB g w t s m j
theorem ovB_cons {g : Grammar} {w : List Int} {t : Nat → Nat → Nat → Bool} {x : Int} {s : List Int} {i j : Nat} : ovB g w t (x :: s) i j = true ↔ ∃ m, i ≤ m ∧ m ≤ j ∧ oneB g w t x i m = true ∧ ovB g w t s m j = true := by
  simp only [ovB, List.any_eq_true, List.mem_range, Bool.and_eq_true, decide_eq_true_eq]
  constructor
  · rintro ⟨m, h1, ⟨h2, h3⟩, h4⟩; exact ⟨m, h2, by omega, h3, h4⟩
  · rintro ⟨m, h1, h2, h3, h4⟩; exact ⟨m, by omega, ⟨h1, h3⟩, h4⟩
theorem ovB_sound {g : Grammar} {w : List Int} {t : Nat → Nat → Nat → Bool} (hs : ∀ a i j, i ≤ j → t a i j = true → Der g w [g.k + a] i j) : ∀ {s : List Int} {i j : Nat}, ovB g w t s i j = true → Der g w s i j
  | [], i, j, h => by have : i = j := by simpa [ovB] using h
                      subst this; exact .nil
  | x :: s, i, j, h => by
    obtain ⟨m, h1, h2, h3, h4⟩ := ovB_cons.mp h
    have k := ovB_sound hs h4
    unfold oneB at h3
    split at h3
    · next hx =>
      have h5 := of_decide_eq_true h3
      exact Der.app ((der_sym hx).mpr h5) k
    · next hx =>
      have h5 := hs _ _ _ h1 h3
      rw [show g.k + ((x - g.k).toNat : Int) = x by omega] at h5
      exact Der.app h5 k
theorem ovB_all {g : Grammar} {w : List Int} {t : Nat → Nat → Nat → Bool} (hc : ∀ q, q < g.rules.length → ∀ i j, i ≤ j → j ≤ w.length → ovB g w t (g.rules.getD q default).right i j = true → t (g.rules.getD q default).left.toNat i j = true)
    {s : List Int} {i j : Nat} (h : Der g w s i j) : i ≤ w.length → ovB g w t s i j = true := by
  induction h with
  | nil => intro _; simp [ovB]
  | sym hx hi hw h ih =>
    intro _
    exact ovB_cons.mpr ⟨_, Nat.le_succ _, h.le.1, by unfold oneB; rw [if_pos hx]; exact decide_eq_true ⟨rfl, hi, hw⟩, ih (by omega)⟩
  | name hx hq hl h1 h2 ih1 ih2 =>
    intro hi
    have hm := h1.le.2 hi
    refine ovB_cons.mpr ⟨_, h1.le.1, h2.le.1, ?_, ih2 hm⟩
    unfold oneB
    rw [if_neg hx, ← hl]
    exact hc _ hq _ _ h1.le.1 hm (ih1 hi)
end Go.Dm

namespace Go.Dm
set_option linter.unusedSimpArgs false
set_option linter.unusedVariables false
set_option linter.unnecessarySimpa false
structure GW (g : Grammar) (w : List Int) : Prop where
  k : ∀ i, i < w.length → w.getD i 0 < g.k
  l : ∀ r, r < g.rules.length → 0 ≤ lft g r
theorem take_nxt {g : Grammar} {x : It} {s : Int} (h : nxt g x = some s) : (rgt g x.1).take (x.2.1 + 1) = (rgt g x.1).take x.2.1 ++ [s] := by
  rw [List.take_add_one]; unfold nxt at h; rw [h]; rfl
theorem drop_nxt {g : Grammar} {r d f : Nat} {x : Int} {s : List Int} (h : (rgt g r).drop d = x :: s) : nxt g (r, d, f) = some x ∧ (rgt g r).drop (d + 1) = s := by
  constructor
  · unfold nxt
    have : ((rgt g r).drop d)[0]? = some x := by rw [h]; rfl
    rw [List.getElem?_drop] at this
    simpa using this
  · rw [show d + 1 = d + 1 from rfl, ← List.drop_drop, h]; rfl
theorem Ear.snd {g : Grammar} {w : List Int} (hw : GW g w) {i : Nat} {x : It} (h : Ear g w i x) : Der g w ((rgt g x.1).take x.2.1) x.2.2 i := by
  induction h with
  | start hr hl => rw [List.take_zero]; exact .nil
  | pred h hx hr ih => rw [List.take_zero]; exact .nil
  | @scan i x h hi hx ih =>
    rw [take_nxt hx]
    exact ih.app ((der_sym (hw.k i hi)).2 ⟨rfl, hi, rfl⟩)
  | @comp i x y h hx hy hn ih1 ih2 =>
    rw [take_nxt hn]
    refine ih2.app ((der_name (by have := hw.l x.1 h.wi.1; omega)).2 ⟨x.1, h.wi.1, by show lft g x.1 = _; omega, ?_⟩)
    have := nxt_none hx
    rw [List.take_of_length_le this] at ih1
    exact ih1
theorem Ear.cmp {g : Grammar} {w : List Int} {s : List Int} {i j : Nat} (hd : Der g w s i j) : ∀ r d f, Ear g w i (r, d, f) → (rgt g r).drop d = s → Ear g w j (r, d + s.length, f) := by
  induction hd with
  | nil => intro r d f h _; exact h
  | @sym x s i j hx hi hw h ih =>
    intro r d f he hs
    obtain ⟨h1, h2⟩ := drop_nxt (f := f) hs
    have := ih r (d + 1) f (he.scan hi (by rw [h1, hw])) h2
    rw [List.length_cons, show d + (s.length + 1) = d + 1 + s.length by omega]; exact this
  | @name x s i m j q hx hq hl h1 h2 ih1 ih2 =>
    intro r d f he hs
    obtain ⟨h3, h4⟩ := drop_nxt (f := f) hs
    have hlx : x = g.k + lft g q := by have : lft g q = x - g.k := hl; omega
    have h5 : Ear g w i (q, 0, i) := he.pred (by rw [h3, hlx]) hq
    have h6 := ih1 q 0 i h5 List.drop_zero
    have h7 : nxt g (q, 0 + (g.rules.getD q default).right.length, i) = none := List.getElem?_eq_none_iff.2 (by show (g.rules.getD q default).right.length ≤ 0 + _; omega)
    have h8 := ih2 r (d + 1) f (.comp h6 h7 he (by rw [h3, hlx])) h4
    rw [List.length_cons, show d + (s.length + 1) = d + 1 + s.length by omega]; exact h8
def takB (g : Grammar) (x : It) : Bool := (nxt g x).isNone && (decide (x.2.2 = 0) && decide (lft g x.1 = g.start))
theorem tak_iff {g : Grammar} {w : List Int} (hw : GW g w) (h0 : 0 ≤ g.start) {S : List (List It)} (hs : Snd g w S) (hc : Clo g w S) : (S.getD w.length []).any (takB g) = true ↔ Der g w [g.k + g.start] 0 w.length := by
  rw [List.any_eq_true, der_name (by omega)]
  constructor
  · rintro ⟨x, hx, ht⟩
    simp only [takB, Bool.and_eq_true, decide_eq_true_eq, Option.isNone_iff_eq_none] at ht
    have hE := hs.ear _ x hx
    have hd := hE.snd hw
    rw [List.take_of_length_le (nxt_none ht.1), ht.2.1] at hd
    exact ⟨x.1, hE.wi.1, by show lft g x.1 = _; omega, hd⟩
  · rintro ⟨q, hq, hl, hd⟩
    have hl' : lft g q = g.start := by have : lft g q = g.k + g.start - g.k := hl; omega
    have h1 := Ear.cmp hd q 0 0 (.start hq hl') List.drop_zero
    refine ⟨_, hc.all h1, ?_⟩
    simp only [takB, Bool.and_eq_true, decide_eq_true_eq, Option.isNone_iff_eq_none]
    exact ⟨List.getElem?_eq_none_iff.2 (by show (g.rules.getD q default).right.length ≤ 0 + _; omega), trivial, hl'⟩
end Go.Dm

namespace Go.Proofs.Ythjpahmcgpnogaa
open Go.Dm
set_option linter.unusedSimpArgs false
set_option linter.unnecessarySimpa false
set_option linter.unusedVariables false
structure VM (m : Dm.Machine) : Prop where
  n : 1 ≤ m.n ∧ m.n ≤ 7
  k : 1 ≤ m.k ∧ m.k ≤ 3
  len : (m.next.length : Int) = m.n
  row : ∀ l, l ∈ m.next → (l.length : Int) = m.k
  to : ∀ l, l ∈ m.next → ∀ x, x ∈ l → 0 ≤ x ∧ x < m.n
  start : 0 ≤ m.start ∧ m.start < m.n
  final : 0 ≤ m.final ∧ m.final.toNat < 2 ^ m.n.toNat
set_option maxRecDepth 10000 in
set_option maxHeartbeats 4000000 in
theorem within_spec (n lo hi : Int) : Dm.Spec Try.prog 86 [iv .i64 n, iv .i64 lo, iv .i64 hi] (· = .v (.bool (decide (lo ≤ n ∧ n ≤ hi)))) := by
  refine spec_of_vc mixed Try.func86 c86 (by rw [show Try.f86.ntmps = _ from Try.ntmps86]; simp) ?_
  unfold m86 r86
  repeat' first | ((first | refine Br.dec ?_ ?_ | refine Br.eqi ?_ ?_) <;> intro h <;> try (exfalso; omega)) | (simp (disch := first | omega | (simp only [vlen]; first | done | omega)) only [↓vAq, vBq, ↓reduceIte, Nat.reduceBEq, Nat.reduceEqDiff, Nat.reduceLT, Nat.reduceLeDiff, Nat.reduceAdd, Nat.reduceMul, Nat.reduceSub, reduceCtorEq, Int.reduceToNat]) | (refine Br.mk ?_ ?_ <;> intro h) | (refine BrN.mk (fun h => ?_) ?_) | (refine AltVC.mk ?_ ?_)
  · exact fin_mk (vbEq (dec_iff (by omega)))
  · exact fin_mk (vbEq (decide_eq_false (by omega)).symm)
end Go.Proofs.Ythjpahmcgpnogaa

namespace Go.Proofs.Ythjpahmcgpnogaa
open Go.Dm
set_option linter.unusedSimpArgs false
set_option linter.unnecessarySimpa false
set_option linter.unusedVariables false
def badSym (k s : Int) : Bool := decide (s < 0 ∨ k ≤ s)
def wcode (k : Int) (w : List Int) : Int := if 12 < (w.length : Int) then 1 else if w.any (badSym k) = true then 2 else 0
theorem getD_ok {k : Int} {w : List Int} (hk : 1 ≤ k) (h : ∀ s, s ∈ w → 0 ≤ s ∧ s < k) (i : Nat) : 0 ≤ w.getD i 0 ∧ w.getD i 0 < k := by
  by_cases hi : i < w.length
  · exact h _ (getD_mem' hi)
  · rw [show w.getD i 0 = 0 by simp [List.getD, show w[i]? = none from List.getElem?_eq_none (by omega)]]; omega
def mstep (m : Dm.Machine) (p s : Int) : Int := (m.next.getD p.toNat default).getD s.toNat 0
def leads (m : Dm.Machine) (p : Int) (w : List Int) : Int := w.foldl (mstep m) p
theorem VM.st {m : Dm.Machine} (hv : VM m) {p s : Int} (hp : 0 ≤ p ∧ p < m.n) : 0 ≤ mstep m p s ∧ mstep m p s < m.n := by
  have := hv.len
  exact getD_ok (by have := hv.n; omega) (hv.to _ (getD_mem' (by omega))) _
set_option maxRecDepth 10000 in
set_option maxHeartbeats 4000000 in
theorem wsym_spec (k : Int) (hk : 0 ≤ k ∧ k ≤ 3) (s : Int) : Dm.Spec Try.prog 85 [iv .i64 s, .ip [iv .i64 k] 0] (· = .v (.bool (badSym k s))) := by
  refine spec_of_vc mixed Try.func85 c85 (by rw [show Try.f85.ntmps = _ from Try.ntmps85]; simp) ?_
  unfold m85 r85
  repeat' first | ((first | refine Br.dec ?_ ?_ | refine Br.eqi ?_ ?_) <;> intro h <;> try (exfalso; omega)) | (simp (disch := first | omega | (simp only [vlen]; first | done | omega)) only [↓vAq, vBq, ↓reduceIte, Nat.reduceBEq, Nat.reduceEqDiff, Nat.reduceLT, Nat.reduceLeDiff, Nat.reduceAdd, Nat.reduceMul, Nat.reduceSub, reduceCtorEq, Int.reduceToNat]) | (refine Br.mk ?_ ?_ <;> intro h) | (refine BrN.mk (fun h => ?_) ?_) | (refine AltVC.mk ?_ ?_)
  refine CallVC.eq (within_spec _ _ _) ?_
  repeat' first | ((first | refine Br.dec ?_ ?_ | refine Br.eqi ?_ ?_) <;> intro h <;> try (exfalso; omega)) | (simp (disch := first | omega | (simp only [vlen]; first | done | omega)) only [↓vAq, vBq, ↓reduceIte, Nat.reduceBEq, Nat.reduceEqDiff, Nat.reduceLT, Nat.reduceLeDiff, Nat.reduceAdd, Nat.reduceMul, Nat.reduceSub, reduceCtorEq, Int.reduceToNat]) | (refine Br.mk ?_ ?_ <;> intro h) | (refine BrN.mk (fun h => ?_) ?_) | (refine AltVC.mk ?_ ?_)
  refine fin_mk (vbEq ?_)
  unfold badSym
  rw [← decide_not]
  exact dec_iff (by omega)
set_option maxRecDepth 10000 in
set_option maxHeartbeats 4000000 in
theorem word_spec (k : Int) (hk : 0 ≤ k ∧ k ≤ 3) (w : List Int) (hw : w.length ≤ 9223372036854775807) : Dm.Spec Try.prog 74 [iv .i64 k, .sl 1 (i64s w)] (· = iv .i64 (wcode k w)) := by
  refine spec_of_vc mixed Try.func74 c74 (by rw [show Try.f74.ntmps = _ from Try.ntmps74]; simp) ?_
  unfold m74 r74
  repeat' first | ((first | refine Br.dec ?_ ?_ | refine Br.eqi ?_ ?_) <;> intro h <;> try (exfalso; omega)) | (simp (disch := first | omega | (simp only [vlen]; first | done | omega)) only [↓vAq, vBq, ↓reduceIte, Nat.reduceBEq, Nat.reduceEqDiff, Nat.reduceLT, Nat.reduceLeDiff, Nat.reduceAdd, Nat.reduceMul, Nat.reduceSub, reduceCtorEq, Int.reduceToNat]) | (refine Br.mk ?_ ?_ <;> intro h) | (refine BrN.mk (fun h => ?_) ?_) | (refine AltVC.mk ?_ ?_)
  · exact fin_mk (by rw [wcode, if_pos (by assumption)])
  · refine CallVC.eqo (conF_int w (badSym k) _ [.ip [iv .i64 k] 0] hw (by simp (disch := first | omega | (simp only [vlen]; first | done | omega)) only [↓vAq, vBq, ↓reduceIte, Nat.reduceBEq, Nat.reduceEqDiff, Nat.reduceLT, Nat.reduceLeDiff, Nat.reduceAdd, Nat.reduceMul, Nat.reduceSub, reduceCtorEq, Int.reduceToNat]) fun s _ => wsym_spec k hk s) (by simp (disch := first | omega | (simp only [vlen]; first | done | omega)) only [↓vAq, vBq, ↓reduceIte, Nat.reduceBEq, Nat.reduceEqDiff, Nat.reduceLT, Nat.reduceLeDiff, Nat.reduceAdd, Nat.reduceMul, Nat.reduceSub, reduceCtorEq, Int.reduceToNat]) ?_
    repeat' first | ((first | refine Br.dec ?_ ?_ | refine Br.eqi ?_ ?_) <;> intro h <;> try (exfalso; omega)) | (simp (disch := first | omega | (simp only [vlen]; first | done | omega)) only [↓vAq, vBq, ↓reduceIte, Nat.reduceBEq, Nat.reduceEqDiff, Nat.reduceLT, Nat.reduceLeDiff, Nat.reduceAdd, Nat.reduceMul, Nat.reduceSub, reduceCtorEq, Int.reduceToNat]) | (refine Br.mk ?_ ?_ <;> intro h) | (refine BrN.mk (fun h => ?_) ?_) | (refine AltVC.mk ?_ ?_)
    · exact fin_mk (by rw [wcode, if_neg (by assumption), if_pos (by assumption)])
    · have h2 : w.any (badSym k) = false := by assumption
      exact fin_mk (by rw [wcode, if_neg (by assumption), if_neg (by rw [h2]; simp)])
set_option maxRecDepth 10000 in
set_option maxHeartbeats 4000000 in
theorem refWord_spec (k : Int) (hk : 0 ≤ k ∧ k ≤ 3) (w : List Int) (hw : w.length ≤ 9223372036854775807) : Dm.Spec Try.prog 56 [iv .i64 k, .sl 1 (i64s w)] (· = iv .i64 (wcode k w)) := by
  refine spec_of_vc mixed Try.func56 c56 (by rw [show Try.f56.ntmps = _ from Try.ntmps56]; simp) ?_
  unfold m56 r56
  repeat' first | ((first | refine Br.dec ?_ ?_ | refine Br.eqi ?_ ?_) <;> intro h <;> try (exfalso; omega)) | (simp (disch := first | omega | (simp only [vlen]; first | done | omega)) only [↓vAq, vBq, ↓reduceIte, Nat.reduceBEq, Nat.reduceEqDiff, Nat.reduceLT, Nat.reduceLeDiff, Nat.reduceAdd, Nat.reduceMul, Nat.reduceSub, reduceCtorEq, Int.reduceToNat]) | (refine Br.mk ?_ ?_ <;> intro h) | (refine BrN.mk (fun h => ?_) ?_) | (refine AltVC.mk ?_ ?_)
  · exact fin_mk (by rw [wcode, if_pos (by assumption)])
  · refine LoopVC.mk (X := Nat) (fun i => [(12, iv .i64 i)]) (fun _ => []) (fun i => w.length - i) (fun i => i ≤ w.length ∧ ∀ j, j < i → badSym k (w.getD j 0) = false) 0 ⟨by omega, by omega⟩ ?_ ?_
    · (simp (disch := first | omega | (simp only [vlen]; first | done | omega)) only [Fits_u, Fits_m, Fits_nil, List.length_append, ↓vAq, vBq, ↓reduceIte, Nat.reduceBEq, Nat.reduceEqDiff, Nat.reduceLT, Nat.reduceLeDiff, Nat.reduceAdd, Nat.reduceMul, Nat.reduceSub, reduceCtorEq, Int.reduceToNat] <;> (repeat' first | rfl | apply And.intro))
    · rintro i ⟨h1, h2⟩
      repeat' first | ((first | refine Br.dec ?_ ?_ | refine Br.eqi ?_ ?_) <;> intro h <;> try (exfalso; omega)) | (simp (disch := first | omega | (simp only [vlen]; first | done | omega)) only [↓vAq, vBq, ↓reduceIte, Nat.reduceBEq, Nat.reduceEqDiff, Nat.reduceLT, Nat.reduceLeDiff, Nat.reduceAdd, Nat.reduceMul, Nat.reduceSub, reduceCtorEq, Int.reduceToNat]) | (refine Br.mk ?_ ?_ <;> intro h) | (refine BrN.mk (fun h => ?_) ?_) | (refine AltVC.mk ?_ ?_)
      · exact fin_mk (by rw [wcode, if_neg (by assumption), if_pos (any_hit (p := badSym k) (i := i) (by omega) (decide_eq_true (.inl (by assumption))))])
      · exact fin_mk (by rw [wcode, if_neg (by assumption), if_pos (any_hit (p := badSym k) (i := i) (by omega) (decide_eq_true (.inr (by assumption))))])
      · exact loopK.mk (i + 1) (by simp (disch := first | omega | (simp only [vlen]; first | done | omega)) only [↓vAq, vBq, ↓reduceIte, Nat.reduceBEq, Nat.reduceEqDiff, Nat.reduceLT, Nat.reduceLeDiff, Nat.reduceAdd, Nat.reduceMul, Nat.reduceSub, reduceCtorEq, Int.reduceToNat]) ⟨by omega, succ_all h2 (decide_eq_false (by show ¬ (w.getD i 0 < 0 ∨ k ≤ w.getD i 0); omega))⟩ (by omega) (by (simp (disch := first | omega | (simp only [vlen]; first | done | omega)) only [Fits_u, Fits_m, Fits_nil, List.length_append, ↓vAq, vBq, ↓reduceIte, Nat.reduceBEq, Nat.reduceEqDiff, Nat.reduceLT, Nat.reduceLeDiff, Nat.reduceAdd, Nat.reduceMul, Nat.reduceSub, reduceCtorEq, Int.reduceToNat] <;> (repeat' first | rfl | apply And.intro)))
      · have h3 : w.any (badSym k) = false := any_none (i := i) (by omega) h2
        exact fin_mk (by rw [wcode, if_neg (by assumption), if_neg (by rw [h3]; simp)])
end Go.Proofs.Ythjpahmcgpnogaa

namespace Go.Proofs.Ythjpahmcgpnogaa
open Go.Dm
set_option linter.unusedSimpArgs false
set_option linter.unnecessarySimpa false
set_option linter.unusedVariables false
def gwC (g : Grammar) (w : List Int) : Int := if gcode g = 0 then wcode g.k w else gcode g
set_option maxRecDepth 10000 in
set_option maxHeartbeats 4000000 in
theorem tcheck_spec (g : Grammar) (hg : g.ok) (w : List Int) (hw : w.length ≤ 9223372036854775807) : Dm.Spec Try.prog 54 [.ag (graD g), .sl 1 (i64s w)] (· = iv .i64 (gwC g w)) := by
  refine spec_of_vc mixed Try.func54 c54 (by rw [show Try.f54.ntmps = _ from Try.ntmps54]; simp) ?_
  unfold m54 r54
  unfold gwC
  repeat' first | ((first | refine Br.dec ?_ ?_ | refine Br.eqi ?_ ?_) <;> intro h <;> try (exfalso; omega)) | (simp (disch := first | omega | (simp only [vlen]; first | done | omega)) only [↓vAq, vBq, ↓reduceIte, Nat.reduceBEq, Nat.reduceEqDiff, Nat.reduceLT, Nat.reduceLeDiff, Nat.reduceAdd, Nat.reduceMul, Nat.reduceSub, reduceCtorEq, Int.reduceToNat]) | (refine Br.mk ?_ ?_ <;> intro h) | (refine BrN.mk (fun h => ?_) ?_) | (refine AltVC.mk ?_ ?_)
  refine CallVC.eq (gCheck_spec g hg) ?_
  repeat' first | ((first | refine Br.dec ?_ ?_ | refine Br.eqi ?_ ?_) <;> intro h <;> try (exfalso; omega)) | (simp (disch := first | omega | (simp only [vlen]; first | done | omega)) only [↓vAq, vBq, ↓reduceIte, Nat.reduceBEq, Nat.reduceEqDiff, Nat.reduceLT, Nat.reduceLeDiff, Nat.reduceAdd, Nat.reduceMul, Nat.reduceSub, reduceCtorEq, Int.reduceToNat]) | (refine Br.mk ?_ ?_ <;> intro h) | (refine BrN.mk (fun h => ?_) ?_) | (refine AltVC.mk ?_ ?_)
  · have e : gcode g = 0 := by assumption
    have hk := (valid_of e).k
    refine CallVC.eq (word_spec g.k (by omega) w hw) ?_
    repeat' first | ((first | refine Br.dec ?_ ?_ | refine Br.eqi ?_ ?_) <;> intro h <;> try (exfalso; omega)) | (simp (disch := first | omega | (simp only [vlen]; first | done | omega)) only [↓vAq, vBq, ↓reduceIte, Nat.reduceBEq, Nat.reduceEqDiff, Nat.reduceLT, Nat.reduceLeDiff, Nat.reduceAdd, Nat.reduceMul, Nat.reduceSub, reduceCtorEq, Int.reduceToNat]) | (refine Br.mk ?_ ?_ <;> intro h) | (refine BrN.mk (fun h => ?_) ?_) | (refine AltVC.mk ?_ ?_)
    exact fin_mk (by rw [if_pos e])
  · exact fin_mk (by rw [if_neg (by assumption)])
set_option maxRecDepth 10000 in
set_option maxHeartbeats 4000000 in
theorem wordOf_spec (g : Grammar) (hg : g.ok) (w : List Int) (hw : w.length ≤ 9223372036854775807) : Dm.Spec Try.prog 30 [.ag (graD g), .sl 1 (i64s w)] (· = iv .i64 (gwC g w)) := by
  refine spec_of_vc mixed Try.func30 c30 (by rw [show Try.f30.ntmps = _ from Try.ntmps30]; simp) ?_
  unfold m30 r30
  unfold gwC
  repeat' first | ((first | refine Br.dec ?_ ?_ | refine Br.eqi ?_ ?_) <;> intro h <;> try (exfalso; omega)) | (simp (disch := first | omega | (simp only [vlen]; first | done | omega)) only [↓vAq, vBq, ↓reduceIte, Nat.reduceBEq, Nat.reduceEqDiff, Nat.reduceLT, Nat.reduceLeDiff, Nat.reduceAdd, Nat.reduceMul, Nat.reduceSub, reduceCtorEq, Int.reduceToNat]) | (refine Br.mk ?_ ?_ <;> intro h) | (refine BrN.mk (fun h => ?_) ?_) | (refine AltVC.mk ?_ ?_)
  refine CallVC.eq (refGCheck_spec g hg) ?_
  repeat' first | ((first | refine Br.dec ?_ ?_ | refine Br.eqi ?_ ?_) <;> intro h <;> try (exfalso; omega)) | (simp (disch := first | omega | (simp only [vlen]; first | done | omega)) only [↓vAq, vBq, ↓reduceIte, Nat.reduceBEq, Nat.reduceEqDiff, Nat.reduceLT, Nat.reduceLeDiff, Nat.reduceAdd, Nat.reduceMul, Nat.reduceSub, reduceCtorEq, Int.reduceToNat]) | (refine Br.mk ?_ ?_ <;> intro h) | (refine BrN.mk (fun h => ?_) ?_) | (refine AltVC.mk ?_ ?_)
  · have e : gcode g = 0 := by assumption
    have hk := (valid_of e).k
    refine CallVC.eq (refWord_spec g.k (by omega) w hw) ?_
    repeat' first | ((first | refine Br.dec ?_ ?_ | refine Br.eqi ?_ ?_) <;> intro h <;> try (exfalso; omega)) | (simp (disch := first | omega | (simp only [vlen]; first | done | omega)) only [↓vAq, vBq, ↓reduceIte, Nat.reduceBEq, Nat.reduceEqDiff, Nat.reduceLT, Nat.reduceLeDiff, Nat.reduceAdd, Nat.reduceMul, Nat.reduceSub, reduceCtorEq, Int.reduceToNat]) | (refine Br.mk ?_ ?_ <;> intro h) | (refine BrN.mk (fun h => ?_) ?_) | (refine AltVC.mk ?_ ?_)
    exact fin_mk (by rw [if_pos e])
  · exact fin_mk (by rw [if_neg (by assumption)])
theorem gw_of {g : Grammar} {w : List Int} (h : gwC g w = 0) : gcode g = 0 ∧ wcode g.k w = 0 := by
  unfold gwC at h
  split at h
  · next e => exact ⟨e, h⟩
  · next e => exact absurd h e
end Go.Proofs.Ythjpahmcgpnogaa

namespace Go.Proofs.Ythjpahmcgpnogaa
open Go.Dm
set_option linter.unusedSimpArgs false
set_option linter.unnecessarySimpa false
set_option linter.unusedVariables false
set_option linter.defProp false
theorem sr_trims {S : List (List It)} {i n m τ : Nat} (h : τ < m) : List.map (fun e => List.map (D.trim m) e) ((tbl scR S).set i [.ref τ 3 0 n]) = (tbl scR S).set i [.ref τ 3 0 n] := by
  have e : ((fun e => List.map (D.trim m) e) ∘ scR) = scR := by funext l; simp [scR, trim_oo]
  rw [List.map_set]
  simp only [tbl, List.map_map, e, List.map_cons, List.map_nil, trim_ref, h, if_true]
theorem sr_rens {S : List (List It)} {i n τ : Nat} {f : Nat → Nat} : List.map (fun e => List.map (D.ren f) e) ((tbl scR S).set i [.ref τ 3 0 n]) = (tbl scR S).set i [.ref (f τ) 3 0 n] := by
  have e : ((fun e => List.map (D.ren f) e) ∘ scR) = scR := by funext l; simp [scR, D.ren, D.lf, renL]
  rw [List.map_set]
  simp only [tbl, List.map_map, e, List.map_cons, List.map_nil, show ∀ n, D.ren f (.ref τ 3 0 n) = .ref (f τ) 3 0 n from fun n => by simp [D.ren, D.lf, renL]]
def chT (g : Grammar) (S : List (List It)) (H : List (List Ha)) (k : Nat) (kd : Kd) : List Ob := [⟨6, [[iv .i64 g.k, iv .i64 g.n, iv .i64 g.start, .sl 2 (tbl rulD g.rules), .ref 1 1 0 S.length, .ref 2 1 0 H.length]], false, true, .fix⟩, ⟨1, (tbl scR S).set k [.ref 3 3 0 (S.getD k default).length], false, true, .fix⟩, ⟨1, tbl hmR H, true, true, .fix⟩, ⟨3, tbl itD (S.getD k default), true, false, kd⟩, ⟨1, [[.ptr 0 6 0 0]], false, false, .fix⟩, ⟨4, [[iv .i64 g.k, iv .i64 g.n, iv .i64 g.start, .sl 2 (tbl rulD g.rules)]], true, false, .fix⟩]
def chU (g : Grammar) (S : List (List It)) (H : List (List Ha)) (k : Nat) (kd : Kd) : List (Nat × Ob) := [(0, ⟨6, [[iv .i64 g.k, iv .i64 g.n, iv .i64 g.start, .sl 2 (tbl rulD g.rules), .ref 1 1 0 S.length, .ref 2 1 0 H.length]], false, true, .fix⟩), (1, ⟨1, (tbl scR S).set k [.ref 3 3 0 (S.getD k default).length], false, true, .fix⟩), (2, ⟨1, tbl hmR H, true, true, .fix⟩), (3, ⟨3, tbl itD (S.getD k default), true, false, kd⟩), (4, ⟨1, [[.ptr 0 6 0 0]], false, false, .fix⟩), (5, ⟨4, [[iv .i64 g.k, iv .i64 g.n, iv .i64 g.start, .sl 2 (tbl rulD g.rules)]], true, false, .fix⟩)]
theorem ct_fin {g : Grammar} {S : List (List It)} {H : List (List Ha)} {k : Nat} {kd : Kd} {s : Go.Dm.S} {d : D} {R : D → List (Option Ob) → Prop} (h1 : 6 ≤ s.N) (h2 : fitL s 6 0 ((chT g S H k kd).map some)) (hd : R (d.trim 6) ((chT g S H k kd).map some)) : FinH 6 R s d :=
  finH_mk ((chT g S H k kd).map some) (by simp [chT]) (by simpa [chT] using h1) (by simpa [chT] using h2) hd
set_option maxRecDepth 10000 in
set_option maxHeartbeats 4000000 in
theorem takc_spec (g : Grammar) (S : List (List It)) (H : List (List Ha)) (k : Nat) (x : It) (h1 : x.1 < g.rules.length) (h2 : x.2.1 ≤ (rgt g x.1).length) : Dm.SpecH Try.prog 63 [.ag (itD x), .ptr 4 1 0 0, .ptr 5 4 0 0] (chT g S H k .fix) (fun d o => d = .v (.bool (takB g x)) ∧ o = (chT g S H k .fix).map some) := by
  refine specH_of_vc mixed Try.func63 c63 (by rw [show Try.f63.ntmps = _ from Try.ntmps63]; simp) ?_
  unfold m63 r63
  have hnx := next2_spec g S H k x h1 h2
  unfold chT
  cases hny : nxt g x with
  | none =>
    rw [nxD_none hny] at hnx
    repeat' first | ((first | refine Br.dec ?_ ?_ | refine Br.eqi ?_ ?_) <;> intro h <;> try (exfalso; omega)) | (simp (disch := first | omega | (simp only [vlen]; first | done | omega)) only [vit, ↓vAq, vBq, ↓reduceIte, Nat.reduceBEq, Nat.reduceEqDiff, Nat.reduceLT, Nat.reduceLeDiff, Nat.reduceAdd, Nat.reduceMul, Nat.reduceSub, reduceCtorEq, Int.reduceToNat]) | (refine Br.mk ?_ ?_ <;> intro h) | (refine BrN.mk (fun h => ?_) ?_) | (refine AltVC.mk ?_ ?_)
    refine CallVC.lendE [0, 1, 2, 3] [.ptr 0 6 0 0, .ag (itD x)] (chP g S H k) hnx (by simp) (by rfl) (by unfold chP; simp (disch := first | omega | (simp only [vlen]; first | done | omega)) only [vle0, pr_ren, vit, ↓vAq, vBq, ↓reduceIte, Nat.reduceBEq, Nat.reduceEqDiff, Nat.reduceLT, Nat.reduceLeDiff, Nat.reduceAdd, Nat.reduceMul, Nat.reduceSub, reduceCtorEq, Int.reduceToNat] <;> (repeat' first | rfl | apply And.intro)) ?_
    rintro _ _ ⟨rfl, rfl⟩
    unfold chP
    by_cases hz : x.2.2 = 0
    · by_cases hs : (g.rules.getD x.1 default).left = g.start
      · have hb : takB g x = true := by simp only [takB, hny, hz, show lft g x.1 = g.start from hs]; rfl
        repeat' first | ((first | refine Br.dec ?_ ?_ | refine Br.eqi ?_ ?_) <;> intro h <;> try (exfalso; omega)) | (simp (disch := first | omega | (simp only [vlen]; first | done | omega)) only [hz, hs, pr_ren, vit, ↓vAq, vBq, ↓reduceIte, Nat.reduceBEq, Nat.reduceEqDiff, Nat.reduceLT, Nat.reduceLeDiff, Nat.reduceAdd, Nat.reduceMul, Nat.reduceSub, reduceCtorEq, Int.reduceToNat]) | (refine Br.mk ?_ ?_ <;> intro h) | (refine BrN.mk (fun h => ?_) ?_) | (refine AltVC.mk ?_ ?_)
        exact ct_fin (by simp (disch := first | omega | (simp only [vlen]; first | done | omega)) only [vit, ↓vAq, vBq, ↓reduceIte, Nat.reduceBEq, Nat.reduceEqDiff, Nat.reduceLT, Nat.reduceLeDiff, Nat.reduceAdd, Nat.reduceMul, Nat.reduceSub, reduceCtorEq, Int.reduceToNat]) (by unfold chT; simp (disch := first | omega | (simp only [vlen]; first | done | omega)) only [pr_ren, sr_trims, vit, ↓vAq, vBq, ↓reduceIte, Nat.reduceBEq, Nat.reduceEqDiff, Nat.reduceLT, Nat.reduceLeDiff, Nat.reduceAdd, Nat.reduceMul, Nat.reduceSub, reduceCtorEq, Int.reduceToNat]) ⟨by rw [hb]; simp (disch := first | omega | (simp only [vlen]; first | done | omega)) only [vit, ↓vAq, vBq, ↓reduceIte, Nat.reduceBEq, Nat.reduceEqDiff, Nat.reduceLT, Nat.reduceLeDiff, Nat.reduceAdd, Nat.reduceMul, Nat.reduceSub, reduceCtorEq, Int.reduceToNat], rfl⟩
      · have hb : takB g x = false := by simp only [takB, hny, hz, decide_eq_false (show ¬ lft g x.1 = g.start from hs)]; rfl
        have hsb : ((g.rules.getD x.1 default).left == g.start) = false := beq_eq_false_iff_ne.2 hs
        repeat' first | ((first | refine Br.dec ?_ ?_ | refine Br.eqi ?_ ?_) <;> intro h <;> try (exfalso; omega)) | (simp (disch := first | omega | (simp only [vlen]; first | done | omega)) only [hz, pr_ren, vit, ↓vAq, vBq, ↓reduceIte, Nat.reduceBEq, Nat.reduceEqDiff, Nat.reduceLT, Nat.reduceLeDiff, Nat.reduceAdd, Nat.reduceMul, Nat.reduceSub, reduceCtorEq, Int.reduceToNat]) | (refine Br.mk ?_ ?_ <;> intro h) | (refine BrN.mk (fun h => ?_) ?_) | (refine AltVC.mk ?_ ?_)
        exact ct_fin (by simp (disch := first | omega | (simp only [vlen]; first | done | omega)) only [vit, ↓vAq, vBq, ↓reduceIte, Nat.reduceBEq, Nat.reduceEqDiff, Nat.reduceLT, Nat.reduceLeDiff, Nat.reduceAdd, Nat.reduceMul, Nat.reduceSub, reduceCtorEq, Int.reduceToNat]) (by unfold chT; simp (disch := first | omega | (simp only [vlen]; first | done | omega)) only [pr_ren, sr_trims, vit, ↓vAq, vBq, ↓reduceIte, Nat.reduceBEq, Nat.reduceEqDiff, Nat.reduceLT, Nat.reduceLeDiff, Nat.reduceAdd, Nat.reduceMul, Nat.reduceSub, reduceCtorEq, Int.reduceToNat]) ⟨by rw [hb]; simp (disch := first | omega | (simp only [vlen]; first | done | omega)) only [hsb, vit, ↓vAq, vBq, ↓reduceIte, Nat.reduceBEq, Nat.reduceEqDiff, Nat.reduceLT, Nat.reduceLeDiff, Nat.reduceAdd, Nat.reduceMul, Nat.reduceSub, reduceCtorEq, Int.reduceToNat], rfl⟩
    · have hb : takB g x = false := by simp only [takB, hny, decide_eq_false hz]; rfl
      repeat' first | ((first | refine Br.dec ?_ ?_ | refine Br.eqi ?_ ?_) <;> intro h <;> try (exfalso; omega)) | (simp (disch := first | omega | (simp only [vlen]; first | done | omega)) only [pr_ren, vit, ↓vAq, vBq, ↓reduceIte, Nat.reduceBEq, Nat.reduceEqDiff, Nat.reduceLT, Nat.reduceLeDiff, Nat.reduceAdd, Nat.reduceMul, Nat.reduceSub, reduceCtorEq, Int.reduceToNat]) | (refine Br.mk ?_ ?_ <;> intro h) | (refine BrN.mk (fun h => ?_) ?_) | (refine AltVC.mk ?_ ?_)
      exact ct_fin (by simp (disch := first | omega | (simp only [vlen]; first | done | omega)) only [vit, ↓vAq, vBq, ↓reduceIte, Nat.reduceBEq, Nat.reduceEqDiff, Nat.reduceLT, Nat.reduceLeDiff, Nat.reduceAdd, Nat.reduceMul, Nat.reduceSub, reduceCtorEq, Int.reduceToNat]) (by unfold chT; simp (disch := first | omega | (simp only [vlen]; first | done | omega)) only [pr_ren, sr_trims, vit, ↓vAq, vBq, ↓reduceIte, Nat.reduceBEq, Nat.reduceEqDiff, Nat.reduceLT, Nat.reduceLeDiff, Nat.reduceAdd, Nat.reduceMul, Nat.reduceSub, reduceCtorEq, Int.reduceToNat]) ⟨by rw [hb]; simp (disch := first | omega | (simp only [vlen]; first | done | omega)) only [vit, ↓vAq, vBq, ↓reduceIte, Nat.reduceBEq, Nat.reduceEqDiff, Nat.reduceLT, Nat.reduceLeDiff, Nat.reduceAdd, Nat.reduceMul, Nat.reduceSub, reduceCtorEq, Int.reduceToNat], rfl⟩
  | some s =>
    rw [nxD_some hny] at hnx
    have hb : takB g x = false := by simp only [takB, hny]; rfl
    repeat' first | ((first | refine Br.dec ?_ ?_ | refine Br.eqi ?_ ?_) <;> intro h <;> try (exfalso; omega)) | (simp (disch := first | omega | (simp only [vlen]; first | done | omega)) only [vit, ↓vAq, vBq, ↓reduceIte, Nat.reduceBEq, Nat.reduceEqDiff, Nat.reduceLT, Nat.reduceLeDiff, Nat.reduceAdd, Nat.reduceMul, Nat.reduceSub, reduceCtorEq, Int.reduceToNat]) | (refine Br.mk ?_ ?_ <;> intro h) | (refine BrN.mk (fun h => ?_) ?_) | (refine AltVC.mk ?_ ?_)
    refine CallVC.lendE [0, 1, 2, 3] [.ptr 0 6 0 0, .ag (itD x)] (chP g S H k) hnx (by simp) (by rfl) (by unfold chP; simp (disch := first | omega | (simp only [vlen]; first | done | omega)) only [vle0, pr_ren, vit, ↓vAq, vBq, ↓reduceIte, Nat.reduceBEq, Nat.reduceEqDiff, Nat.reduceLT, Nat.reduceLeDiff, Nat.reduceAdd, Nat.reduceMul, Nat.reduceSub, reduceCtorEq, Int.reduceToNat] <;> (repeat' first | rfl | apply And.intro)) ?_
    rintro _ _ ⟨rfl, rfl⟩
    unfold chP
    repeat' first | ((first | refine Br.dec ?_ ?_ | refine Br.eqi ?_ ?_) <;> intro h <;> try (exfalso; omega)) | (simp (disch := first | omega | (simp only [vlen]; first | done | omega)) only [pr_ren, vit, ↓vAq, vBq, ↓reduceIte, Nat.reduceBEq, Nat.reduceEqDiff, Nat.reduceLT, Nat.reduceLeDiff, Nat.reduceAdd, Nat.reduceMul, Nat.reduceSub, reduceCtorEq, Int.reduceToNat]) | (refine Br.mk ?_ ?_ <;> intro h) | (refine BrN.mk (fun h => ?_) ?_) | (refine AltVC.mk ?_ ?_)
    exact ct_fin (by simp (disch := first | omega | (simp only [vlen]; first | done | omega)) only [vit, ↓vAq, vBq, ↓reduceIte, Nat.reduceBEq, Nat.reduceEqDiff, Nat.reduceLT, Nat.reduceLeDiff, Nat.reduceAdd, Nat.reduceMul, Nat.reduceSub, reduceCtorEq, Int.reduceToNat]) (by unfold chT; simp (disch := first | omega | (simp only [vlen]; first | done | omega)) only [pr_ren, sr_trims, vit, ↓vAq, vBq, ↓reduceIte, Nat.reduceBEq, Nat.reduceEqDiff, Nat.reduceLT, Nat.reduceLeDiff, Nat.reduceAdd, Nat.reduceMul, Nat.reduceSub, reduceCtorEq, Int.reduceToNat]) ⟨by rw [hb]; simp (disch := first | omega | (simp only [vlen]; first | done | omega)) only [vit, ↓vAq, vBq, ↓reduceIte, Nat.reduceBEq, Nat.reduceEqDiff, Nat.reduceLT, Nat.reduceLeDiff, Nat.reduceAdd, Nat.reduceMul, Nat.reduceSub, reduceCtorEq, Int.reduceToNat], rfl⟩
set_option maxRecDepth 10000 in
set_option maxHeartbeats 4000000 in
theorem tidx_spec (g : Grammar) (S : List (List It)) (H : List (List Ha)) (k : Nat) (hk : (S.getD k default).length ≤ 650) (hx : ∀ x, x ∈ S.getD k default → x.1 < g.rules.length ∧ x.2.1 ≤ (rgt g x.1).length) : Dm.SpecH Try.prog 83 [.ref 3 3 0 (S.getD k default).length, .clo 63 [.ptr 4 1 0 0, .ptr 5 4 0 0]] (chT g S H k .fix) (fun d o => d = iv .i64 (idxOf (takB g) (S.getD k default)) ∧ o = (chT g S H k .fix).map some) := by
  refine specH_of_vc mixed Try.func83 c83 (by rw [show Try.f83.ntmps = _ from Try.ntmps83]; simp) ?_
  unfold m83 r83
  unfold chT
  repeat' first | ((first | refine Br.dec ?_ ?_ | refine Br.eqi ?_ ?_) <;> intro h <;> try (exfalso; omega)) | (simp (disch := first | omega | (simp only [vlen]; first | done | omega)) only [vit, ↓vAq, vBq, ↓reduceIte, Nat.reduceBEq, Nat.reduceEqDiff, Nat.reduceLT, Nat.reduceLeDiff, Nat.reduceAdd, Nat.reduceMul, Nat.reduceSub, reduceCtorEq, Int.reduceToNat]) | (refine Br.mk ?_ ?_ <;> intro h) | (refine BrN.mk (fun h => ?_) ?_) | (refine AltVC.mk ?_ ?_)
  refine LoopVC.mk (X := Nat) (fun i => [(8, iv .i64 i), (0, .ref 3 3 0 (S.getD k default).length), (1, .clo 63 [.ptr 4 1 0 0, .ptr 5 4 0 0])]) (fun _ => chU g S H k .fix) (fun i => 651 - i) (fun i => i ≤ (S.getD k default).length ∧ ∀ j, j < i → takB g ((S.getD k default).getD j default) = false) 0 ⟨Nat.zero_le _, fun j hj => absurd hj (Nat.not_lt_zero _)⟩ ?_ ?_
  · unfold chU
    (simp (disch := first | omega | (simp only [vlen]; first | done | omega)) only [Fits_u, Fits_m, Fits_nil, List.length_append, sr_trims, vit, ↓vAq, vBq, ↓reduceIte, Nat.reduceBEq, Nat.reduceEqDiff, Nat.reduceLT, Nat.reduceLeDiff, Nat.reduceAdd, Nat.reduceMul, Nat.reduceSub, reduceCtorEq, Int.reduceToNat] <;> (repeat' first | rfl | apply And.intro))
    all_goals trace_state
  · rintro i ⟨hi, hn⟩
    unfold chU
    by_cases hlt : i < (S.getD k default).length
    · obtain ⟨c1, c2⟩ := hx _ (getD_mem' hlt)
      have hn1 := hn
      generalize hxe : (S.getD k default).getD i default = x at *
      have hcl := takc_spec g S H k x c1 c2
      repeat' first | ((first | refine Br.dec ?_ ?_ | refine Br.eqi ?_ ?_) <;> intro h <;> try (exfalso; omega)) | (simp (disch := first | omega | (simp only [vlen]; first | done | omega)) only [hxe, vit, ↓vAq, vBq, ↓reduceIte, Nat.reduceBEq, Nat.reduceEqDiff, Nat.reduceLT, Nat.reduceLeDiff, Nat.reduceAdd, Nat.reduceMul, Nat.reduceSub, reduceCtorEq, Int.reduceToNat]) | (refine Br.mk ?_ ?_ <;> intro h) | (refine BrN.mk (fun h => ?_) ?_) | (refine AltVC.mk ?_ ?_)
      refine CallVC.lendE [0, 1, 2, 3, 4, 5] [.ag (itD x), .ptr 4 1 0 0, .ptr 5 4 0 0] (chT g S H k .fix) hcl (by simp) (by rfl) (by unfold chT; simp (disch := first | omega | (simp only [vlen]; first | done | omega)) only [vle0, sr_rens, vit, ↓vAq, vBq, ↓reduceIte, Nat.reduceBEq, Nat.reduceEqDiff, Nat.reduceLT, Nat.reduceLeDiff, Nat.reduceAdd, Nat.reduceMul, Nat.reduceSub, reduceCtorEq, Int.reduceToNat] <;> (repeat' first | rfl | apply And.intro)) ?_
      rintro _ _ ⟨rfl, rfl⟩
      unfold chT
      cases hb : takB g x
      · repeat' first | ((first | refine Br.dec ?_ ?_ | refine Br.eqi ?_ ?_) <;> intro h <;> try (exfalso; omega)) | (simp (disch := first | omega | (simp only [vlen]; first | done | omega)) only [sr_rens, vit, ↓vAq, vBq, ↓reduceIte, Nat.reduceBEq, Nat.reduceEqDiff, Nat.reduceLT, Nat.reduceLeDiff, Nat.reduceAdd, Nat.reduceMul, Nat.reduceSub, reduceCtorEq, Int.reduceToNat]) | (refine Br.mk ?_ ?_ <;> intro h) | (refine BrN.mk (fun h => ?_) ?_) | (refine AltVC.mk ?_ ?_)
        refine loopK.mk (i + 1) (by simp (disch := first | omega | (simp only [vlen]; first | done | omega)) only [vit, ↓vAq, vBq, ↓reduceIte, Nat.reduceBEq, Nat.reduceEqDiff, Nat.reduceLT, Nat.reduceLeDiff, Nat.reduceAdd, Nat.reduceMul, Nat.reduceSub, reduceCtorEq, Int.reduceToNat]) ⟨by show i + 1 ≤ _; omega, fun j hj => by
          by_cases e : j = i
          · subst e; rw [hxe]; exact hb
          · exact hn j (by omega)⟩ (by show 651 - (i + 1) < 651 - i; omega) ?_
        (simp (disch := first | omega | (simp only [vlen]; first | done | omega)) only [Fits_u, Fits_m, Fits_nil, List.length_append, sr_rens, sr_trims, vit, ↓vAq, vBq, ↓reduceIte, Nat.reduceBEq, Nat.reduceEqDiff, Nat.reduceLT, Nat.reduceLeDiff, Nat.reduceAdd, Nat.reduceMul, Nat.reduceSub, reduceCtorEq, Int.reduceToNat] <;> (repeat' first | rfl | apply And.intro))
        all_goals trace_state
      · have hid := idxOf_hit (p := takB g) hlt (by rw [hxe]; exact hb) hn
        repeat' first | ((first | refine Br.dec ?_ ?_ | refine Br.eqi ?_ ?_) <;> intro h <;> try (exfalso; omega)) | (simp (disch := first | omega | (simp only [vlen]; first | done | omega)) only [sr_rens, vit, ↓vAq, vBq, ↓reduceIte, Nat.reduceBEq, Nat.reduceEqDiff, Nat.reduceLT, Nat.reduceLeDiff, Nat.reduceAdd, Nat.reduceMul, Nat.reduceSub, reduceCtorEq, Int.reduceToNat]) | (refine Br.mk ?_ ?_ <;> intro h) | (refine BrN.mk (fun h => ?_) ?_) | (refine AltVC.mk ?_ ?_)
        exact ct_fin (g := g) (S := S) (H := H) (k := k) (kd := .fix) (by simp (disch := first | omega | (simp only [vlen]; first | done | omega)) only [vit, ↓vAq, vBq, ↓reduceIte, Nat.reduceBEq, Nat.reduceEqDiff, Nat.reduceLT, Nat.reduceLeDiff, Nat.reduceAdd, Nat.reduceMul, Nat.reduceSub, reduceCtorEq, Int.reduceToNat]) (by unfold chT; simp (disch := first | omega | (simp only [vlen]; first | done | omega)) only [sr_rens, sr_trims, vit, ↓vAq, vBq, ↓reduceIte, Nat.reduceBEq, Nat.reduceEqDiff, Nat.reduceLT, Nat.reduceLeDiff, Nat.reduceAdd, Nat.reduceMul, Nat.reduceSub, reduceCtorEq, Int.reduceToNat]) ⟨by rw [hid]; simp (disch := first | omega | (simp only [vlen]; first | done | omega)) only [vit, ↓vAq, vBq, ↓reduceIte, Nat.reduceBEq, Nat.reduceEqDiff, Nat.reduceLT, Nat.reduceLeDiff, Nat.reduceAdd, Nat.reduceMul, Nat.reduceSub, reduceCtorEq, Int.reduceToNat], rfl⟩
    · have hid := idxOf_miss (p := takB g) (l := S.getD k default) (i := i) (by omega) hn
      repeat' first | ((first | refine Br.dec ?_ ?_ | refine Br.eqi ?_ ?_) <;> intro h <;> try (exfalso; omega)) | (simp (disch := first | omega | (simp only [vlen]; first | done | omega)) only [sr_rens, vit, ↓vAq, vBq, ↓reduceIte, Nat.reduceBEq, Nat.reduceEqDiff, Nat.reduceLT, Nat.reduceLeDiff, Nat.reduceAdd, Nat.reduceMul, Nat.reduceSub, reduceCtorEq, Int.reduceToNat]) | (refine Br.mk ?_ ?_ <;> intro h) | (refine BrN.mk (fun h => ?_) ?_) | (refine AltVC.mk ?_ ?_)
      exact ct_fin (g := g) (S := S) (H := H) (k := k) (kd := .fix) (by simp (disch := first | omega | (simp only [vlen]; first | done | omega)) only [vit, ↓vAq, vBq, ↓reduceIte, Nat.reduceBEq, Nat.reduceEqDiff, Nat.reduceLT, Nat.reduceLeDiff, Nat.reduceAdd, Nat.reduceMul, Nat.reduceSub, reduceCtorEq, Int.reduceToNat]) (by unfold chT; simp (disch := first | omega | (simp only [vlen]; first | done | omega)) only [sr_rens, sr_trims, vit, ↓vAq, vBq, ↓reduceIte, Nat.reduceBEq, Nat.reduceEqDiff, Nat.reduceLT, Nat.reduceLeDiff, Nat.reduceAdd, Nat.reduceMul, Nat.reduceSub, reduceCtorEq, Int.reduceToNat]) ⟨by rw [hid]; simp (disch := first | omega | (simp only [vlen]; first | done | omega)) only [vit, ↓vAq, vBq, ↓reduceIte, Nat.reduceBEq, Nat.reduceEqDiff, Nat.reduceLT, Nat.reduceLeDiff, Nat.reduceAdd, Nat.reduceMul, Nat.reduceSub, reduceCtorEq, Int.reduceToNat], rfl⟩
set_option maxRecDepth 10000 in
set_option maxHeartbeats 4000000 in
theorem tcon_spec (g : Grammar) (S : List (List It)) (H : List (List Ha)) (k : Nat) (hk : (S.getD k default).length ≤ 650) (hx : ∀ x, x ∈ S.getD k default → x.1 < g.rules.length ∧ x.2.1 ≤ (rgt g x.1).length) : Dm.SpecH Try.prog 62 [.ref 3 3 0 (S.getD k default).length, .clo 63 [.ptr 4 1 0 0, .ptr 5 4 0 0]] (chT g S H k .fix) (fun d o => d = .v (.bool ((S.getD k default).any (takB g))) ∧ o = (chT g S H k .fix).map some) := by
  refine specH_of_vc mixed Try.func62 c62 (by rw [show Try.f62.ntmps = _ from Try.ntmps62]; simp) ?_
  unfold m62 r62
  have hix := tidx_spec g S H k hk hx
  have hge := idxOf_geq (p := takB g) (l := S.getD k default)
  unfold chT
  repeat' first | ((first | refine Br.dec ?_ ?_ | refine Br.eqi ?_ ?_) <;> intro h <;> try (exfalso; omega)) | (simp (disch := first | omega | (simp only [vlen]; first | done | omega)) only [vit, ↓vAq, vBq, ↓reduceIte, Nat.reduceBEq, Nat.reduceEqDiff, Nat.reduceLT, Nat.reduceLeDiff, Nat.reduceAdd, Nat.reduceMul, Nat.reduceSub, reduceCtorEq, Int.reduceToNat]) | (refine Br.mk ?_ ?_ <;> intro h) | (refine BrN.mk (fun h => ?_) ?_) | (refine AltVC.mk ?_ ?_)
  refine CallVC.lendE [0, 1, 2, 3, 4, 5] [.ref 3 3 0 (S.getD k default).length, .clo 63 [.ptr 4 1 0 0, .ptr 5 4 0 0]] (chT g S H k .fix) hix (by simp) (by rfl) (by unfold chT; simp (disch := first | omega | (simp only [vlen]; first | done | omega)) only [vle0, sr_rens, vit, ↓vAq, vBq, ↓reduceIte, Nat.reduceBEq, Nat.reduceEqDiff, Nat.reduceLT, Nat.reduceLeDiff, Nat.reduceAdd, Nat.reduceMul, Nat.reduceSub, reduceCtorEq, Int.reduceToNat] <;> (repeat' first | rfl | apply And.intro)) ?_
  rintro _ _ ⟨rfl, rfl⟩
  unfold chT
  repeat' first | ((first | refine Br.dec ?_ ?_ | refine Br.eqi ?_ ?_) <;> intro h <;> try (exfalso; omega)) | (simp (disch := first | omega | (simp only [vlen]; first | done | omega)) only [sr_rens, vit, ↓vAq, vBq, ↓reduceIte, Nat.reduceBEq, Nat.reduceEqDiff, Nat.reduceLT, Nat.reduceLeDiff, Nat.reduceAdd, Nat.reduceMul, Nat.reduceSub, reduceCtorEq, Int.reduceToNat]) | (refine Br.mk ?_ ?_ <;> intro h) | (refine BrN.mk (fun h => ?_) ?_) | (refine AltVC.mk ?_ ?_)
  exact ct_fin (g := g) (S := S) (H := H) (k := k) (kd := .fix) (by simp (disch := first | omega | (simp only [vlen]; first | done | omega)) only [vit, ↓vAq, vBq, ↓reduceIte, Nat.reduceBEq, Nat.reduceEqDiff, Nat.reduceLT, Nat.reduceLeDiff, Nat.reduceAdd, Nat.reduceMul, Nat.reduceSub, reduceCtorEq, Int.reduceToNat]) (by unfold chT; simp (disch := first | omega | (simp only [vlen]; first | done | omega)) only [sr_rens, sr_trims, vit, ↓vAq, vBq, ↓reduceIte, Nat.reduceBEq, Nat.reduceEqDiff, Nat.reduceLT, Nat.reduceLeDiff, Nat.reduceAdd, Nat.reduceMul, Nat.reduceSub, reduceCtorEq, Int.reduceToNat]) ⟨by rw [← hge]; simp (disch := first | omega | (simp only [vlen]; first | done | omega)) only [vit, ↓vAq, vBq, ↓reduceIte, Nat.reduceBEq, Nat.reduceEqDiff, Nat.reduceLT, Nat.reduceLeDiff, Nat.reduceAdd, Nat.reduceMul, Nat.reduceSub, reduceCtorEq, Int.reduceToNat], rfl⟩
end Go.Proofs.Ythjpahmcgpnogaa

namespace Go.Dm
set_option linter.unusedSimpArgs false
set_option linter.unusedVariables false
def nsum (f : Nat → Nat) : Nat → Nat
  | 0 => 0
  | n + 1 => nsum f n + f n
theorem nsum_le_of {f g : Nat → Nat} : ∀ {n : Nat}, (∀ m, m < n → f m ≤ g m) → nsum f n ≤ nsum g n
  | 0, _ => Nat.le_refl _
  | n + 1, h => by
    have h1 := @nsum_le_of f g n fun m hm => h m (by omega)
    have h2 := h n (by omega)
    show nsum f n + f n ≤ nsum g n + g n
    omega
theorem nsum_lt_of {f g : Nat → Nat} : ∀ {n m : Nat}, (∀ m, m < n → f m ≤ g m) → m < n → f m < g m → nsum f n < nsum g n
  | 0, m, _, h, _ => absurd h (Nat.not_lt_zero _)
  | n + 1, m, h, hm, hl => by
    show nsum f n + f n < nsum g n + g n
    by_cases e : m = n
    · subst e
      have h1 := @nsum_le_of f g m fun k hk => h k (by omega)
      omega
    · have h1 := @nsum_lt_of f g n m (fun k hk => h k (by omega)) (by omega) hl
      have h2 := h n (by omega)
      omega
theorem nsum_const {c : Nat} {f : Nat → Nat} : ∀ {n : Nat}, (∀ m, m < n → f m ≤ c) → nsum f n ≤ n * c
  | 0, _ => Nat.zero_le _
  | n + 1, h => by
    have h1 := @nsum_const c f n fun m hm => h m (by omega)
    have h2 := h n (by omega)
    show nsum f n + f n ≤ (n + 1) * c
    rw [Nat.succ_mul]; omega
def tsum (f : Nat → Nat) (a b : Nat) : Nat := nsum (fun m => if a ≤ m then f m else 0) b
def rowT (T : Int → Nat → Nat → Nat) : List Int → Nat → Nat → Nat
  | [], i, j => if i = j then 1 else 0
  | [s], i, j => T s i j
  | s :: s' :: l, i, j => tsum (fun m => T s i m * rowT T (s' :: l) m j) (i + 1) j
def symV (w : List Int) (x : Int) (i j : Nat) : Nat := if j = i + 1 ∧ w.getD i 0 = x then 1 else 0
def treeF (g : Grammar) (w : List Int) : Nat → Int → Nat → Nat → Nat
  | 0, x, i, j => if x < g.k then symV w x i j else 0
  | f + 1, x, i, j => if x < g.k then symV w x i j else nsum (fun q => if (g.rules.getD q default).left = x - g.k then rowT (treeF g w f) (g.rules.getD q default).right i j else 0) g.rules.length
def trees (g : Grammar) (w : List Int) (x : Int) (i j : Nat) : Nat := treeF g w (j - i + 1) x i j
end Go.Dm
