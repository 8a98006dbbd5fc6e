/-
 Texts of this claim, one behind another.
-/
import Derived.Test.YtplkkacfjepgpaaMg14
import Derived.Test.YtplkkacfjepgpaaMg11
import Derived.Test.YtplkkacfjepgpaaMg13
namespace Go.Proofs.Ytplkkacfjepgpaa
open Go.Dm
set_option linter.unusedSimpArgs false
set_option linter.unnecessarySimpa false
set_option linter.unusedVariables false
set_option linter.defProp false
def buO (g : Grammar) (S : List (List It)) (H : List (List Ha)) : List (Option Ob) := [none, some ⟨1, tbl scR S, true, true, .fix⟩, some ⟨6, [[iv .i64 g.k, iv .i64 g.n, iv .i64 g.start, .sl 2 (tbl rulD g.rules), .ref 1 1 0 S.length, .ref 3 1 0 H.length]], false, true, .fix⟩, some ⟨1, tbl hmR H, true, true, .fix⟩]
def buR (g : Grammar) (w : List Int) (d : D) (o : List (Option Ob)) : Prop := d = .ptr 2 6 0 0 ∧ ∃ S H, o = buO g S H ∧ Snd g w S ∧ Clo g w S
def h0 (i : Nat) : D := .own (decide (0 < i)) 1 (tbl hmR (List.replicate i []))
def s0 (n i : Nat) : List (List D) := List.replicate i [.own false 3 []] ++ List.replicate (n - i) [.nl]
def s0o (n i : Nat) : Ob := ⟨1, s0 n i, true, decide (0 < i), .arr⟩
theorem h0_0 : h0 0 = .own false 1 [] := (rfl)
theorem h0_s {i : Nat} : h0 (i + 1) = .own true 1 (tbl hmR (List.replicate (i + 1) [])) := by simp [h0]
theorem s0o_0 {n : Nat} : s0o n 0 = ⟨1, List.replicate n [.nl], true, false, .arr⟩ := by simp [s0o, s0]
theorem s0o_z {n : Nat} : s0o n 0 = ⟨1, s0 n 0, true, false, .arr⟩ := (rfl)
theorem s0o_s {n i : Nat} : s0o n (i + 1) = ⟨1, s0 n (i + 1), true, true, .arr⟩ := by simp [s0o]
theorem s0_len {n i : Nat} (h : i ≤ n) : (s0 n i).length = n := by simp [s0]; omega
theorem s0_get {n i : Nat} (h : i < n) : (s0 n i).getD i [] = [.nl] := by
  simp [s0, List.getD_eq_getElem?_getD, List.getElem?_append, List.getElem?_replicate, show 0 < n - i by omega]
theorem s0_set {n i : Nat} (h : i < n) : (s0 n i).set i [.own false 3 []] = s0 n (i + 1) := by
  unfold s0
  rw [List.set_append_right _ _ (by simp), List.length_replicate, Nat.sub_self, show n - i = (n - (i + 1)) + 1 by omega, List.replicate_succ, List.set_cons_zero, show List.replicate (i + 1) [D.own false 3 []] = List.replicate i [.own false 3 []] ++ [[.own false 3 []]] from List.replicate_succ', List.append_assoc]; rfl
theorem s0_end {n : Nat} : s0 n n = tbl scR (List.replicate n []) := by simp [s0, tbl, scR]
theorem hm_rep {i : Nat} : tbl hmR (List.replicate i []) ++ [[.omp haK 4 []]] = tbl hmR (List.replicate (i + 1) []) := by
  rw [show List.replicate (i + 1) ([] : List Ha) = List.replicate i [] ++ [[]] from List.replicate_succ']; simp [tbl, hmR]
theorem hm_kl {H : List (List Ha)} {τ : Nat} : List.map (fun e => List.map (D.kill τ) e) (tbl hmR H) = tbl hmR H := by
  have e : ((fun e => List.map (D.kill τ) e) ∘ hmR) = hmR := by funext l; simp [hmR, kill_om]
  simp [tbl, e]
theorem hr_len {i : Nat} : (tbl hmR (List.replicate i [])).length = i := by simp [tbl]
theorem hr_get {i : Nat} {x : D} : (tbl hmR (List.replicate i []) ++ [[x]]).getD i [] = [x] := by simp [List.getD_eq_getElem?_getD, tbl]
theorem hr_set {i : Nat} {x y : D} : (tbl hmR (List.replicate i []) ++ [[x]]).set i [y] = tbl hmR (List.replicate i []) ++ [[y]] := by simp [List.set_append, tbl]
theorem hr_rep {i : Nat} : List.length (List.replicate i ([] : List Ha)) = i := by simp
theorem rl_len {n : Nat} : List.length (List.replicate n ([] : List It)) = n := by simp
theorem rp_get {α : Type} {n i : Nat} : (List.replicate n ([] : List α)).getD i [] = [] := by
  simp only [List.getD_eq_getElem?_getD, List.getElem?_replicate]; split <;> rfl
theorem snd_0 {g : Grammar} {w : List Int} : Snd g w (List.replicate (w.length + 1) []) := ⟨by simp, fun i x h => (by rw [rp_get] at h; cases h), fun i => (by rw [rp_get]; exact List.nodup_nil)⟩
theorem hi_0 {n : Nat} : HI (List.replicate n []) (List.replicate n []) := ⟨by simp, fun i x => by rw [rp_get, rp_get]; simp⟩
def scP (g : Grammar) (w : List Int) (j : Nat) (S : List (List It)) : Prop := ∀ x, x ∈ S.getD j [] → nxt g x = some (w.getD j 0) → (x.1, x.2.1 + 1, x.2.2) ∈ S.getD (j + 1) []
structure Dn (g : Grammar) (w : List Int) (i : Nat) (S : List (List It)) : Prop where
  b : beP g 0 g.start g.rules.length S
  c : ∀ j, j < i → clP g j S
  s : ∀ j, j < i → scP g w j S
theorem clP.ext {g : Grammar} {w : List Int} {j k : Nat} {S S' : List (List It)} (h : clP g j S) (hS : Snd g w S) (he : Ext k S S') (hk : j < k) : clP g j S' := fun x hx => by
  rw [he.oth j (by omega)] at hx
  obtain ⟨h1, h2⟩ := h x hx
  refine ⟨fun r hr hl => he.sub (h1 r hr hl), fun hn y hy hny => ?_⟩
  have h3 : x.2.2 ≤ j := (hS.ear j x hx).wi.2.2.1
  rw [he.oth x.2.2 (by omega)] at hy
  exact he.sub (h2 hn y hy hny)
theorem Dn.ext {g : Grammar} {w : List Int} {i k : Nat} {S S' : List (List It)} (h : Dn g w i S) (hS : Snd g w S) (he : Ext k S S') (hk : i ≤ k) : Dn g w i S' :=
  ⟨fun r hr hl => he.sub (h.b r hr hl), fun j hj => (h.c j hj).ext hS he (by omega), fun j hj x hx hn => by
    rw [he.oth j (by omega)] at hx
    exact he.sub (h.s j hj x hx hn)⟩
theorem Dn.clo {g : Grammar} {w : List Int} {S : List (List It)} (h : Dn g w w.length S) (hc : clP g w.length S) : Clo g w S := by
  have hcl : ∀ i, i ≤ w.length → clP g i S := fun i hi => by
    by_cases e : i = w.length
    · rw [e]; exact hc
    · exact h.c i (by omega)
  exact ⟨h.b, fun i x r hi hx hn hr => (hcl i hi x hx).1 r hr hn, fun i x hx hi hn => h.s i hi x hx hn, fun i x y hi hx hn hy hny => (hcl i hi x hx).2 hn y hy hny⟩
def chB (g : Grammar) (S : List (List It)) (H : List (List Ha)) : List (Nat × Ob) := [(0, ⟨4, [[iv .i64 g.k, iv .i64 g.n, iv .i64 g.start, .sl 2 (tbl rulD g.rules)]], true, false, .fix⟩), (1, ⟨1, tbl scR S, true, true, .fix⟩), (2, ⟨6, [[iv .i64 g.k, iv .i64 g.n, iv .i64 g.start, .sl 2 (tbl rulD g.rules), .ref 1 1 0 S.length, .ref 3 1 0 H.length]], false, true, .fix⟩), (3, ⟨1, tbl hmR H, true, true, .fix⟩)]
def chC (g : Grammar) (S : List (List It)) (H : List (List Ha)) (i : Nat) (L : List It) (kd : Kd) : List (Nat × Ob) := [(0, ⟨4, [[iv .i64 g.k, iv .i64 g.n, iv .i64 g.start, .sl 2 (tbl rulD g.rules)]], true, false, .fix⟩), (1, ⟨1, (tbl scR S).set i [.ref 4 3 0 L.length], false, true, .fix⟩), (2, ⟨6, [[iv .i64 g.k, iv .i64 g.n, iv .i64 g.start, .sl 2 (tbl rulD g.rules), .ref 1 1 0 S.length, .ref 3 1 0 H.length]], false, true, .fix⟩), (3, ⟨1, tbl hmR H, true, true, .fix⟩), (4, ⟨3, tbl itD L, true, false, kd⟩)]
theorem sr_trim {S : List (List It)} {i n : Nat} : List.map (fun e => List.map (D.trim 5) e) ((tbl scR S).set i [.ref 4 3 0 n]) = (tbl scR S).set i [.ref 4 3 0 n] := by
  have e : ((fun e => List.map (D.trim 5) e) ∘ scR) = scR := by funext l; simp [scR, trim_oo]
  rw [List.map_set]
  simp only [tbl, List.map_map, e, List.map_cons, List.map_nil, trim_ref, show (4 < 5) = True from by simp, if_true]
theorem bu_fin {g : Grammar} {S : List (List It)} {H : List (List Ha)} {s : Go.Dm.S} {d : D} {R : D → List (Option Ob) → Prop} (h1 : 4 ≤ s.N) (h2 : fitL s 4 0 (buO g S H)) (hd : R (d.trim 4) (buO g S H)) : FinH 0 R s d :=
  finH_mk (buO g S H) (Nat.zero_le _) (by simpa [buO] using h1) (by simpa [buO] using h2) hd
set_option maxRecDepth 10000 in
set_option maxHeartbeats 4000000 in
theorem build_spec (g : Grammar) (w : List Int) (hc : IC g w) : Dm.SpecH Try.prog 31 [.ag (graD g), .sl 1 (i64s w)] [] (buR g w) := by
  refine specH_of_vc mixed Try.func31 c31 (by rw [show Try.f31.ntmps = _ from Try.ntmps31]; simp) ?_
  unfold m31 r31
  have hrl := hc.v.len
  have hwl := hc.w
  repeat' first | ((first | refine Br.dec ?_ ?_ | refine Br.eqi ?_ ?_) <;> intro h <;> try (exfalso; omega)) | (simp (disch := first | omega | (simp only [vlen]; first | done | omega)) only [graD_eq, vit, ↓vAq, vBq, ↓reduceIte, Nat.reduceBEq, Nat.reduceEqDiff, Nat.reduceLT, Nat.reduceLeDiff, Nat.reduceAdd, Nat.reduceMul, Nat.reduceSub, reduceCtorEq, Int.reduceToNat]) | (refine Br.mk ?_ ?_ <;> intro h) | (refine BrN.mk (fun h => ?_) ?_) | (refine AltVC.mk ?_ ?_)
  refine LoopVC.nlo 2 0 5 1 ?_
  repeat' first | ((first | refine Br.dec ?_ ?_ | refine Br.eqi ?_ ?_) <;> intro h <;> try (exfalso; omega)) | (simp (disch := first | omega | (simp only [vlen]; first | done | omega)) only [graD_eq, vit, ↓vAq, vBq, ↓reduceIte, Nat.reduceBEq, Nat.reduceEqDiff, Nat.reduceLT, Nat.reduceLeDiff, Nat.reduceAdd, Nat.reduceMul, Nat.reduceSub, reduceCtorEq, Int.reduceToNat]) | (refine Br.mk ?_ ?_ <;> intro h) | (refine BrN.mk (fun h => ?_) ?_) | (refine AltVC.mk ?_ ?_)
  refine LoopVC.mk (X := Nat) (fun i => [(23, iv .i64 i)]) (fun i => [(0, ⟨4, [[iv .i64 g.k, iv .i64 g.n, iv .i64 g.start, .sl 2 (tbl rulD g.rules)]], true, false, .fix⟩), (1, s0o (w.length + 1) i), (2, ⟨6, [[iv .i64 g.k, iv .i64 g.n, iv .i64 g.start, .sl 2 (tbl rulD g.rules), .ref 1 1 0 (w.length + 1), h0 i]], false, true, .fix⟩)]) (fun i => w.length + 1 - i) (fun i => i ≤ w.length + 1) 0 (Nat.zero_le _) ?_ ?_
  · rw [h0_0, s0o_0]
    (simp (disch := first | omega | (simp only [vlen]; first | done | omega)) only [Fits_u, Fits_m, Fits_nil, List.length_append, vit, ↓vAq, vBq, ↓reduceIte, Nat.reduceBEq, Nat.reduceEqDiff, Nat.reduceLT, Nat.reduceLeDiff, Nat.reduceAdd, Nat.reduceMul, Nat.reduceSub, reduceCtorEq, Int.reduceToNat] <;> (repeat' first | rfl | apply And.intro))
    all_goals trace_state
  · intro i hi
    have h1 : ∀ d : D, (s0 (w.length + 1) i).length = w.length + 1 := fun _ => s0_len hi
    have h1 := s0_len hi
    by_cases hlt : i < w.length + 1
    · have h2 := s0_get hlt
      have h3 := s0_set hlt
      cases i with
      | zero =>
        rw [h0_0, s0o_z]
        repeat' first | ((first | refine Br.dec ?_ ?_ | refine Br.eqi ?_ ?_) <;> intro h <;> try (exfalso; omega)) | (simp (disch := first | omega | (simp only [vlen]; first | done | omega)) only [vit, ↓vAq, vBq, ↓reduceIte, Nat.reduceBEq, Nat.reduceEqDiff, Nat.reduceLT, Nat.reduceLeDiff, Nat.reduceAdd, Nat.reduceMul, Nat.reduceSub, reduceCtorEq, Int.reduceToNat]) | (refine Br.mk ?_ ?_ <;> intro h) | (refine BrN.mk (fun h => ?_) ?_) | (refine AltVC.mk ?_ ?_)
        refine loopK.fold 4 3 0 0 true ?_
        repeat' first | ((first | refine Br.dec ?_ ?_ | refine Br.eqi ?_ ?_) <;> intro h <;> try (exfalso; omega)) | (simp (disch := first | omega | (simp only [vlen]; first | done | omega)) only [vit, ↓vAq, vBq, ↓reduceIte, Nat.reduceBEq, Nat.reduceEqDiff, Nat.reduceLT, Nat.reduceLeDiff, Nat.reduceAdd, Nat.reduceMul, Nat.reduceSub, reduceCtorEq, Int.reduceToNat]) | (refine Br.mk ?_ ?_ <;> intro h) | (refine BrN.mk (fun h => ?_) ?_) | (refine AltVC.mk ?_ ?_)
        refine loopK.fold 3 2 0 5 false ?_
        repeat' first | ((first | refine Br.dec ?_ ?_ | refine Br.eqi ?_ ?_) <;> intro h <;> try (exfalso; omega)) | (simp (disch := first | omega | (simp only [vlen]; first | done | omega)) only [vit, ↓vAq, vBq, ↓reduceIte, Nat.reduceBEq, Nat.reduceEqDiff, Nat.reduceLT, Nat.reduceLeDiff, Nat.reduceAdd, Nat.reduceMul, Nat.reduceSub, reduceCtorEq, Int.reduceToNat]) | (refine Br.mk ?_ ?_ <;> intro h) | (refine BrN.mk (fun h => ?_) ?_) | (refine AltVC.mk ?_ ?_)
        refine loopK.nlo 1 0 0 3 ?_
        repeat' first | ((first | refine Br.dec ?_ ?_ | refine Br.eqi ?_ ?_) <;> intro h <;> try (exfalso; omega)) | (simp (disch := first | omega | (simp only [vlen]; first | done | omega)) only [h1, h2, h3, vit, ↓vAq, vBq, ↓reduceIte, Nat.reduceBEq, Nat.reduceEqDiff, Nat.reduceLT, Nat.reduceLeDiff, Nat.reduceAdd, Nat.reduceMul, Nat.reduceSub, reduceCtorEq, Int.reduceToNat]) | (refine Br.mk ?_ ?_ <;> intro h) | (refine BrN.mk (fun h => ?_) ?_) | (refine AltVC.mk ?_ ?_)
        refine loopK.mk 1 (by simp (disch := first | omega | (simp only [vlen]; first | done | omega)) only [vit, ↓vAq, vBq, ↓reduceIte, Nat.reduceBEq, Nat.reduceEqDiff, Nat.reduceLT, Nat.reduceLeDiff, Nat.reduceAdd, Nat.reduceMul, Nat.reduceSub, reduceCtorEq, Int.reduceToNat]) (by show 1 ≤ _; omega) (by show _ - 1 < _ - 0; omega) ?_
        rw [show h0 1 = .own true 1 [[.omp haK 4 []]] from rfl, s0o_s]
        (simp (disch := first | omega | (simp only [vlen]; first | done | omega)) only [Fits_u, Fits_m, Fits_nil, List.length_append, vit, ↓vAq, vBq, ↓reduceIte, Nat.reduceBEq, Nat.reduceEqDiff, Nat.reduceLT, Nat.reduceLeDiff, Nat.reduceAdd, Nat.reduceMul, Nat.reduceSub, reduceCtorEq, Int.reduceToNat] <;> (repeat' first | rfl | apply And.intro))
        all_goals trace_state
      | succ i =>
        rw [h0_s, s0o_s]
        repeat' first | ((first | refine Br.dec ?_ ?_ | refine Br.eqi ?_ ?_) <;> intro h <;> try (exfalso; omega)) | (simp (disch := first | omega | (simp only [vlen]; first | done | omega)) only [hm_kl, hr_rep, vit, ↓vAq, vBq, ↓reduceIte, Nat.reduceBEq, Nat.reduceEqDiff, Nat.reduceLT, Nat.reduceLeDiff, Nat.reduceAdd, Nat.reduceMul, Nat.reduceSub, reduceCtorEq, Int.reduceToNat]) | (refine Br.mk ?_ ?_ <;> intro h) | (refine BrN.mk (fun h => ?_) ?_) | (refine AltVC.mk ?_ ?_)
        refine loopK.fold 4 3 (i + 1) 0 true ?_
        repeat' first | ((first | refine Br.dec ?_ ?_ | refine Br.eqi ?_ ?_) <;> intro h <;> try (exfalso; omega)) | (simp (disch := first | omega | (simp only [vlen]; first | done | omega)) only [hr_get, hr_set, hr_len, hm_rep, hr_rep, hm_all, vit, ↓vAq, vBq, ↓reduceIte, Nat.reduceBEq, Nat.reduceEqDiff, Nat.reduceLT, Nat.reduceLeDiff, Nat.reduceAdd, Nat.reduceMul, Nat.reduceSub, reduceCtorEq, Int.reduceToNat]) | (refine Br.mk ?_ ?_ <;> intro h) | (refine BrN.mk (fun h => ?_) ?_) | (refine AltVC.mk ?_ ?_)
        refine loopK.fold 3 2 0 5 false ?_
        repeat' first | ((first | refine Br.dec ?_ ?_ | refine Br.eqi ?_ ?_) <;> intro h <;> try (exfalso; omega)) | (simp (disch := first | omega | (simp only [vlen]; first | done | omega)) only [hr_get, hr_set, hr_len, hm_rep, hr_rep, hm_all, vit, ↓vAq, vBq, ↓reduceIte, Nat.reduceBEq, Nat.reduceEqDiff, Nat.reduceLT, Nat.reduceLeDiff, Nat.reduceAdd, Nat.reduceMul, Nat.reduceSub, reduceCtorEq, Int.reduceToNat]) | (refine Br.mk ?_ ?_ <;> intro h) | (refine BrN.mk (fun h => ?_) ?_) | (refine AltVC.mk ?_ ?_)
        refine loopK.nlo 1 (i + 1) 0 3 ?_
        repeat' first | ((first | refine Br.dec ?_ ?_ | refine Br.eqi ?_ ?_) <;> intro h <;> try (exfalso; omega)) | (simp (disch := first | omega | (simp only [vlen]; first | done | omega)) only [h1, h2, h3, vit, ↓vAq, vBq, ↓reduceIte, Nat.reduceBEq, Nat.reduceEqDiff, Nat.reduceLT, Nat.reduceLeDiff, Nat.reduceAdd, Nat.reduceMul, Nat.reduceSub, reduceCtorEq, Int.reduceToNat]) | (refine Br.mk ?_ ?_ <;> intro h) | (refine BrN.mk (fun h => ?_) ?_) | (refine AltVC.mk ?_ ?_)
        refine loopK.mk (i + 2) (by simp (disch := first | omega | (simp only [vlen]; first | done | omega)) only [vit, ↓vAq, vBq, ↓reduceIte, Nat.reduceBEq, Nat.reduceEqDiff, Nat.reduceLT, Nat.reduceLeDiff, Nat.reduceAdd, Nat.reduceMul, Nat.reduceSub, reduceCtorEq, Int.reduceToNat]) (by show i + 2 ≤ _; omega) (by show _ - (i + 2) < _ - (i + 1); omega) ?_
        rw [h0_s, s0o_s]
        (simp (disch := first | omega | (simp only [vlen]; first | done | omega)) only [Fits_u, Fits_m, Fits_nil, List.length_append, vit, ↓vAq, vBq, ↓reduceIte, Nat.reduceBEq, Nat.reduceEqDiff, Nat.reduceLT, Nat.reduceLeDiff, Nat.reduceAdd, Nat.reduceMul, Nat.reduceSub, reduceCtorEq, Int.reduceToNat] <;> (repeat' first | rfl | apply And.intro))
        all_goals trace_state
    · have hie : i = w.length + 1 := by omega
      subst hie
      rw [h0_s, s0o_s, s0_end]
      repeat' first | ((first | refine Br.dec ?_ ?_ | refine Br.eqi ?_ ?_) <;> intro h <;> try (exfalso; omega)) | (simp (disch := first | omega | (simp only [vlen]; first | done | omega)) only [vit, ↓vAq, vBq, ↓reduceIte, Nat.reduceBEq, Nat.reduceEqDiff, Nat.reduceLT, Nat.reduceLeDiff, Nat.reduceAdd, Nat.reduceMul, Nat.reduceSub, reduceCtorEq, Int.reduceToNat]) | (refine Br.mk ?_ ?_ <;> intro h) | (refine BrN.mk (fun h => ?_) ?_) | (refine AltVC.mk ?_ ?_)
      refine CallVC.unf 2 0 5 ?_
      repeat' first | ((first | refine Br.dec ?_ ?_ | refine Br.eqi ?_ ?_) <;> intro h <;> try (exfalso; omega)) | (simp (disch := first | omega | (simp only [vlen]; first | done | omega)) only [vit, ↓vAq, vBq, ↓reduceIte, Nat.reduceBEq, Nat.reduceEqDiff, Nat.reduceLT, Nat.reduceLeDiff, Nat.reduceAdd, Nat.reduceMul, Nat.reduceSub, reduceCtorEq, Int.reduceToNat]) | (refine Br.mk ?_ ?_ <;> intro h) | (refine BrN.mk (fun h => ?_) ?_) | (refine AltVC.mk ?_ ?_)
      refine CallVC.stay 1 ?_
      repeat' first | ((first | refine Br.dec ?_ ?_ | refine Br.eqi ?_ ?_) <;> intro h <;> try (exfalso; omega)) | (simp (disch := first | omega | (simp only [vlen]; first | done | omega)) only [vit, ↓vAq, vBq, ↓reduceIte, Nat.reduceBEq, Nat.reduceEqDiff, Nat.reduceLT, Nat.reduceLeDiff, Nat.reduceAdd, Nat.reduceMul, Nat.reduceSub, reduceCtorEq, Int.reduceToNat]) | (refine Br.mk ?_ ?_ <;> intro h) | (refine BrN.mk (fun h => ?_) ?_) | (refine AltVC.mk ?_ ?_)
      refine CallVC.stay 3 ?_
      repeat' first | ((first | refine Br.dec ?_ ?_ | refine Br.eqi ?_ ?_) <;> intro h <;> try (exfalso; omega)) | (simp (disch := first | omega | (simp only [vlen]; first | done | omega)) only [vit, ↓vAq, vBq, ↓reduceIte, Nat.reduceBEq, Nat.reduceEqDiff, Nat.reduceLT, Nat.reduceLeDiff, Nat.reduceAdd, Nat.reduceMul, Nat.reduceSub, reduceCtorEq, Int.reduceToNat]) | (refine Br.mk ?_ ?_ <;> intro h) | (refine BrN.mk (fun h => ?_) ?_) | (refine AltVC.mk ?_ ?_)
      have hbe := begin_spec g w hc _ _ hi_0 (snd_0 (g := g)) 0 (Nat.zero_le _) g.start (fun r hr hl => .start hr hl)
      refine CallVC.lendE [2, 1, 3] [.ptr 0 6 0 0, iv .i64 (0 : Nat), iv .i64 g.start] (chO g _ _) hbe (by simp) (by rfl) (by unfold chO; simp (disch := first | omega | (simp only [vlen]; first | done | omega)) only [vle0, rl_len, hr_rep, vit, ↓vAq, vBq, ↓reduceIte, Nat.reduceBEq, Nat.reduceEqDiff, Nat.reduceLT, Nat.reduceLeDiff, Nat.reduceAdd, Nat.reduceMul, Nat.reduceSub, reduceCtorEq, Int.reduceToNat] <;> (repeat' first | rfl | apply And.intro)) ?_
      rintro _ _ ⟨rfl, S1, H1, rfl, e1, e2, e3, e4⟩
      have hl1 := e2.len
      unfold chO
      repeat' first | ((first | refine Br.dec ?_ ?_ | refine Br.eqi ?_ ?_) <;> intro h <;> try (exfalso; omega)) | (simp (disch := first | omega | (simp only [vlen]; first | done | omega)) only [vit, ↓vAq, vBq, ↓reduceIte, Nat.reduceBEq, Nat.reduceEqDiff, Nat.reduceLT, Nat.reduceLeDiff, Nat.reduceAdd, Nat.reduceMul, Nat.reduceSub, reduceCtorEq, Int.reduceToNat]) | (refine Br.mk ?_ ?_ <;> intro h) | (refine BrN.mk (fun h => ?_) ?_) | (refine AltVC.mk ?_ ?_)
      refine LoopVC.mk (X := Nat × List (List It) × List (List Ha)) (fun z => [(45, iv .i64 z.1)]) (fun z => chB g z.2.1 z.2.2) (fun z => w.length + 1 - z.1)
        (fun z => z.1 ≤ w.length ∧ HI z.2.1 z.2.2 ∧ Snd g w z.2.1 ∧ Dn g w z.1 z.2.1) (0, S1, H1) ⟨Nat.zero_le _, e1, e2, ⟨e4, fun j hj => absurd hj (Nat.not_lt_zero _), fun j hj => absurd hj (Nat.not_lt_zero _)⟩⟩ ?_ ?_
      · unfold chB
        (simp (disch := first | omega | (simp only [vlen]; first | done | omega)) only [Fits_u, Fits_m, Fits_nil, List.length_append, vit, ↓vAq, vBq, ↓reduceIte, Nat.reduceBEq, Nat.reduceEqDiff, Nat.reduceLT, Nat.reduceLeDiff, Nat.reduceAdd, Nat.reduceMul, Nat.reduceSub, reduceCtorEq, Int.reduceToNat] <;> (repeat' first | rfl | apply And.intro))
        all_goals trace_state
      · rintro ⟨i, S2, H2⟩ ⟨k1, k2, k3, k4⟩
        simp only at k1 k2 k3 k4 ⊢
        have hl2 := k3.len
        have hcl := close_spec g w hc S2 H2 k2 k3 i k1
        unfold chB
        repeat' first | ((first | refine Br.dec ?_ ?_ | refine Br.eqi ?_ ?_) <;> intro h <;> try (exfalso; omega)) | (simp (disch := first | omega | (simp only [vlen]; first | done | omega)) only [vit, ↓vAq, vBq, ↓reduceIte, Nat.reduceBEq, Nat.reduceEqDiff, Nat.reduceLT, Nat.reduceLeDiff, Nat.reduceAdd, Nat.reduceMul, Nat.reduceSub, reduceCtorEq, Int.reduceToNat]) | (refine Br.mk ?_ ?_ <;> intro h) | (refine BrN.mk (fun h => ?_) ?_) | (refine AltVC.mk ?_ ?_)
        refine CallVC.lendE [2, 1, 3] [.ptr 0 6 0 0, iv .i64 i] (chO g S2 H2) hcl (by simp) (by rfl) (by unfold chO; simp (disch := first | omega | (simp only [vlen]; first | done | omega)) only [vle0, vit, ↓vAq, vBq, ↓reduceIte, Nat.reduceBEq, Nat.reduceEqDiff, Nat.reduceLT, Nat.reduceLeDiff, Nat.reduceAdd, Nat.reduceMul, Nat.reduceSub, reduceCtorEq, Int.reduceToNat] <;> (repeat' first | rfl | apply And.intro)) ?_
        rintro _ _ ⟨rfl, S3, H3, rfl, f1, f2, f3, f4⟩
        have hl3 := f2.len
        have k5 := k4.ext k3 f3 (Nat.le_refl _)
        have hs3 : (S3.getD i default).length ≤ 650 := hc.small f2 i
        unfold chO
        by_cases hiw : i = w.length
        · subst hiw
          repeat' first | ((first | refine Br.dec ?_ ?_ | refine Br.eqi ?_ ?_) <;> intro h <;> try (exfalso; omega)) | (simp (disch := first | omega | (simp only [vlen]; first | done | omega)) only [vit, ↓vAq, vBq, ↓reduceIte, Nat.reduceBEq, Nat.reduceEqDiff, Nat.reduceLT, Nat.reduceLeDiff, Nat.reduceAdd, Nat.reduceMul, Nat.reduceSub, reduceCtorEq, Int.reduceToNat]) | (refine Br.mk ?_ ?_ <;> intro h) | (refine BrN.mk (fun h => ?_) ?_) | (refine AltVC.mk ?_ ?_)
          exact bu_fin (g := g) (S := S3) (H := H3) (by simp (disch := first | omega | (simp only [vlen]; first | done | omega)) only [vit, ↓vAq, vBq, ↓reduceIte, Nat.reduceBEq, Nat.reduceEqDiff, Nat.reduceLT, Nat.reduceLeDiff, Nat.reduceAdd, Nat.reduceMul, Nat.reduceSub, reduceCtorEq, Int.reduceToNat]) (by unfold buO; simp (disch := first | omega | (simp only [vlen]; first | done | omega)) only [vit, ↓vAq, vBq, ↓reduceIte, Nat.reduceBEq, Nat.reduceEqDiff, Nat.reduceLT, Nat.reduceLeDiff, Nat.reduceAdd, Nat.reduceMul, Nat.reduceSub, reduceCtorEq, Int.reduceToNat]) ⟨by simp (disch := first | omega | (simp only [vlen]; first | done | omega)) only [vit, ↓vAq, vBq, ↓reduceIte, Nat.reduceBEq, Nat.reduceEqDiff, Nat.reduceLT, Nat.reduceLeDiff, Nat.reduceAdd, Nat.reduceMul, Nat.reduceSub, reduceCtorEq, Int.reduceToNat], S3, H3, rfl, f2, k5.clo f4⟩
        · repeat' first | ((first | refine Br.dec ?_ ?_ | refine Br.eqi ?_ ?_) <;> intro h <;> try (exfalso; omega)) | (simp (disch := first | omega | (simp only [vlen]; first | done | omega)) only [vit, ↓vAq, vBq, ↓reduceIte, Nat.reduceBEq, Nat.reduceEqDiff, Nat.reduceLT, Nat.reduceLeDiff, Nat.reduceAdd, Nat.reduceMul, Nat.reduceSub, reduceCtorEq, Int.reduceToNat]) | (refine Br.mk ?_ ?_ <;> intro h) | (refine BrN.mk (fun h => ?_) ?_) | (refine AltVC.mk ?_ ?_)
          by_cases hL : (S3.getD i default).length = 0
          · have hback : (tbl scR S3).set i [.own false 3 (tbl itD (S3.getD i default))] = tbl scR S3 := by rw [sc_set, ss_same (by omega)]
            refine LoopVC.mk (X := Nat) (fun z => [(63, iv .i64 (0 : Nat)), (61, .ref 4 3 0 (S3.getD i default).length)]) (fun z => chC g S3 H3 i (S3.getD i default) .arr) (fun z => 0) (fun z => True) 0 trivial ?_ ?_
            · unfold chC
              (simp (disch := first | omega | (simp only [vlen]; first | done | omega)) only [Fits_u, Fits_m, Fits_nil, List.length_append, vit, ↓vAq, vBq, ↓reduceIte, Nat.reduceBEq, Nat.reduceEqDiff, Nat.reduceLT, Nat.reduceLeDiff, Nat.reduceAdd, Nat.reduceMul, Nat.reduceSub, reduceCtorEq, Int.reduceToNat] <;> (repeat' first | rfl | apply And.intro))
              all_goals trace_state
            · intro z _
              unfold chC
              repeat' first | ((first | refine Br.dec ?_ ?_ | refine Br.eqi ?_ ?_) <;> intro h <;> try (exfalso; omega)) | (simp (disch := first | omega | (simp only [vlen]; first | done | omega)) only [hL, vit, ↓vAq, vBq, ↓reduceIte, Nat.reduceBEq, Nat.reduceEqDiff, Nat.reduceLT, Nat.reduceLeDiff, Nat.reduceAdd, Nat.reduceMul, Nat.reduceSub, reduceCtorEq, Int.reduceToNat]) | (refine Br.mk ?_ ?_ <;> intro h) | (refine BrN.mk (fun h => ?_) ?_) | (refine AltVC.mk ?_ ?_)
              refine loopK.fold 4 1 i 0 true ?_
              repeat' first | ((first | refine Br.dec ?_ ?_ | refine Br.eqi ?_ ?_) <;> intro h <;> try (exfalso; omega)) | (simp (disch := first | omega | (simp only [vlen]; first | done | omega)) only [hback, vit, ↓vAq, vBq, ↓reduceIte, Nat.reduceBEq, Nat.reduceEqDiff, Nat.reduceLT, Nat.reduceLeDiff, Nat.reduceAdd, Nat.reduceMul, Nat.reduceSub, reduceCtorEq, Int.reduceToNat]) | (refine Br.mk ?_ ?_ <;> intro h) | (refine BrN.mk (fun h => ?_) ?_) | (refine AltVC.mk ?_ ?_)
              refine loopK.mk (i + 1, S3, H3) (by simp (disch := first | omega | (simp only [vlen]; first | done | omega)) only [vit, ↓vAq, vBq, ↓reduceIte, Nat.reduceBEq, Nat.reduceEqDiff, Nat.reduceLT, Nat.reduceLeDiff, Nat.reduceAdd, Nat.reduceMul, Nat.reduceSub, reduceCtorEq, Int.reduceToNat]) ⟨by show i + 1 ≤ w.length; omega, f1, f2, ⟨k5.b, fun p hp => by
                by_cases e : p = i
                · subst e; exact f4
                · exact k5.c p (by omega), fun p hp => by
                by_cases e : p = i
                · subst e
                  intro y hy hn
                  obtain ⟨q, hq, rfl⟩ := mem_ix hy
                  have h7 : q < (S3.getD p default).length := hq
                  omega
                · exact k5.s p (by omega)⟩⟩ (by show w.length + 1 - (i + 1) < w.length + 1 - i; omega) ?_
              (simp (disch := first | omega | (simp only [vlen]; first | done | omega)) only [Fits_u, Fits_m, Fits_nil, List.length_append, hback, vit, ↓vAq, vBq, ↓reduceIte, Nat.reduceBEq, Nat.reduceEqDiff, Nat.reduceLT, Nat.reduceLeDiff, Nat.reduceAdd, Nat.reduceMul, Nat.reduceSub, reduceCtorEq, Int.reduceToNat] <;> (repeat' first | rfl | apply And.intro))
              all_goals trace_state
          refine LoopVC.stay 4 ?_
          repeat' first | ((first | refine Br.dec ?_ ?_ | refine Br.eqi ?_ ?_) <;> intro h <;> try (exfalso; omega)) | (simp (disch := first | omega | (simp only [vlen]; first | done | omega)) only [vit, ↓vAq, vBq, ↓reduceIte, Nat.reduceBEq, Nat.reduceEqDiff, Nat.reduceLT, Nat.reduceLeDiff, Nat.reduceAdd, Nat.reduceMul, Nat.reduceSub, reduceCtorEq, Int.reduceToNat]) | (refine Br.mk ?_ ?_ <;> intro h) | (refine BrN.mk (fun h => ?_) ?_) | (refine AltVC.mk ?_ ?_)
          refine LoopVC.mk (X := Nat × List (List It) × List (List Ha)) (fun z => [(63, iv .i64 z.1), (61, .ref 4 3 0 (S3.getD i default).length)]) (fun z => chC g z.2.1 z.2.2 i (S3.getD i default) .fix) (fun z => 651 - z.1)
            (fun z => z.1 ≤ (S3.getD i default).length ∧ HI z.2.1 z.2.2 ∧ Snd g w z.2.1 ∧ Ext (i + 1) S3 z.2.1 ∧ ∀ q, q < z.1 → nxt g ((S3.getD i default).getD q default) = some (w.getD i 0) → (((S3.getD i default).getD q default).1, ((S3.getD i default).getD q default).2.1 + 1, ((S3.getD i default).getD q default).2.2) ∈ z.2.1.getD (i + 1) []) (0, S3, H3) ⟨Nat.zero_le _, f1, f2, .refl, fun q hq => absurd hq (Nat.not_lt_zero _)⟩ ?_ ?_
          · unfold chC
            (simp (disch := first | omega | (simp only [vlen]; first | done | omega)) only [Fits_u, Fits_m, Fits_nil, List.length_append, vit, ↓vAq, vBq, ↓reduceIte, Nat.reduceBEq, Nat.reduceEqDiff, Nat.reduceLT, Nat.reduceLeDiff, Nat.reduceAdd, Nat.reduceMul, Nat.reduceSub, reduceCtorEq, Int.reduceToNat] <;> (repeat' first | rfl | apply And.intro))
            all_goals trace_state
          · rintro ⟨j, S4, H4⟩ ⟨m1, m2, m3, m4, m5⟩
            simp only at m1 m2 m3 m4 m5 ⊢
            have hl4 := m3.len
            have hrow : S4.getD i default = S3.getD i default := m4.oth i (by omega)
            have hrow' : S4.getD i [] = S3.getD i [] := hrow
            unfold chC
            by_cases hlt : j < (S3.getD i default).length
            · have hxE : Ear g w i ((S3.getD i default).getD j default) := f2.ear _ _ (getD_mem' hlt)
              generalize hx : (S3.getD i default).getD j default = x at *
              obtain ⟨c1, c2, c3, c4, c5, c6, c7⟩ := Ear.bd hc hxE
              have hnx := next2_spec g S4 H4 i x c1 c2
              cases hny : nxt g x with
              | none =>
                rw [nxD_none hny] at hnx
                repeat' first | ((first | refine Br.dec ?_ ?_ | refine Br.eqi ?_ ?_) <;> intro h <;> try (exfalso; omega)) | (simp (disch := first | omega | (simp only [vlen]; first | done | omega)) only [hx, vit, ↓vAq, vBq, ↓reduceIte, Nat.reduceBEq, Nat.reduceEqDiff, Nat.reduceLT, Nat.reduceLeDiff, Nat.reduceAdd, Nat.reduceMul, Nat.reduceSub, reduceCtorEq, Int.reduceToNat]) | (refine Br.mk ?_ ?_ <;> intro h) | (refine BrN.mk (fun h => ?_) ?_) | (refine AltVC.mk ?_ ?_)
                refine CallVC.lendE [2, 1, 3, 4] [.ptr 0 6 0 0, .ag (itD x)] (chP g S4 H4 i) hnx (by simp) (by rfl) (by unfold chP; simp (disch := first | omega | (simp only [vlen]; first | done | omega)) only [vle0, hrow, pr_ren, vit, ↓vAq, vBq, ↓reduceIte, Nat.reduceBEq, Nat.reduceEqDiff, Nat.reduceLT, Nat.reduceLeDiff, Nat.reduceAdd, Nat.reduceMul, Nat.reduceSub, reduceCtorEq, Int.reduceToNat] <;> (repeat' first | rfl | apply And.intro)) ?_
                rintro _ _ ⟨rfl, rfl⟩
                unfold chP
                repeat' first | ((first | refine Br.dec ?_ ?_ | refine Br.eqi ?_ ?_) <;> intro h <;> try (exfalso; omega)) | (simp (disch := first | omega | (simp only [vlen]; first | done | omega)) only [hrow, pr_ren, vit, ↓vAq, vBq, ↓reduceIte, Nat.reduceBEq, Nat.reduceEqDiff, Nat.reduceLT, Nat.reduceLeDiff, Nat.reduceAdd, Nat.reduceMul, Nat.reduceSub, reduceCtorEq, Int.reduceToNat]) | (refine Br.mk ?_ ?_ <;> intro h) | (refine BrN.mk (fun h => ?_) ?_) | (refine AltVC.mk ?_ ?_)
                refine loopK.mk (j + 1, S4, H4) (by simp (disch := first | omega | (simp only [vlen]; first | done | omega)) only [vit, ↓vAq, vBq, ↓reduceIte, Nat.reduceBEq, Nat.reduceEqDiff, Nat.reduceLT, Nat.reduceLeDiff, Nat.reduceAdd, Nat.reduceMul, Nat.reduceSub, reduceCtorEq, Int.reduceToNat]) ⟨by show j + 1 ≤ (S3.getD i default).length; omega, m2, m3, m4, fun q hq hl => by
                  by_cases e : q = j
                  · subst e; rw [hx, hny] at hl; cases hl
                  · exact m5 q (by omega) hl⟩ (by show 651 - (j + 1) < 651 - j; omega) ?_
                (simp (disch := first | omega | (simp only [vlen]; first | done | omega)) only [Fits_u, Fits_m, Fits_nil, List.length_append, hrow, sr_trim, pr_ren, vit, ↓vAq, vBq, ↓reduceIte, Nat.reduceBEq, Nat.reduceEqDiff, Nat.reduceLT, Nat.reduceLeDiff, Nat.reduceAdd, Nat.reduceMul, Nat.reduceSub, reduceCtorEq, Int.reduceToNat] <;> (repeat' first | rfl | apply And.intro))
                all_goals trace_state
              | some c =>
                rw [nxD_some hny] at hnx
                repeat' first | ((first | refine Br.dec ?_ ?_ | refine Br.eqi ?_ ?_) <;> intro h <;> try (exfalso; omega)) | (simp (disch := first | omega | (simp only [vlen]; first | done | omega)) only [hx, vit, ↓vAq, vBq, ↓reduceIte, Nat.reduceBEq, Nat.reduceEqDiff, Nat.reduceLT, Nat.reduceLeDiff, Nat.reduceAdd, Nat.reduceMul, Nat.reduceSub, reduceCtorEq, Int.reduceToNat]) | (refine Br.mk ?_ ?_ <;> intro h) | (refine BrN.mk (fun h => ?_) ?_) | (refine AltVC.mk ?_ ?_)
                refine CallVC.lendE [2, 1, 3, 4] [.ptr 0 6 0 0, .ag (itD x)] (chP g S4 H4 i) hnx (by simp) (by rfl) (by unfold chP; simp (disch := first | omega | (simp only [vlen]; first | done | omega)) only [vle0, hrow, pr_ren, vit, ↓vAq, vBq, ↓reduceIte, Nat.reduceBEq, Nat.reduceEqDiff, Nat.reduceLT, Nat.reduceLeDiff, Nat.reduceAdd, Nat.reduceMul, Nat.reduceSub, reduceCtorEq, Int.reduceToNat] <;> (repeat' first | rfl | apply And.intro)) ?_
                rintro _ _ ⟨rfl, rfl⟩
                unfold chP
                by_cases hcw : c = w.getD i 0
                · have hE : Ear g w (i + 1) (x.1, x.2.1 + 1, x.2.2) := .scan hxE (by omega) (by rw [hny, hcw])
                  obtain ⟨d1, d2, d3, d4, d5, d6, d7⟩ := Ear.bd hc hE
                  have hsm : (S4.getD (i + 1) []).length ≤ 650 := hc.small m3 (i + 1)
                  have had := add2_spec g S4 H4 m2 i (i + 1) (by omega) (by omega) (by omega) (x.1, x.2.1 + 1, x.2.2) ⟨d5, d6, d7⟩
                  repeat' first | ((first | refine Br.dec ?_ ?_ | refine Br.eqi ?_ ?_) <;> intro h <;> try (exfalso; omega)) | (simp (disch := first | omega | (simp only [vlen]; first | done | omega)) only [hrow, pr_ren, vit, ↓vAq, vBq, ↓reduceIte, Nat.reduceBEq, Nat.reduceEqDiff, Nat.reduceLT, Nat.reduceLeDiff, Nat.reduceAdd, Nat.reduceMul, Nat.reduceSub, reduceCtorEq, Int.reduceToNat]) | (refine Br.mk ?_ ?_ <;> intro h) | (refine BrN.mk (fun h => ?_) ?_) | (refine AltVC.mk ?_ ?_)
                  refine CallVC.lendE [2, 1, 3, 4] [.ptr 0 6 0 0, iv .i64 (i + 1 : Nat), .ag (itD (x.1, x.2.1 + 1, x.2.2))] (chP g S4 H4 i) had (by simp) (by rfl) (by unfold chP; simp (disch := first | omega | (simp only [vlen]; first | done | omega)) only [vle0, hrow, pr_ren, vit, ↓vAq, vBq, ↓reduceIte, Nat.reduceBEq, Nat.reduceEqDiff, Nat.reduceLT, Nat.reduceLeDiff, Nat.reduceAdd, Nat.reduceMul, Nat.reduceSub, reduceCtorEq, Int.reduceToNat] <;> (repeat' first | rfl | apply And.intro)) ?_
                  rintro _ _ ⟨rfl, H5, rfl, n6⟩
                  have hxt := addS_ext (S := S4) (i := i + 1) (x := (x.1, x.2.1 + 1, x.2.2)) (by omega)
                  have hl5 := hxt.len
                  have hrow5 : (addS S4 (i + 1) (x.1, x.2.1 + 1, x.2.2)).getD i default = S3.getD i default := (hxt.oth i (by omega)).trans hrow
                  unfold chP
                  repeat' first | ((first | refine Br.dec ?_ ?_ | refine Br.eqi ?_ ?_) <;> intro h <;> try (exfalso; omega)) | (simp (disch := first | omega | (simp only [vlen]; first | done | omega)) only [hrow5, pr_ren, vit, ↓vAq, vBq, ↓reduceIte, Nat.reduceBEq, Nat.reduceEqDiff, Nat.reduceLT, Nat.reduceLeDiff, Nat.reduceAdd, Nat.reduceMul, Nat.reduceSub, reduceCtorEq, Int.reduceToNat]) | (refine Br.mk ?_ ?_ <;> intro h) | (refine BrN.mk (fun h => ?_) ?_) | (refine AltVC.mk ?_ ?_)
                  refine loopK.mk (j + 1, addS S4 (i + 1) (x.1, x.2.1 + 1, x.2.2), H5) (by simp (disch := first | omega | (simp only [vlen]; first | done | omega)) only [vit, ↓vAq, vBq, ↓reduceIte, Nat.reduceBEq, Nat.reduceEqDiff, Nat.reduceLT, Nat.reduceLeDiff, Nat.reduceAdd, Nat.reduceMul, Nat.reduceSub, reduceCtorEq, Int.reduceToNat]) ⟨by show j + 1 ≤ (S3.getD i default).length; omega, n6, m3.add hE, m4.trans hxt, fun q hq hl => by
                    by_cases e : q = j
                    · subst e; rw [hx]; exact addS_mem (by omega)
                    · exact hxt.sub (m5 q (by omega) hl)⟩ (by show 651 - (j + 1) < 651 - j; omega) ?_
                  (simp (disch := first | omega | (simp only [vlen]; first | done | omega)) only [Fits_u, Fits_m, Fits_nil, List.length_append, hrow5, sr_trim, pr_ren, vit, ↓vAq, vBq, ↓reduceIte, Nat.reduceBEq, Nat.reduceEqDiff, Nat.reduceLT, Nat.reduceLeDiff, Nat.reduceAdd, Nat.reduceMul, Nat.reduceSub, reduceCtorEq, Int.reduceToNat] <;> (repeat' first | rfl | apply And.intro))
                  all_goals trace_state
                · repeat' first | ((first | refine Br.dec ?_ ?_ | refine Br.eqi ?_ ?_) <;> intro h <;> try (exfalso; omega)) | (simp (disch := first | omega | (simp only [vlen]; first | done | omega)) only [hrow, pr_ren, vit, ↓vAq, vBq, ↓reduceIte, Nat.reduceBEq, Nat.reduceEqDiff, Nat.reduceLT, Nat.reduceLeDiff, Nat.reduceAdd, Nat.reduceMul, Nat.reduceSub, reduceCtorEq, Int.reduceToNat]) | (refine Br.mk ?_ ?_ <;> intro h) | (refine BrN.mk (fun h => ?_) ?_) | (refine AltVC.mk ?_ ?_)
                  refine loopK.mk (j + 1, S4, H4) (by simp (disch := first | omega | (simp only [vlen]; first | done | omega)) only [vit, ↓vAq, vBq, ↓reduceIte, Nat.reduceBEq, Nat.reduceEqDiff, Nat.reduceLT, Nat.reduceLeDiff, Nat.reduceAdd, Nat.reduceMul, Nat.reduceSub, reduceCtorEq, Int.reduceToNat]) ⟨by show j + 1 ≤ (S3.getD i default).length; omega, m2, m3, m4, fun q hq hl => by
                    by_cases e : q = j
                    · subst e; rw [hx, hny] at hl; exact absurd (Option.some.inj hl) hcw
                    · exact m5 q (by omega) hl⟩ (by show 651 - (j + 1) < 651 - j; omega) ?_
                  (simp (disch := first | omega | (simp only [vlen]; first | done | omega)) only [Fits_u, Fits_m, Fits_nil, List.length_append, hrow, sr_trim, pr_ren, vit, ↓vAq, vBq, ↓reduceIte, Nat.reduceBEq, Nat.reduceEqDiff, Nat.reduceLT, Nat.reduceLeDiff, Nat.reduceAdd, Nat.reduceMul, Nat.reduceSub, reduceCtorEq, Int.reduceToNat] <;> (repeat' first | rfl | apply And.intro))
                  all_goals trace_state
            · have hback : (tbl scR S4).set i [.own false 3 (tbl itD (S3.getD i default))] = tbl scR S4 := by rw [sc_set, ← hrow, ss_same (by omega)]
              have k6 := k5.ext f2 m4 (by omega)
              repeat' first | ((first | refine Br.dec ?_ ?_ | refine Br.eqi ?_ ?_) <;> intro h <;> try (exfalso; omega)) | (simp (disch := first | omega | (simp only [vlen]; first | done | omega)) only [vit, ↓vAq, vBq, ↓reduceIte, Nat.reduceBEq, Nat.reduceEqDiff, Nat.reduceLT, Nat.reduceLeDiff, Nat.reduceAdd, Nat.reduceMul, Nat.reduceSub, reduceCtorEq, Int.reduceToNat]) | (refine Br.mk ?_ ?_ <;> intro h) | (refine BrN.mk (fun h => ?_) ?_) | (refine AltVC.mk ?_ ?_)
              refine loopK.fold 4 1 i 0 true ?_
              repeat' first | ((first | refine Br.dec ?_ ?_ | refine Br.eqi ?_ ?_) <;> intro h <;> try (exfalso; omega)) | (simp (disch := first | omega | (simp only [vlen]; first | done | omega)) only [hback, vit, ↓vAq, vBq, ↓reduceIte, Nat.reduceBEq, Nat.reduceEqDiff, Nat.reduceLT, Nat.reduceLeDiff, Nat.reduceAdd, Nat.reduceMul, Nat.reduceSub, reduceCtorEq, Int.reduceToNat]) | (refine Br.mk ?_ ?_ <;> intro h) | (refine BrN.mk (fun h => ?_) ?_) | (refine AltVC.mk ?_ ?_)
              refine loopK.mk (i + 1, S4, H4) (by simp (disch := first | omega | (simp only [vlen]; first | done | omega)) only [vit, ↓vAq, vBq, ↓reduceIte, Nat.reduceBEq, Nat.reduceEqDiff, Nat.reduceLT, Nat.reduceLeDiff, Nat.reduceAdd, Nat.reduceMul, Nat.reduceSub, reduceCtorEq, Int.reduceToNat]) ⟨by show i + 1 ≤ w.length; omega, m2, m3, ⟨k6.b, fun p hp => by
                by_cases e : p = i
                · subst e; exact f4.ext f2 m4 (by omega)
                · exact k6.c p (by omega), fun p hp => by
                by_cases e : p = i
                · subst e
                  intro y hy hn
                  rw [hrow'] at hy
                  obtain ⟨q, hq, rfl⟩ := mem_ix hy
                  exact m5 q (by have h7 : q < (S3.getD p default).length := hq; omega) hn
                · exact k6.s p (by omega)⟩⟩ (by show w.length + 1 - (i + 1) < w.length + 1 - i; omega) ?_
              (simp (disch := first | omega | (simp only [vlen]; first | done | omega)) only [Fits_u, Fits_m, Fits_nil, List.length_append, hback, vit, ↓vAq, vBq, ↓reduceIte, Nat.reduceBEq, Nat.reduceEqDiff, Nat.reduceLT, Nat.reduceLeDiff, Nat.reduceAdd, Nat.reduceMul, Nat.reduceSub, reduceCtorEq, Int.reduceToNat] <;> (repeat' first | rfl | apply And.intro))
              all_goals trace_state
end Go.Proofs.Ytplkkacfjepgpaa

namespace Go.Dm
set_option linter.unusedSimpArgs false
set_option linter.unusedVariables false
inductive Der (g : Grammar) (w : List Int) : List Int → Nat → Nat → Prop
  | nil {i : Nat} : Der g w [] i i
  | sym {x : Int} {s : List Int} {i j : Nat} (hx : x < g.k) (hi : i < w.length) (hw : w.getD i 0 = x) (h : Der g w s (i + 1) j) : Der g w (x :: s) i j
  | name {x : Int} {s : List Int} {i m j q : Nat} (hx : ¬ x < g.k) (hq : q < g.rules.length) (hl : (g.rules.getD q default).left = x - g.k) (h1 : Der g w (g.rules.getD q default).right i m) (h2 : Der g w s m j) : Der g w (x :: s) i j
theorem Der.le {g : Grammar} {w : List Int} {s : List Int} {i j : Nat} (h : Der g w s i j) : i ≤ j ∧ (i ≤ w.length → j ≤ w.length) := by
  induction h with
  | nil => exact ⟨Nat.le_refl _, fun h => h⟩
  | sym _ hi _ _ ih => exact ⟨by omega, fun _ => ih.2 (by omega)⟩
  | name _ _ _ _ _ ih1 ih2 => exact ⟨by omega, fun h => ih2.2 (ih1.2 h)⟩
theorem Der.app {g : Grammar} {w : List Int} {a b : List Int} {i m j : Nat} (h : Der g w a i m) (k : Der g w b m j) : Der g w (a ++ b) i j := by
  induction h with
  | nil => exact k
  | sym hx hi hw _ ih => exact .sym hx hi hw (ih k)
  | name hx hq hl h1 _ _ ih2 => exact .name hx hq hl h1 (ih2 k)
theorem Der.cons {g : Grammar} {w : List Int} {x : Int} {s : List Int} {i j : Nat} (h : Der g w (x :: s) i j) : ∃ m, Der g w [x] i m ∧ Der g w s m j := by
  cases h with
  | sym hx hi hw h => exact ⟨_, .sym hx hi hw .nil, h⟩
  | name hx hq hl h1 h2 => exact ⟨_, .name hx hq hl h1 .nil, h2⟩
theorem Der.split {g : Grammar} {w : List Int} {b : List Int} : ∀ {a : List Int} {i j : Nat}, Der g w (a ++ b) i j → ∃ m, Der g w a i m ∧ Der g w b m j
  | [], i, j, h => ⟨i, .nil, h⟩
  | x :: a, i, j, h => by
    obtain ⟨m, h1, h2⟩ := Der.cons (s := a ++ b) h
    obtain ⟨m', h3, h4⟩ := Der.split h2
    exact ⟨m', Der.app h1 h3, h4⟩
theorem der_sym {g : Grammar} {w : List Int} {x : Int} {i j : Nat} (hx : x < g.k) : Der g w [x] i j ↔ j = i + 1 ∧ i < w.length ∧ w.getD i 0 = x := by
  constructor
  · intro h
    cases h with
    | sym _ hi hw h => cases h; exact ⟨rfl, hi, hw⟩
    | name h => exact absurd hx h
  · rintro ⟨rfl, hi, hw⟩; exact .sym hx hi hw .nil
theorem der_name {g : Grammar} {w : List Int} {x : Int} {i j : Nat} (hx : ¬ x < g.k) : Der g w [x] i j ↔ ∃ q, q < g.rules.length ∧ (g.rules.getD q default).left = x - g.k ∧ Der g w (g.rules.getD q default).right i j := by
  constructor
  · intro h
    cases h with
    | sym h => exact absurd h hx
    | name _ hq hl h1 h2 => cases h2; exact ⟨_, hq, hl, h1⟩
  · rintro ⟨q, hq, hl, h⟩; exact .name hx hq hl h .nil
def oneB (g : Grammar) (w : List Int) (t : Nat → Nat → Nat → Bool) (x : Int) (i m : Nat) : Bool := if x < g.k then decide (m = i + 1 ∧ i < w.length ∧ w.getD i 0 = x) else t (x - g.k).toNat i m
def ovB (g : Grammar) (w : List Int) (t : Nat → Nat → Nat → Bool) : List Int → Nat → Nat → Bool
  | [], i, j => decide (i = j)
  | x :: s, i, j => (List.range (j + 1)).any fun m => decide (i ≤ m) && oneB g w t x i m && ovB g w t s m j
theorem ovB_cons {g : Grammar} {w : List Int} {t : Nat → Nat → Nat → Bool} {x : Int} {s : List Int} {i j : Nat} : ovB g w t (x :: s) i j = true ↔ ∃ m, i ≤ m ∧ m ≤ j ∧ oneB g w t x i m = true ∧ ovB g w t s m j = true := by
  simp only [ovB, List.any_eq_true, List.mem_range, Bool.and_eq_true, decide_eq_true_eq]
  constructor
  · rintro ⟨m, h1, ⟨h2, h3⟩, h4⟩; exact ⟨m, h2, by omega, h3, h4⟩
  · rintro ⟨m, h1, h2, h3, h4⟩; exact ⟨m, by omega, ⟨h1, h3⟩, h4⟩
theorem ovB_sound {g : Grammar} {w : List Int} {t : Nat → Nat → Nat → Bool} (hs : ∀ a i j, i ≤ j → t a i j = true → Der g w [g.k + a] i j) : ∀ {s : List Int} {i j : Nat}, ovB g w t s i j = true → Der g w s i j
  | [], i, j, h => by have : i = j := by simpa [ovB] using h
                      subst this; exact .nil
  | x :: s, i, j, h => by
    obtain ⟨m, h1, h2, h3, h4⟩ := ovB_cons.mp h
    have k := ovB_sound hs h4
    unfold oneB at h3
    split at h3
    · next hx =>
      have h5 := of_decide_eq_true h3
      exact Der.app ((der_sym hx).mpr h5) k
    · next hx =>
      have h5 := hs _ _ _ h1 h3
      rw [show g.k + ((x - g.k).toNat : Int) = x by omega] at h5
      exact Der.app h5 k
theorem ovB_all {g : Grammar} {w : List Int} {t : Nat → Nat → Nat → Bool} (hc : ∀ q, q < g.rules.length → ∀ i j, i ≤ j → j ≤ w.length → ovB g w t (g.rules.getD q default).right i j = true → t (g.rules.getD q default).left.toNat i j = true)
    {s : List Int} {i j : Nat} (h : Der g w s i j) : i ≤ w.length → ovB g w t s i j = true := by
  induction h with
  | nil => intro _; simp [ovB]
  | sym hx hi hw h ih =>
    intro _
    exact ovB_cons.mpr ⟨_, Nat.le_succ _, h.le.1, by unfold oneB; rw [if_pos hx]; exact decide_eq_true ⟨rfl, hi, hw⟩, ih (by omega)⟩
  | name hx hq hl h1 h2 ih1 ih2 =>
    intro hi
    have hm := h1.le.2 hi
    refine ovB_cons.mpr ⟨_, h1.le.1, h2.le.1, ?_, ih2 hm⟩
    unfold oneB
    rw [if_neg hx, ← hl]
    exact hc _ hq _ _ h1.le.1 hm (ih1 hi)
end Go.Dm

namespace Go.Dm
set_option linter.unusedSimpArgs false
set_option linter.unusedVariables false
set_option linter.unnecessarySimpa false
structure GW (g : Grammar) (w : List Int) : Prop where
  k : ∀ i, i < w.length → w.getD i 0 < g.k
  l : ∀ r, r < g.rules.length → 0 ≤ lft g r
theorem take_nxt {g : Grammar} {x : It} {s : Int} (h : nxt g x = some s) : (rgt g x.1).take (x.2.1 + 1) = (rgt g x.1).take x.2.1 ++ [s] := by
  rw [List.take_add_one]; unfold nxt at h; rw [h]; rfl
theorem drop_nxt {g : Grammar} {r d f : Nat} {x : Int} {s : List Int} (h : (rgt g r).drop d = x :: s) : nxt g (r, d, f) = some x ∧ (rgt g r).drop (d + 1) = s := by
  constructor
  · unfold nxt
    have : ((rgt g r).drop d)[0]? = some x := by rw [h]; rfl
    rw [List.getElem?_drop] at this
    simpa using this
  · rw [show d + 1 = d + 1 from rfl, ← List.drop_drop, h]; rfl
theorem Ear.snd {g : Grammar} {w : List Int} (hw : GW g w) {i : Nat} {x : It} (h : Ear g w i x) : Der g w ((rgt g x.1).take x.2.1) x.2.2 i := by
  induction h with
  | start hr hl => rw [List.take_zero]; exact .nil
  | pred h hx hr ih => rw [List.take_zero]; exact .nil
  | @scan i x h hi hx ih =>
    rw [take_nxt hx]
    exact ih.app ((der_sym (hw.k i hi)).2 ⟨rfl, hi, rfl⟩)
  | @comp i x y h hx hy hn ih1 ih2 =>
    rw [take_nxt hn]
    refine ih2.app ((der_name (by have := hw.l x.1 h.wi.1; omega)).2 ⟨x.1, h.wi.1, by show lft g x.1 = _; omega, ?_⟩)
    have := nxt_none hx
    rw [List.take_of_length_le this] at ih1
    exact ih1
theorem Ear.cmp {g : Grammar} {w : List Int} {s : List Int} {i j : Nat} (hd : Der g w s i j) : ∀ r d f, Ear g w i (r, d, f) → (rgt g r).drop d = s → Ear g w j (r, d + s.length, f) := by
  induction hd with
  | nil => intro r d f h _; exact h
  | @sym x s i j hx hi hw h ih =>
    intro r d f he hs
    obtain ⟨h1, h2⟩ := drop_nxt (f := f) hs
    have := ih r (d + 1) f (he.scan hi (by rw [h1, hw])) h2
    rw [List.length_cons, show d + (s.length + 1) = d + 1 + s.length by omega]; exact this
  | @name x s i m j q hx hq hl h1 h2 ih1 ih2 =>
    intro r d f he hs
    obtain ⟨h3, h4⟩ := drop_nxt (f := f) hs
    have hlx : x = g.k + lft g q := by have : lft g q = x - g.k := hl; omega
    have h5 : Ear g w i (q, 0, i) := he.pred (by rw [h3, hlx]) hq
    have h6 := ih1 q 0 i h5 List.drop_zero
    have h7 : nxt g (q, 0 + (g.rules.getD q default).right.length, i) = none := List.getElem?_eq_none_iff.2 (by show (g.rules.getD q default).right.length ≤ 0 + _; omega)
    have h8 := ih2 r (d + 1) f (.comp h6 h7 he (by rw [h3, hlx])) h4
    rw [List.length_cons, show d + (s.length + 1) = d + 1 + s.length by omega]; exact h8
end Go.Dm

namespace Go.Dm
set_option linter.unusedSimpArgs false
set_option linter.unusedVariables false
set_option linter.unnecessarySimpa false
inductive Rea (g : Grammar) (w : List Int) (mk : Int → Prop) : Int → Nat → Prop
  | fin {a : Int} (h : mk a) : Rea g w mk a w.length
  | whole {q i : Nat} (hq : q < g.rules.length) (hi : i < w.length) (h : Der g w (rgt g q) i w.length) : Rea g w mk (lft g q) i
  | cut {q k i : Nat} (hq : q < g.rules.length) (hi : i < w.length) (hk : k < (rgt g q).length) (h : Der g w ((rgt g q).take k) i w.length) : Rea g w mk (lft g q) i
  | name {q k i j : Nat} (hq : q < g.rules.length) (hi : i < w.length) (hk : k < (rgt g q).length) (h : Der g w ((rgt g q).take k) i j) (hj : j < w.length) (hx : g.k ≤ (rgt g q).getD k 0) (hr : Rea g w mk ((rgt g q).getD k 0 - g.k) j) : Rea g w mk (lft g q) i
  | sym {q k i j : Nat} (hq : q < g.rules.length) (hi : i < w.length) (hk : k < (rgt g q).length) (h : Der g w ((rgt g q).take k) i j) (hj : j + 1 = w.length) (hx : (rgt g q).getD k 0 < g.k) (hw : w.getD j 0 = (rgt g q).getD k 0) : Rea g w mk (lft g q) i
theorem getD_snoc_lt {w : List Int} {s d : Int} {i : Nat} (h : i < w.length) : (w ++ [s]).getD i d = w.getD i d := by
  simp only [List.getD_eq_getElem?_getD]; rw [List.getElem?_append_left h]
theorem getD_snoc_eq {w : List Int} {s d : Int} : (w ++ [s]).getD w.length d = s := by
  simp [List.getD_eq_getElem?_getD]
theorem Der.snoc {g : Grammar} {w : List Int} {s : Int} {l : List Int} {i j : Nat} (h : Der g w l i j) : Der g (w ++ [s]) l i j := by
  induction h with
  | nil => exact .nil
  | sym hx hi hw h ih => exact .sym hx (by simp; omega) (by rw [getD_snoc_lt hi]; exact hw) ih
  | name hx hq hl h1 h2 ih1 ih2 => exact .name hx hq hl ih1 ih2
theorem Der.unsnoc {g : Grammar} {w : List Int} {s : Int} {l : List Int} {i j : Nat} (h : Der g (w ++ [s]) l i j) : j ≤ w.length → Der g w l i j := by
  induction h with
  | nil => intro _; exact .nil
  | sym hx hi hw h ih =>
    intro hj
    have := h.le.1
    exact .sym hx (by omega) (by rw [← hw, getD_snoc_lt (by omega)]) (ih hj)
  | name hx hq hl h1 h2 ih1 ih2 =>
    intro hj
    have := h2.le.1
    exact .name hx hq hl (ih1 (by omega)) (ih2 hj)
theorem nxt_getD {g : Grammar} {x : It} {s : Int} (h : nxt g x = some s) : (rgt g x.1).getD x.2.1 0 = s := by
  unfold nxt at h
  rw [List.getD_eq_getElem?_getD, h]; rfl
theorem nxt_of {g : Grammar} {r d f : Nat} (h : d < (rgt g r).length) : nxt g (r, d, f) = some ((rgt g r).getD d 0) := by
  unfold nxt
  rw [List.getD_eq_getElem?_getD, List.getElem?_eq_getElem h]; rfl
theorem Ear.up {g : Grammar} {w : List Int} (hw : GW g w) {s : Int} {mk : Int → Prop} {i : Nat} {x : It} (h : Ear g w i x) : Rea g (w ++ [s]) mk (lft g x.1) x.2.2 → Rea g (w ++ [s]) mk g.start 0 := by
  induction h with
  | start hr hl => intro hR; rw [show lft g _ = g.start from hl] at hR; exact hR
  | @pred i x r h hx hr ih =>
    intro hR
    have hs := (h.snd hw).snoc (s := s)
    have hwi := h.wi
    have hlr := hw.l _ hr
    have hi : i < (w ++ [s]).length := by simp; have := hwi.2.2.2; omega
    have hf : x.2.2 < (w ++ [s]).length := by have := hwi.2.2.1; omega
    have hg := nxt_getD hx
    refine ih (.name hwi.1 hf (nxt_lt hx) hs hi (by rw [hg]; omega) ?_)
    rw [hg, show g.k + lft g r - g.k = lft g r by omega]
    exact hR
  | scan h hi hx ih => exact ih
  | comp h hx hy hn ih1 ih2 => exact ih2
theorem ear_rea {g : Grammar} {w : List Int} (hw : GW g w) {s : Int} {mk : Int → Prop} {x : It} (hs : s < g.k) (h : Ear g w w.length x) (hn : nxt g x = some s) : Rea g (w ++ [s]) mk g.start 0 := by
  have hd := (h.snd hw).snoc (s := s)
  have hwi := h.wi
  have hg := nxt_getD hn
  have hf := hwi.2.2.1
  refine h.up hw (.sym hwi.1 (by simp; omega) (nxt_lt hn) hd (by simp) (by rw [hg]; exact hs) (by rw [hg, getD_snoc_eq]))
def Beg (g : Grammar) (w : List Int) (a : Int) (i : Nat) : Prop := ∀ r, r < g.rules.length → lft g r = a → Ear g w i (r, 0, i)
def Hit (g : Grammar) (w : List Int) (s : Int) : Prop := ∃ x, Ear g w w.length x ∧ nxt g x = some s
theorem hit_der {g : Grammar} {w : List Int} {s : Int} {l : List Int} {i j : Nat} (h : Der g (w ++ [s]) l i j) : j = w.length + 1 → i ≤ w.length → ∀ r d f t, Ear g w i (r, d, f) → (rgt g r).drop d = l ++ t → Hit g w s := by
  induction h with
  | nil => intro hj hi; omega
  | @sym x l i j hx hi hw h ih =>
    intro hj hi2 r d f t he hdr
    obtain ⟨h1, h2⟩ := drop_nxt (f := f) (show (rgt g r).drop d = x :: (l ++ t) from hdr)
    by_cases e : i = w.length
    · subst e
      rw [getD_snoc_eq] at hw
      subst hw
      exact ⟨_, he, h1⟩
    · have hi3 : i < w.length := by omega
      rw [getD_snoc_lt hi3] at hw
      exact ih hj (by omega) r (d + 1) f t (he.scan hi3 (by rw [h1, hw])) h2
  | @name x l i m j q hx hq hl h1 h2 ih1 ih2 =>
    intro hj hi2 r d f t he hdr
    obtain ⟨h3, h4⟩ := drop_nxt (f := f) (show (rgt g r).drop d = x :: (l ++ t) from hdr)
    have hlx : x = g.k + lft g q := by have : lft g q = x - g.k := hl; omega
    have h5 : Ear g w i (q, 0, i) := he.pred (by rw [h3, hlx]) hq
    by_cases e : m = w.length + 1
    · exact ih1 e hi2 q 0 i [] h5 (by rw [List.append_nil]; rfl)
    · have hm := h2.le.1
      have h6 := Ear.cmp (h1.unsnoc (by omega)) q 0 i h5 List.drop_zero
      have h7 : nxt g (q, 0 + (g.rules.getD q default).right.length, i) = none := List.getElem?_eq_none_iff.2 (by show (g.rules.getD q default).right.length ≤ 0 + _; omega)
      exact ih2 hj (by omega) r (d + 1) f t (.comp h6 h7 he (by rw [h3, hlx])) h4
theorem Ear.adv {g : Grammar} {w : List Int} {s l : List Int} {i j : Nat} (hd : Der g w s i j) : ∀ r d f, Ear g w i (r, d, f) → (rgt g r).drop d = s ++ l → Ear g w j (r, d + s.length, f) := by
  induction hd with
  | nil => intro r d f h _; exact h
  | @sym x s i j hx hi hw h ih =>
    intro r d f he hs
    obtain ⟨h1, h2⟩ := drop_nxt (f := f) (show (rgt g r).drop d = x :: (s ++ l) from hs)
    have := ih r (d + 1) f (he.scan hi (by rw [h1, hw])) h2
    rw [List.length_cons, show d + (s.length + 1) = d + 1 + s.length by omega]; exact this
  | @name x s i m j q hx hq hl h1 h2 ih1 ih2 =>
    intro r d f he hs
    obtain ⟨h3, h4⟩ := drop_nxt (f := f) (show (rgt g r).drop d = x :: (s ++ l) from hs)
    have hlx : x = g.k + lft g q := by have : lft g q = x - g.k := hl; omega
    have h5 : Ear g w i (q, 0, i) := he.pred (by rw [h3, hlx]) hq
    have h6 := Ear.cmp h1 q 0 i h5 List.drop_zero
    have h7 : nxt g (q, 0 + (g.rules.getD q default).right.length, i) = none := List.getElem?_eq_none_iff.2 (by show (g.rules.getD q default).right.length ≤ 0 + _; omega)
    have h8 := ih2 r (d + 1) f (.comp h6 h7 he (by rw [h3, hlx])) h4
    rw [List.length_cons, show d + (s.length + 1) = d + 1 + s.length by omega]; exact h8
theorem rea_hit {g : Grammar} {w : List Int} (hw : GW g w) {s : Int} {mk : Int → Prop} {a : Int} {i : Nat} (h : Rea g (w ++ [s]) mk a i) : i ≤ w.length → Beg g w a i → Hit g w s := by
  have hl1 : (w ++ [s]).length = w.length + 1 := by simp
  induction h with
  | fin h => intro hi; omega
  | @whole q i hq hi h =>
    intro hi2 hb
    exact hit_der h hl1 hi2 q 0 i [] (hb q hq rfl) (by rw [List.append_nil]; rfl)
  | @cut q k i hq hi hk h =>
    intro hi2 hb
    exact hit_der h hl1 hi2 q 0 i ((rgt g q).drop k) (hb q hq rfl) (by rw [List.take_append_drop]; rfl)
  | @name q k i j hq hi hk h hj hx hr ih =>
    intro hi2 hb
    have h1 := Ear.adv (l := (rgt g q).drop k) (h.unsnoc (by omega)) q 0 i (hb q hq rfl) (by rw [List.take_append_drop]; rfl)
    rw [List.length_take, Nat.min_eq_left (by omega), Nat.zero_add] at h1
    refine ih (by omega) fun r hr2 hlr => h1.pred ?_ hr2
    rw [nxt_of hk]; congr 1; omega
  | @sym q k i j hq hi hk h hj hx hws =>
    intro hi2 hb
    have hjw : j = w.length := by omega
    subst hjw
    have h1 := Ear.adv (l := (rgt g q).drop k) (h.unsnoc (Nat.le_refl _)) q 0 i (hb q hq rfl) (by rw [List.take_append_drop]; rfl)
    rw [List.length_take, Nat.min_eq_left (by omega), Nat.zero_add] at h1
    rw [getD_snoc_eq] at hws
    exact ⟨_, h1, by rw [nxt_of hk, hws]⟩
theorem next_iff {g : Grammar} {w : List Int} (hw : GW g w) {s : Int} {mk : Int → Prop} (hs : s < g.k) : Rea g (w ++ [s]) mk g.start 0 ↔ Hit g w s := by
  constructor
  · intro h
    exact rea_hit hw h (Nat.zero_le _) fun r hr hl => .start hr hl
  · rintro ⟨x, h1, h2⟩
    exact ear_rea hw hs h1 h2
end Go.Dm

namespace Go.Proofs.Ytplkkacfjepgpaa
open Go.Dm
set_option linter.unusedSimpArgs false
set_option linter.unnecessarySimpa false
set_option linter.unusedVariables false
structure VM (m : Dm.Machine) : Prop where
  n : 1 ≤ m.n ∧ m.n ≤ 7
  k : 1 ≤ m.k ∧ m.k ≤ 3
  len : (m.next.length : Int) = m.n
  row : ∀ l, l ∈ m.next → (l.length : Int) = m.k
  to : ∀ l, l ∈ m.next → ∀ x, x ∈ l → 0 ≤ x ∧ x < m.n
  start : 0 ≤ m.start ∧ m.start < m.n
  final : 0 ≤ m.final ∧ m.final.toNat < 2 ^ m.n.toNat
set_option maxRecDepth 10000 in
set_option maxHeartbeats 4000000 in
theorem within_spec (n lo hi : Int) : Dm.Spec Try.prog 79 [iv .i64 n, iv .i64 lo, iv .i64 hi] (· = .v (.bool (decide (lo ≤ n ∧ n ≤ hi)))) := by
  refine spec_of_vc mixed Try.func79 c79 (by rw [show Try.f79.ntmps = _ from Try.ntmps79]; simp) ?_
  unfold m79 r79
  repeat' first | ((first | refine Br.dec ?_ ?_ | refine Br.eqi ?_ ?_) <;> intro h <;> try (exfalso; omega)) | (simp (disch := first | omega | (simp only [vlen]; first | done | omega)) only [↓vAq, vBq, ↓reduceIte, Nat.reduceBEq, Nat.reduceEqDiff, Nat.reduceLT, Nat.reduceLeDiff, Nat.reduceAdd, Nat.reduceMul, Nat.reduceSub, reduceCtorEq, Int.reduceToNat]) | (refine Br.mk ?_ ?_ <;> intro h) | (refine BrN.mk (fun h => ?_) ?_) | (refine AltVC.mk ?_ ?_)
  · exact fin_mk (vbEq (dec_iff (by omega)))
  · exact fin_mk (vbEq (decide_eq_false (by omega)).symm)
end Go.Proofs.Ytplkkacfjepgpaa

namespace Go.Proofs.Ytplkkacfjepgpaa
open Go.Dm
set_option linter.unusedSimpArgs false
set_option linter.unnecessarySimpa false
set_option linter.unusedVariables false
def badSym (k s : Int) : Bool := decide (s < 0 ∨ k ≤ s)
def wcode (k : Int) (w : List Int) : Int := if 12 < (w.length : Int) then 1 else if w.any (badSym k) = true then 2 else 0
theorem getD_ok {k : Int} {w : List Int} (hk : 1 ≤ k) (h : ∀ s, s ∈ w → 0 ≤ s ∧ s < k) (i : Nat) : 0 ≤ w.getD i 0 ∧ w.getD i 0 < k := by
  by_cases hi : i < w.length
  · exact h _ (getD_mem' hi)
  · rw [show w.getD i 0 = 0 by simp [List.getD, show w[i]? = none from List.getElem?_eq_none (by omega)]]; omega
def mstep (m : Dm.Machine) (p s : Int) : Int := (m.next.getD p.toNat default).getD s.toNat 0
def leads (m : Dm.Machine) (p : Int) (w : List Int) : Int := w.foldl (mstep m) p
theorem VM.st {m : Dm.Machine} (hv : VM m) {p s : Int} (hp : 0 ≤ p ∧ p < m.n) : 0 ≤ mstep m p s ∧ mstep m p s < m.n := by
  have := hv.len
  exact getD_ok (by have := hv.n; omega) (hv.to _ (getD_mem' (by omega))) _
set_option maxRecDepth 10000 in
set_option maxHeartbeats 4000000 in
theorem wsym_spec (k : Int) (hk : 0 ≤ k ∧ k ≤ 3) (s : Int) : Dm.Spec Try.prog 78 [iv .i64 s, .ip [iv .i64 k] 0] (· = .v (.bool (badSym k s))) := by
  refine spec_of_vc mixed Try.func78 c78 (by rw [show Try.f78.ntmps = _ from Try.ntmps78]; simp) ?_
  unfold m78 r78
  repeat' first | ((first | refine Br.dec ?_ ?_ | refine Br.eqi ?_ ?_) <;> intro h <;> try (exfalso; omega)) | (simp (disch := first | omega | (simp only [vlen]; first | done | omega)) only [↓vAq, vBq, ↓reduceIte, Nat.reduceBEq, Nat.reduceEqDiff, Nat.reduceLT, Nat.reduceLeDiff, Nat.reduceAdd, Nat.reduceMul, Nat.reduceSub, reduceCtorEq, Int.reduceToNat]) | (refine Br.mk ?_ ?_ <;> intro h) | (refine BrN.mk (fun h => ?_) ?_) | (refine AltVC.mk ?_ ?_)
  refine CallVC.eq (within_spec _ _ _) ?_
  repeat' first | ((first | refine Br.dec ?_ ?_ | refine Br.eqi ?_ ?_) <;> intro h <;> try (exfalso; omega)) | (simp (disch := first | omega | (simp only [vlen]; first | done | omega)) only [↓vAq, vBq, ↓reduceIte, Nat.reduceBEq, Nat.reduceEqDiff, Nat.reduceLT, Nat.reduceLeDiff, Nat.reduceAdd, Nat.reduceMul, Nat.reduceSub, reduceCtorEq, Int.reduceToNat]) | (refine Br.mk ?_ ?_ <;> intro h) | (refine BrN.mk (fun h => ?_) ?_) | (refine AltVC.mk ?_ ?_)
  refine fin_mk (vbEq ?_)
  unfold badSym
  rw [← decide_not]
  exact dec_iff (by omega)
set_option maxRecDepth 10000 in
set_option maxHeartbeats 4000000 in
theorem word_spec (k : Int) (hk : 0 ≤ k ∧ k ≤ 3) (w : List Int) (hw : w.length ≤ 9223372036854775807) : Dm.Spec Try.prog 58 [iv .i64 k, .sl 1 (i64s w)] (· = iv .i64 (wcode k w)) := by
  refine spec_of_vc mixed Try.func58 c58 (by rw [show Try.f58.ntmps = _ from Try.ntmps58]; simp) ?_
  unfold m58 r58
  repeat' first | ((first | refine Br.dec ?_ ?_ | refine Br.eqi ?_ ?_) <;> intro h <;> try (exfalso; omega)) | (simp (disch := first | omega | (simp only [vlen]; first | done | omega)) only [↓vAq, vBq, ↓reduceIte, Nat.reduceBEq, Nat.reduceEqDiff, Nat.reduceLT, Nat.reduceLeDiff, Nat.reduceAdd, Nat.reduceMul, Nat.reduceSub, reduceCtorEq, Int.reduceToNat]) | (refine Br.mk ?_ ?_ <;> intro h) | (refine BrN.mk (fun h => ?_) ?_) | (refine AltVC.mk ?_ ?_)
  · exact fin_mk (by rw [wcode, if_pos (by assumption)])
  · refine CallVC.eqo (conF_int w (badSym k) _ [.ip [iv .i64 k] 0] hw (by simp (disch := first | omega | (simp only [vlen]; first | done | omega)) only [↓vAq, vBq, ↓reduceIte, Nat.reduceBEq, Nat.reduceEqDiff, Nat.reduceLT, Nat.reduceLeDiff, Nat.reduceAdd, Nat.reduceMul, Nat.reduceSub, reduceCtorEq, Int.reduceToNat]) fun s _ => wsym_spec k hk s) (by simp (disch := first | omega | (simp only [vlen]; first | done | omega)) only [↓vAq, vBq, ↓reduceIte, Nat.reduceBEq, Nat.reduceEqDiff, Nat.reduceLT, Nat.reduceLeDiff, Nat.reduceAdd, Nat.reduceMul, Nat.reduceSub, reduceCtorEq, Int.reduceToNat]) ?_
    repeat' first | ((first | refine Br.dec ?_ ?_ | refine Br.eqi ?_ ?_) <;> intro h <;> try (exfalso; omega)) | (simp (disch := first | omega | (simp only [vlen]; first | done | omega)) only [↓vAq, vBq, ↓reduceIte, Nat.reduceBEq, Nat.reduceEqDiff, Nat.reduceLT, Nat.reduceLeDiff, Nat.reduceAdd, Nat.reduceMul, Nat.reduceSub, reduceCtorEq, Int.reduceToNat]) | (refine Br.mk ?_ ?_ <;> intro h) | (refine BrN.mk (fun h => ?_) ?_) | (refine AltVC.mk ?_ ?_)
    · exact fin_mk (by rw [wcode, if_neg (by assumption), if_pos (by assumption)])
    · have h2 : w.any (badSym k) = false := by assumption
      exact fin_mk (by rw [wcode, if_neg (by assumption), if_neg (by rw [h2]; simp)])
set_option maxRecDepth 10000 in
set_option maxHeartbeats 4000000 in
theorem refWord_spec (k : Int) (hk : 0 ≤ k ∧ k ≤ 3) (w : List Int) (hw : w.length ≤ 9223372036854775807) : Dm.Spec Try.prog 26 [iv .i64 k, .sl 1 (i64s w)] (· = iv .i64 (wcode k w)) := by
  refine spec_of_vc mixed Try.func26 c26 (by rw [show Try.f26.ntmps = _ from Try.ntmps26]; simp) ?_
  unfold m26 r26
  repeat' first | ((first | refine Br.dec ?_ ?_ | refine Br.eqi ?_ ?_) <;> intro h <;> try (exfalso; omega)) | (simp (disch := first | omega | (simp only [vlen]; first | done | omega)) only [↓vAq, vBq, ↓reduceIte, Nat.reduceBEq, Nat.reduceEqDiff, Nat.reduceLT, Nat.reduceLeDiff, Nat.reduceAdd, Nat.reduceMul, Nat.reduceSub, reduceCtorEq, Int.reduceToNat]) | (refine Br.mk ?_ ?_ <;> intro h) | (refine BrN.mk (fun h => ?_) ?_) | (refine AltVC.mk ?_ ?_)
  · exact fin_mk (by rw [wcode, if_pos (by assumption)])
  · refine LoopVC.mk (X := Nat) (fun i => [(12, iv .i64 i)]) (fun _ => []) (fun i => w.length - i) (fun i => i ≤ w.length ∧ ∀ j, j < i → badSym k (w.getD j 0) = false) 0 ⟨by omega, by omega⟩ ?_ ?_
    · (simp (disch := first | omega | (simp only [vlen]; first | done | omega)) only [Fits_u, Fits_m, Fits_nil, List.length_append, ↓vAq, vBq, ↓reduceIte, Nat.reduceBEq, Nat.reduceEqDiff, Nat.reduceLT, Nat.reduceLeDiff, Nat.reduceAdd, Nat.reduceMul, Nat.reduceSub, reduceCtorEq, Int.reduceToNat] <;> (repeat' first | rfl | apply And.intro))
    · rintro i ⟨h1, h2⟩
      repeat' first | ((first | refine Br.dec ?_ ?_ | refine Br.eqi ?_ ?_) <;> intro h <;> try (exfalso; omega)) | (simp (disch := first | omega | (simp only [vlen]; first | done | omega)) only [↓vAq, vBq, ↓reduceIte, Nat.reduceBEq, Nat.reduceEqDiff, Nat.reduceLT, Nat.reduceLeDiff, Nat.reduceAdd, Nat.reduceMul, Nat.reduceSub, reduceCtorEq, Int.reduceToNat]) | (refine Br.mk ?_ ?_ <;> intro h) | (refine BrN.mk (fun h => ?_) ?_) | (refine AltVC.mk ?_ ?_)
      · exact fin_mk (by rw [wcode, if_neg (by assumption), if_pos (any_hit (p := badSym k) (i := i) (by omega) (decide_eq_true (.inl (by assumption))))])
      · exact fin_mk (by rw [wcode, if_neg (by assumption), if_pos (any_hit (p := badSym k) (i := i) (by omega) (decide_eq_true (.inr (by assumption))))])
      · exact loopK.mk (i + 1) (by simp (disch := first | omega | (simp only [vlen]; first | done | omega)) only [↓vAq, vBq, ↓reduceIte, Nat.reduceBEq, Nat.reduceEqDiff, Nat.reduceLT, Nat.reduceLeDiff, Nat.reduceAdd, Nat.reduceMul, Nat.reduceSub, reduceCtorEq, Int.reduceToNat]) ⟨by omega, succ_all h2 (decide_eq_false (by show ¬ (w.getD i 0 < 0 ∨ k ≤ w.getD i 0); omega))⟩ (by omega) (by (simp (disch := first | omega | (simp only [vlen]; first | done | omega)) only [Fits_u, Fits_m, Fits_nil, List.length_append, ↓vAq, vBq, ↓reduceIte, Nat.reduceBEq, Nat.reduceEqDiff, Nat.reduceLT, Nat.reduceLeDiff, Nat.reduceAdd, Nat.reduceMul, Nat.reduceSub, reduceCtorEq, Int.reduceToNat] <;> (repeat' first | rfl | apply And.intro)))
      · have h3 : w.any (badSym k) = false := any_none (i := i) (by omega) h2
        exact fin_mk (by rw [wcode, if_neg (by assumption), if_neg (by rw [h3]; simp)])
end Go.Proofs.Ytplkkacfjepgpaa

namespace Go.Proofs.Ytplkkacfjepgpaa
open Go.Dm
set_option linter.unusedSimpArgs false
set_option linter.unnecessarySimpa false
set_option linter.unusedVariables false
def gwC (g : Grammar) (w : List Int) : Int := if gcode g = 0 then wcode g.k w else gcode g
set_option maxRecDepth 10000 in
set_option maxHeartbeats 4000000 in
theorem tcheck_spec (g : Grammar) (hg : g.ok) (w : List Int) (hw : w.length ≤ 9223372036854775807) : Dm.Spec Try.prog 27 [.ag (graD g), .sl 1 (i64s w)] (· = iv .i64 (gwC g w)) := by
  refine spec_of_vc mixed Try.func27 c27 (by rw [show Try.f27.ntmps = _ from Try.ntmps27]; simp) ?_
  unfold m27 r27
  unfold gwC
  repeat' first | ((first | refine Br.dec ?_ ?_ | refine Br.eqi ?_ ?_) <;> intro h <;> try (exfalso; omega)) | (simp (disch := first | omega | (simp only [vlen]; first | done | omega)) only [↓vAq, vBq, ↓reduceIte, Nat.reduceBEq, Nat.reduceEqDiff, Nat.reduceLT, Nat.reduceLeDiff, Nat.reduceAdd, Nat.reduceMul, Nat.reduceSub, reduceCtorEq, Int.reduceToNat]) | (refine Br.mk ?_ ?_ <;> intro h) | (refine BrN.mk (fun h => ?_) ?_) | (refine AltVC.mk ?_ ?_)
  refine CallVC.eq (gCheck_spec g hg) ?_
  repeat' first | ((first | refine Br.dec ?_ ?_ | refine Br.eqi ?_ ?_) <;> intro h <;> try (exfalso; omega)) | (simp (disch := first | omega | (simp only [vlen]; first | done | omega)) only [↓vAq, vBq, ↓reduceIte, Nat.reduceBEq, Nat.reduceEqDiff, Nat.reduceLT, Nat.reduceLeDiff, Nat.reduceAdd, Nat.reduceMul, Nat.reduceSub, reduceCtorEq, Int.reduceToNat]) | (refine Br.mk ?_ ?_ <;> intro h) | (refine BrN.mk (fun h => ?_) ?_) | (refine AltVC.mk ?_ ?_)
  · have e : gcode g = 0 := by assumption
    have hk := (valid_of e).k
    refine CallVC.eq (word_spec g.k (by omega) w hw) ?_
    repeat' first | ((first | refine Br.dec ?_ ?_ | refine Br.eqi ?_ ?_) <;> intro h <;> try (exfalso; omega)) | (simp (disch := first | omega | (simp only [vlen]; first | done | omega)) only [↓vAq, vBq, ↓reduceIte, Nat.reduceBEq, Nat.reduceEqDiff, Nat.reduceLT, Nat.reduceLeDiff, Nat.reduceAdd, Nat.reduceMul, Nat.reduceSub, reduceCtorEq, Int.reduceToNat]) | (refine Br.mk ?_ ?_ <;> intro h) | (refine BrN.mk (fun h => ?_) ?_) | (refine AltVC.mk ?_ ?_)
    exact fin_mk (by rw [if_pos e])
  · exact fin_mk (by rw [if_neg (by assumption)])
set_option maxRecDepth 10000 in
set_option maxHeartbeats 4000000 in
theorem wordOf_spec (g : Grammar) (hg : g.ok) (w : List Int) (hw : w.length ≤ 9223372036854775807) : Dm.Spec Try.prog 10 [.ag (graD g), .sl 1 (i64s w)] (· = iv .i64 (gwC g w)) := by
  refine spec_of_vc mixed Try.func10 c10 (by rw [show Try.f10.ntmps = _ from Try.ntmps10]; simp) ?_
  unfold m10 r10
  unfold gwC
  repeat' first | ((first | refine Br.dec ?_ ?_ | refine Br.eqi ?_ ?_) <;> intro h <;> try (exfalso; omega)) | (simp (disch := first | omega | (simp only [vlen]; first | done | omega)) only [↓vAq, vBq, ↓reduceIte, Nat.reduceBEq, Nat.reduceEqDiff, Nat.reduceLT, Nat.reduceLeDiff, Nat.reduceAdd, Nat.reduceMul, Nat.reduceSub, reduceCtorEq, Int.reduceToNat]) | (refine Br.mk ?_ ?_ <;> intro h) | (refine BrN.mk (fun h => ?_) ?_) | (refine AltVC.mk ?_ ?_)
  refine CallVC.eq (refGCheck_spec g hg) ?_
  repeat' first | ((first | refine Br.dec ?_ ?_ | refine Br.eqi ?_ ?_) <;> intro h <;> try (exfalso; omega)) | (simp (disch := first | omega | (simp only [vlen]; first | done | omega)) only [↓vAq, vBq, ↓reduceIte, Nat.reduceBEq, Nat.reduceEqDiff, Nat.reduceLT, Nat.reduceLeDiff, Nat.reduceAdd, Nat.reduceMul, Nat.reduceSub, reduceCtorEq, Int.reduceToNat]) | (refine Br.mk ?_ ?_ <;> intro h) | (refine BrN.mk (fun h => ?_) ?_) | (refine AltVC.mk ?_ ?_)
  · have e : gcode g = 0 := by assumption
    have hk := (valid_of e).k
    refine CallVC.eq (refWord_spec g.k (by omega) w hw) ?_
    repeat' first | ((first | refine Br.dec ?_ ?_ | refine Br.eqi ?_ ?_) <;> intro h <;> try (exfalso; omega)) | (simp (disch := first | omega | (simp only [vlen]; first | done | omega)) only [↓vAq, vBq, ↓reduceIte, Nat.reduceBEq, Nat.reduceEqDiff, Nat.reduceLT, Nat.reduceLeDiff, Nat.reduceAdd, Nat.reduceMul, Nat.reduceSub, reduceCtorEq, Int.reduceToNat]) | (refine Br.mk ?_ ?_ <;> intro h) | (refine BrN.mk (fun h => ?_) ?_) | (refine AltVC.mk ?_ ?_)
    exact fin_mk (by rw [if_pos e])
  · exact fin_mk (by rw [if_neg (by assumption)])
theorem gw_of {g : Grammar} {w : List Int} (h : gwC g w = 0) : gcode g = 0 ∧ wcode g.k w = 0 := by
  unfold gwC at h
  split at h
  · next e => exact ⟨e, h⟩
  · next e => exact absurd h e
end Go.Proofs.Ytplkkacfjepgpaa
