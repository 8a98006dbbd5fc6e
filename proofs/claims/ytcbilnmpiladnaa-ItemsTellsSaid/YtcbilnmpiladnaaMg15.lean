/-
 Texts of this claim, one behind another.
-/
import Derived.Test.YtcbilnmpiladnaaMg14
import Derived.Test.YtcbilnmpiladnaaMg11
import Derived.Test.YtcbilnmpiladnaaMg13
namespace Go.Proofs.Ytcbilnmpiladnaa
open Go.Dm
set_option linter.unusedSimpArgs false
set_option linter.unnecessarySimpa false
set_option linter.unusedVariables false
set_option linter.defProp false
def buO (g : Grammar) (S : List (List It)) (H : List (List Ha)) : List (Option Ob) := [none, some ⟨1, tbl scR S, true, true, .fix⟩, some ⟨6, [[iv .i64 g.k, iv .i64 g.n, iv .i64 g.start, .sl 2 (tbl rulD g.rules), .ref 1 1 0 S.length, .ref 3 1 0 H.length]], false, true, .fix⟩, some ⟨1, tbl hmR H, true, true, .fix⟩]
def buR (g : Grammar) (w : List Int) (d : D) (o : List (Option Ob)) : Prop := d = .ptr 2 6 0 0 ∧ ∃ S H, o = buO g S H ∧ Snd g w S ∧ Clo g w S
def h0 (i : Nat) : D := .own (decide (0 < i)) 1 (tbl hmR (List.replicate i []))
def s0 (n i : Nat) : List (List D) := List.replicate i [.own false 3 []] ++ List.replicate (n - i) [.nl]
def s0o (n i : Nat) : Ob := ⟨1, s0 n i, true, decide (0 < i), .arr⟩
theorem h0_0 : h0 0 = .own false 1 [] := (rfl)
theorem h0_s {i : Nat} : h0 (i + 1) = .own true 1 (tbl hmR (List.replicate (i + 1) [])) := by simp [h0]
theorem s0o_0 {n : Nat} : s0o n 0 = ⟨1, List.replicate n [.nl], true, false, .arr⟩ := by simp [s0o, s0]
theorem s0o_z {n : Nat} : s0o n 0 = ⟨1, s0 n 0, true, false, .arr⟩ := (rfl)
theorem s0o_s {n i : Nat} : s0o n (i + 1) = ⟨1, s0 n (i + 1), true, true, .arr⟩ := by simp [s0o]
theorem s0_len {n i : Nat} (h : i ≤ n) : (s0 n i).length = n := by simp [s0]; omega
theorem s0_get {n i : Nat} (h : i < n) : (s0 n i).getD i [] = [.nl] := by
  simp [s0, List.getD_eq_getElem?_getD, List.getElem?_append, List.getElem?_replicate, show 0 < n - i by omega]
theorem s0_set {n i : Nat} (h : i < n) : (s0 n i).set i [.own false 3 []] = s0 n (i + 1) := by
  unfold s0
  rw [List.set_append_right _ _ (by simp), List.length_replicate, Nat.sub_self, show n - i = (n - (i + 1)) + 1 by omega, List.replicate_succ, List.set_cons_zero, show List.replicate (i + 1) [D.own false 3 []] = List.replicate i [.own false 3 []] ++ [[.own false 3 []]] from List.replicate_succ', List.append_assoc]; rfl
theorem s0_end {n : Nat} : s0 n n = tbl scR (List.replicate n []) := by simp [s0, tbl, scR]
theorem hm_rep {i : Nat} : tbl hmR (List.replicate i []) ++ [[.omp haK 4 []]] = tbl hmR (List.replicate (i + 1) []) := by
  rw [show List.replicate (i + 1) ([] : List Ha) = List.replicate i [] ++ [[]] from List.replicate_succ']; simp [tbl, hmR]
theorem hm_kl {H : List (List Ha)} {τ : Nat} : List.map (fun e => List.map (D.kill τ) e) (tbl hmR H) = tbl hmR H := by
  have e : ((fun e => List.map (D.kill τ) e) ∘ hmR) = hmR := by funext l; simp [hmR, kill_om]
  simp [tbl, e]
theorem hr_len {i : Nat} : (tbl hmR (List.replicate i [])).length = i := by simp [tbl]
theorem hr_get {i : Nat} {x : D} : (tbl hmR (List.replicate i []) ++ [[x]]).getD i [] = [x] := by simp [List.getD_eq_getElem?_getD, tbl]
theorem hr_set {i : Nat} {x y : D} : (tbl hmR (List.replicate i []) ++ [[x]]).set i [y] = tbl hmR (List.replicate i []) ++ [[y]] := by simp [List.set_append, tbl]
theorem hr_rep {i : Nat} : List.length (List.replicate i ([] : List Ha)) = i := by simp
theorem rl_len {n : Nat} : List.length (List.replicate n ([] : List It)) = n := by simp
theorem rp_get {α : Type} {n i : Nat} : (List.replicate n ([] : List α)).getD i [] = [] := by
  simp only [List.getD_eq_getElem?_getD, List.getElem?_replicate]; split <;> rfl
theorem snd_0 {g : Grammar} {w : List Int} : Snd g w (List.replicate (w.length + 1) []) := ⟨by simp, fun i x h => (by rw [rp_get] at h; cases h), fun i => (by rw [rp_get]; exact List.nodup_nil)⟩
theorem hi_0 {n : Nat} : HI (List.replicate n []) (List.replicate n []) := ⟨by simp, fun i x => by rw [rp_get, rp_get]; simp⟩
def scP (g : Grammar) (w : List Int) (j : Nat) (S : List (List It)) : Prop := ∀ x, x ∈ S.getD j [] → nxt g x = some (w.getD j 0) → (x.1, x.2.1 + 1, x.2.2) ∈ S.getD (j + 1) []
structure Dn (g : Grammar) (w : List Int) (i : Nat) (S : List (List It)) : Prop where
  b : beP g 0 g.start g.rules.length S
  c : ∀ j, j < i → clP g j S
  s : ∀ j, j < i → scP g w j S
theorem clP.ext {g : Grammar} {w : List Int} {j k : Nat} {S S' : List (List It)} (h : clP g j S) (hS : Snd g w S) (he : Ext k S S') (hk : j < k) : clP g j S' := fun x hx => by
  rw [he.oth j (by omega)] at hx
  obtain ⟨h1, h2⟩ := h x hx
  refine ⟨fun r hr hl => he.sub (h1 r hr hl), fun hn y hy hny => ?_⟩
  have h3 : x.2.2 ≤ j := (hS.ear j x hx).wi.2.2.1
  rw [he.oth x.2.2 (by omega)] at hy
  exact he.sub (h2 hn y hy hny)
theorem Dn.ext {g : Grammar} {w : List Int} {i k : Nat} {S S' : List (List It)} (h : Dn g w i S) (hS : Snd g w S) (he : Ext k S S') (hk : i ≤ k) : Dn g w i S' :=
  ⟨fun r hr hl => he.sub (h.b r hr hl), fun j hj => (h.c j hj).ext hS he (by omega), fun j hj x hx hn => by
    rw [he.oth j (by omega)] at hx
    exact he.sub (h.s j hj x hx hn)⟩
theorem Dn.clo {g : Grammar} {w : List Int} {S : List (List It)} (h : Dn g w w.length S) (hc : clP g w.length S) : Clo g w S := by
  have hcl : ∀ i, i ≤ w.length → clP g i S := fun i hi => by
    by_cases e : i = w.length
    · rw [e]; exact hc
    · exact h.c i (by omega)
  exact ⟨h.b, fun i x r hi hx hn hr => (hcl i hi x hx).1 r hr hn, fun i x hx hi hn => h.s i hi x hx hn, fun i x y hi hx hn hy hny => (hcl i hi x hx).2 hn y hy hny⟩
def chB (g : Grammar) (S : List (List It)) (H : List (List Ha)) : List (Nat × Ob) := [(0, ⟨4, [[iv .i64 g.k, iv .i64 g.n, iv .i64 g.start, .sl 2 (tbl rulD g.rules)]], true, false, .fix⟩), (1, ⟨1, tbl scR S, true, true, .fix⟩), (2, ⟨6, [[iv .i64 g.k, iv .i64 g.n, iv .i64 g.start, .sl 2 (tbl rulD g.rules), .ref 1 1 0 S.length, .ref 3 1 0 H.length]], false, true, .fix⟩), (3, ⟨1, tbl hmR H, true, true, .fix⟩)]
def chC (g : Grammar) (S : List (List It)) (H : List (List Ha)) (i : Nat) (L : List It) (kd : Kd) : List (Nat × Ob) := [(0, ⟨4, [[iv .i64 g.k, iv .i64 g.n, iv .i64 g.start, .sl 2 (tbl rulD g.rules)]], true, false, .fix⟩), (1, ⟨1, (tbl scR S).set i [.ref 4 3 0 L.length], false, true, .fix⟩), (2, ⟨6, [[iv .i64 g.k, iv .i64 g.n, iv .i64 g.start, .sl 2 (tbl rulD g.rules), .ref 1 1 0 S.length, .ref 3 1 0 H.length]], false, true, .fix⟩), (3, ⟨1, tbl hmR H, true, true, .fix⟩), (4, ⟨3, tbl itD L, true, false, kd⟩)]
theorem sr_trim {S : List (List It)} {i n : Nat} : List.map (fun e => List.map (D.trim 5) e) ((tbl scR S).set i [.ref 4 3 0 n]) = (tbl scR S).set i [.ref 4 3 0 n] := by
  have e : ((fun e => List.map (D.trim 5) e) ∘ scR) = scR := by funext l; simp [scR, trim_oo]
  rw [List.map_set]
  simp only [tbl, List.map_map, e, List.map_cons, List.map_nil, trim_ref, show (4 < 5) = True from by simp, if_true]
theorem bu_fin {g : Grammar} {S : List (List It)} {H : List (List Ha)} {s : Go.Dm.S} {d : D} {R : D → List (Option Ob) → Prop} (h1 : 4 ≤ s.N) (h2 : fitL s 4 0 (buO g S H)) (hd : R (d.trim 4) (buO g S H)) : FinH 0 R s d :=
  finH_mk (buO g S H) (Nat.zero_le _) (by simpa [buO] using h1) (by simpa [buO] using h2) hd
set_option maxRecDepth 10000 in
set_option maxHeartbeats 4000000 in
theorem build_spec (g : Grammar) (w : List Int) (hc : IC g w) : Dm.SpecH Try.prog 63 [.ag (graD g), .sl 1 (i64s w)] [] (buR g w) := by
  refine specH_of_vc mixed Try.func63 c63 (by rw [show Try.f63.ntmps = _ from Try.ntmps63]; simp) ?_
  unfold m63 r63
  have hrl := hc.v.len
  have hwl := hc.w
  repeat' first | ((first | refine Br.dec ?_ ?_ | refine Br.eqi ?_ ?_) <;> intro h <;> try (exfalso; omega)) | (simp (disch := first | omega | (simp only [vlen]; first | done | omega)) only [graD_eq, vit, ↓vAq, vBq, ↓reduceIte, Nat.reduceBEq, Nat.reduceEqDiff, Nat.reduceLT, Nat.reduceLeDiff, Nat.reduceAdd, Nat.reduceMul, Nat.reduceSub, reduceCtorEq, Int.reduceToNat]) | (refine Br.mk ?_ ?_ <;> intro h) | (refine BrN.mk (fun h => ?_) ?_) | (refine AltVC.mk ?_ ?_)
  refine LoopVC.nlo 2 0 5 1 ?_
  repeat' first | ((first | refine Br.dec ?_ ?_ | refine Br.eqi ?_ ?_) <;> intro h <;> try (exfalso; omega)) | (simp (disch := first | omega | (simp only [vlen]; first | done | omega)) only [graD_eq, vit, ↓vAq, vBq, ↓reduceIte, Nat.reduceBEq, Nat.reduceEqDiff, Nat.reduceLT, Nat.reduceLeDiff, Nat.reduceAdd, Nat.reduceMul, Nat.reduceSub, reduceCtorEq, Int.reduceToNat]) | (refine Br.mk ?_ ?_ <;> intro h) | (refine BrN.mk (fun h => ?_) ?_) | (refine AltVC.mk ?_ ?_)
  refine LoopVC.mk (X := Nat) (fun i => [(23, iv .i64 i)]) (fun i => [(0, ⟨4, [[iv .i64 g.k, iv .i64 g.n, iv .i64 g.start, .sl 2 (tbl rulD g.rules)]], true, false, .fix⟩), (1, s0o (w.length + 1) i), (2, ⟨6, [[iv .i64 g.k, iv .i64 g.n, iv .i64 g.start, .sl 2 (tbl rulD g.rules), .ref 1 1 0 (w.length + 1), h0 i]], false, true, .fix⟩)]) (fun i => w.length + 1 - i) (fun i => i ≤ w.length + 1) 0 (Nat.zero_le _) ?_ ?_
  · rw [h0_0, s0o_0]
    (simp (disch := first | omega | (simp only [vlen]; first | done | omega)) only [Fits_u, Fits_m, Fits_nil, List.length_append, vit, ↓vAq, vBq, ↓reduceIte, Nat.reduceBEq, Nat.reduceEqDiff, Nat.reduceLT, Nat.reduceLeDiff, Nat.reduceAdd, Nat.reduceMul, Nat.reduceSub, reduceCtorEq, Int.reduceToNat] <;> (repeat' first | rfl | apply And.intro))
    all_goals trace_state
  · intro i hi
    have h1 : ∀ d : D, (s0 (w.length + 1) i).length = w.length + 1 := fun _ => s0_len hi
    have h1 := s0_len hi
    by_cases hlt : i < w.length + 1
    · have h2 := s0_get hlt
      have h3 := s0_set hlt
      cases i with
      | zero =>
        rw [h0_0, s0o_z]
        repeat' first | ((first | refine Br.dec ?_ ?_ | refine Br.eqi ?_ ?_) <;> intro h <;> try (exfalso; omega)) | (simp (disch := first | omega | (simp only [vlen]; first | done | omega)) only [vit, ↓vAq, vBq, ↓reduceIte, Nat.reduceBEq, Nat.reduceEqDiff, Nat.reduceLT, Nat.reduceLeDiff, Nat.reduceAdd, Nat.reduceMul, Nat.reduceSub, reduceCtorEq, Int.reduceToNat]) | (refine Br.mk ?_ ?_ <;> intro h) | (refine BrN.mk (fun h => ?_) ?_) | (refine AltVC.mk ?_ ?_)
        refine loopK.fold 4 3 0 0 true ?_
        repeat' first | ((first | refine Br.dec ?_ ?_ | refine Br.eqi ?_ ?_) <;> intro h <;> try (exfalso; omega)) | (simp (disch := first | omega | (simp only [vlen]; first | done | omega)) only [vit, ↓vAq, vBq, ↓reduceIte, Nat.reduceBEq, Nat.reduceEqDiff, Nat.reduceLT, Nat.reduceLeDiff, Nat.reduceAdd, Nat.reduceMul, Nat.reduceSub, reduceCtorEq, Int.reduceToNat]) | (refine Br.mk ?_ ?_ <;> intro h) | (refine BrN.mk (fun h => ?_) ?_) | (refine AltVC.mk ?_ ?_)
        refine loopK.fold 3 2 0 5 false ?_
        repeat' first | ((first | refine Br.dec ?_ ?_ | refine Br.eqi ?_ ?_) <;> intro h <;> try (exfalso; omega)) | (simp (disch := first | omega | (simp only [vlen]; first | done | omega)) only [vit, ↓vAq, vBq, ↓reduceIte, Nat.reduceBEq, Nat.reduceEqDiff, Nat.reduceLT, Nat.reduceLeDiff, Nat.reduceAdd, Nat.reduceMul, Nat.reduceSub, reduceCtorEq, Int.reduceToNat]) | (refine Br.mk ?_ ?_ <;> intro h) | (refine BrN.mk (fun h => ?_) ?_) | (refine AltVC.mk ?_ ?_)
        refine loopK.nlo 1 0 0 3 ?_
        repeat' first | ((first | refine Br.dec ?_ ?_ | refine Br.eqi ?_ ?_) <;> intro h <;> try (exfalso; omega)) | (simp (disch := first | omega | (simp only [vlen]; first | done | omega)) only [h1, h2, h3, vit, ↓vAq, vBq, ↓reduceIte, Nat.reduceBEq, Nat.reduceEqDiff, Nat.reduceLT, Nat.reduceLeDiff, Nat.reduceAdd, Nat.reduceMul, Nat.reduceSub, reduceCtorEq, Int.reduceToNat]) | (refine Br.mk ?_ ?_ <;> intro h) | (refine BrN.mk (fun h => ?_) ?_) | (refine AltVC.mk ?_ ?_)
        refine loopK.mk 1 (by simp (disch := first | omega | (simp only [vlen]; first | done | omega)) only [vit, ↓vAq, vBq, ↓reduceIte, Nat.reduceBEq, Nat.reduceEqDiff, Nat.reduceLT, Nat.reduceLeDiff, Nat.reduceAdd, Nat.reduceMul, Nat.reduceSub, reduceCtorEq, Int.reduceToNat]) (by show 1 ≤ _; omega) (by show _ - 1 < _ - 0; omega) ?_
        rw [show h0 1 = .own true 1 [[.omp haK 4 []]] from rfl, s0o_s]
        (simp (disch := first | omega | (simp only [vlen]; first | done | omega)) only [Fits_u, Fits_m, Fits_nil, List.length_append, vit, ↓vAq, vBq, ↓reduceIte, Nat.reduceBEq, Nat.reduceEqDiff, Nat.reduceLT, Nat.reduceLeDiff, Nat.reduceAdd, Nat.reduceMul, Nat.reduceSub, reduceCtorEq, Int.reduceToNat] <;> (repeat' first | rfl | apply And.intro))
        all_goals trace_state
      | succ i =>
        rw [h0_s, s0o_s]
        repeat' first | ((first | refine Br.dec ?_ ?_ | refine Br.eqi ?_ ?_) <;> intro h <;> try (exfalso; omega)) | (simp (disch := first | omega | (simp only [vlen]; first | done | omega)) only [hm_kl, hr_rep, vit, ↓vAq, vBq, ↓reduceIte, Nat.reduceBEq, Nat.reduceEqDiff, Nat.reduceLT, Nat.reduceLeDiff, Nat.reduceAdd, Nat.reduceMul, Nat.reduceSub, reduceCtorEq, Int.reduceToNat]) | (refine Br.mk ?_ ?_ <;> intro h) | (refine BrN.mk (fun h => ?_) ?_) | (refine AltVC.mk ?_ ?_)
        refine loopK.fold 4 3 (i + 1) 0 true ?_
        repeat' first | ((first | refine Br.dec ?_ ?_ | refine Br.eqi ?_ ?_) <;> intro h <;> try (exfalso; omega)) | (simp (disch := first | omega | (simp only [vlen]; first | done | omega)) only [hr_get, hr_set, hr_len, hm_rep, hr_rep, hm_all, vit, ↓vAq, vBq, ↓reduceIte, Nat.reduceBEq, Nat.reduceEqDiff, Nat.reduceLT, Nat.reduceLeDiff, Nat.reduceAdd, Nat.reduceMul, Nat.reduceSub, reduceCtorEq, Int.reduceToNat]) | (refine Br.mk ?_ ?_ <;> intro h) | (refine BrN.mk (fun h => ?_) ?_) | (refine AltVC.mk ?_ ?_)
        refine loopK.fold 3 2 0 5 false ?_
        repeat' first | ((first | refine Br.dec ?_ ?_ | refine Br.eqi ?_ ?_) <;> intro h <;> try (exfalso; omega)) | (simp (disch := first | omega | (simp only [vlen]; first | done | omega)) only [hr_get, hr_set, hr_len, hm_rep, hr_rep, hm_all, vit, ↓vAq, vBq, ↓reduceIte, Nat.reduceBEq, Nat.reduceEqDiff, Nat.reduceLT, Nat.reduceLeDiff, Nat.reduceAdd, Nat.reduceMul, Nat.reduceSub, reduceCtorEq, Int.reduceToNat]) | (refine Br.mk ?_ ?_ <;> intro h) | (refine BrN.mk (fun h => ?_) ?_) | (refine AltVC.mk ?_ ?_)
        refine loopK.nlo 1 (i + 1) 0 3 ?_
        repeat' first | ((first | refine Br.dec ?_ ?_ | refine Br.eqi ?_ ?_) <;> intro h <;> try (exfalso; omega)) | (simp (disch := first | omega | (simp only [vlen]; first | done | omega)) only [h1, h2, h3, vit, ↓vAq, vBq, ↓reduceIte, Nat.reduceBEq, Nat.reduceEqDiff, Nat.reduceLT, Nat.reduceLeDiff, Nat.reduceAdd, Nat.reduceMul, Nat.reduceSub, reduceCtorEq, Int.reduceToNat]) | (refine Br.mk ?_ ?_ <;> intro h) | (refine BrN.mk (fun h => ?_) ?_) | (refine AltVC.mk ?_ ?_)
        refine loopK.mk (i + 2) (by simp (disch := first | omega | (simp only [vlen]; first | done | omega)) only [vit, ↓vAq, vBq, ↓reduceIte, Nat.reduceBEq, Nat.reduceEqDiff, Nat.reduceLT, Nat.reduceLeDiff, Nat.reduceAdd, Nat.reduceMul, Nat.reduceSub, reduceCtorEq, Int.reduceToNat]) (by show i + 2 ≤ _; omega) (by show _ - (i + 2) < _ - (i + 1); omega) ?_
        rw [h0_s, s0o_s]
        (simp (disch := first | omega | (simp only [vlen]; first | done | omega)) only [Fits_u, Fits_m, Fits_nil, List.length_append, vit, ↓vAq, vBq, ↓reduceIte, Nat.reduceBEq, Nat.reduceEqDiff, Nat.reduceLT, Nat.reduceLeDiff, Nat.reduceAdd, Nat.reduceMul, Nat.reduceSub, reduceCtorEq, Int.reduceToNat] <;> (repeat' first | rfl | apply And.intro))
        all_goals trace_state
    · have hie : i = w.length + 1 := by omega
      subst hie
      rw [h0_s, s0o_s, s0_end]
      repeat' first | ((first | refine Br.dec ?_ ?_ | refine Br.eqi ?_ ?_) <;> intro h <;> try (exfalso; omega)) | (simp (disch := first | omega | (simp only [vlen]; first | done | omega)) only [vit, ↓vAq, vBq, ↓reduceIte, Nat.reduceBEq, Nat.reduceEqDiff, Nat.reduceLT, Nat.reduceLeDiff, Nat.reduceAdd, Nat.reduceMul, Nat.reduceSub, reduceCtorEq, Int.reduceToNat]) | (refine Br.mk ?_ ?_ <;> intro h) | (refine BrN.mk (fun h => ?_) ?_) | (refine AltVC.mk ?_ ?_)
      refine CallVC.unf 2 0 5 ?_
      repeat' first | ((first | refine Br.dec ?_ ?_ | refine Br.eqi ?_ ?_) <;> intro h <;> try (exfalso; omega)) | (simp (disch := first | omega | (simp only [vlen]; first | done | omega)) only [vit, ↓vAq, vBq, ↓reduceIte, Nat.reduceBEq, Nat.reduceEqDiff, Nat.reduceLT, Nat.reduceLeDiff, Nat.reduceAdd, Nat.reduceMul, Nat.reduceSub, reduceCtorEq, Int.reduceToNat]) | (refine Br.mk ?_ ?_ <;> intro h) | (refine BrN.mk (fun h => ?_) ?_) | (refine AltVC.mk ?_ ?_)
      refine CallVC.stay 1 ?_
      repeat' first | ((first | refine Br.dec ?_ ?_ | refine Br.eqi ?_ ?_) <;> intro h <;> try (exfalso; omega)) | (simp (disch := first | omega | (simp only [vlen]; first | done | omega)) only [vit, ↓vAq, vBq, ↓reduceIte, Nat.reduceBEq, Nat.reduceEqDiff, Nat.reduceLT, Nat.reduceLeDiff, Nat.reduceAdd, Nat.reduceMul, Nat.reduceSub, reduceCtorEq, Int.reduceToNat]) | (refine Br.mk ?_ ?_ <;> intro h) | (refine BrN.mk (fun h => ?_) ?_) | (refine AltVC.mk ?_ ?_)
      refine CallVC.stay 3 ?_
      repeat' first | ((first | refine Br.dec ?_ ?_ | refine Br.eqi ?_ ?_) <;> intro h <;> try (exfalso; omega)) | (simp (disch := first | omega | (simp only [vlen]; first | done | omega)) only [vit, ↓vAq, vBq, ↓reduceIte, Nat.reduceBEq, Nat.reduceEqDiff, Nat.reduceLT, Nat.reduceLeDiff, Nat.reduceAdd, Nat.reduceMul, Nat.reduceSub, reduceCtorEq, Int.reduceToNat]) | (refine Br.mk ?_ ?_ <;> intro h) | (refine BrN.mk (fun h => ?_) ?_) | (refine AltVC.mk ?_ ?_)
      have hbe := begin_spec g w hc _ _ hi_0 (snd_0 (g := g)) 0 (Nat.zero_le _) g.start (fun r hr hl => .start hr hl)
      refine CallVC.lendE [2, 1, 3] [.ptr 0 6 0 0, iv .i64 (0 : Nat), iv .i64 g.start] (chO g _ _) hbe (by simp) (by rfl) (by unfold chO; simp (disch := first | omega | (simp only [vlen]; first | done | omega)) only [vle0, rl_len, hr_rep, vit, ↓vAq, vBq, ↓reduceIte, Nat.reduceBEq, Nat.reduceEqDiff, Nat.reduceLT, Nat.reduceLeDiff, Nat.reduceAdd, Nat.reduceMul, Nat.reduceSub, reduceCtorEq, Int.reduceToNat] <;> (repeat' first | rfl | apply And.intro)) ?_
      rintro _ _ ⟨rfl, S1, H1, rfl, e1, e2, e3, e4⟩
      have hl1 := e2.len
      unfold chO
      repeat' first | ((first | refine Br.dec ?_ ?_ | refine Br.eqi ?_ ?_) <;> intro h <;> try (exfalso; omega)) | (simp (disch := first | omega | (simp only [vlen]; first | done | omega)) only [vit, ↓vAq, vBq, ↓reduceIte, Nat.reduceBEq, Nat.reduceEqDiff, Nat.reduceLT, Nat.reduceLeDiff, Nat.reduceAdd, Nat.reduceMul, Nat.reduceSub, reduceCtorEq, Int.reduceToNat]) | (refine Br.mk ?_ ?_ <;> intro h) | (refine BrN.mk (fun h => ?_) ?_) | (refine AltVC.mk ?_ ?_)
      refine LoopVC.mk (X := Nat × List (List It) × List (List Ha)) (fun z => [(45, iv .i64 z.1)]) (fun z => chB g z.2.1 z.2.2) (fun z => w.length + 1 - z.1)
        (fun z => z.1 ≤ w.length ∧ HI z.2.1 z.2.2 ∧ Snd g w z.2.1 ∧ Dn g w z.1 z.2.1) (0, S1, H1) ⟨Nat.zero_le _, e1, e2, ⟨e4, fun j hj => absurd hj (Nat.not_lt_zero _), fun j hj => absurd hj (Nat.not_lt_zero _)⟩⟩ ?_ ?_
      · unfold chB
        (simp (disch := first | omega | (simp only [vlen]; first | done | omega)) only [Fits_u, Fits_m, Fits_nil, List.length_append, vit, ↓vAq, vBq, ↓reduceIte, Nat.reduceBEq, Nat.reduceEqDiff, Nat.reduceLT, Nat.reduceLeDiff, Nat.reduceAdd, Nat.reduceMul, Nat.reduceSub, reduceCtorEq, Int.reduceToNat] <;> (repeat' first | rfl | apply And.intro))
        all_goals trace_state
      · rintro ⟨i, S2, H2⟩ ⟨k1, k2, k3, k4⟩
        simp only at k1 k2 k3 k4 ⊢
        have hl2 := k3.len
        have hcl := close_spec g w hc S2 H2 k2 k3 i k1
        unfold chB
        repeat' first | ((first | refine Br.dec ?_ ?_ | refine Br.eqi ?_ ?_) <;> intro h <;> try (exfalso; omega)) | (simp (disch := first | omega | (simp only [vlen]; first | done | omega)) only [vit, ↓vAq, vBq, ↓reduceIte, Nat.reduceBEq, Nat.reduceEqDiff, Nat.reduceLT, Nat.reduceLeDiff, Nat.reduceAdd, Nat.reduceMul, Nat.reduceSub, reduceCtorEq, Int.reduceToNat]) | (refine Br.mk ?_ ?_ <;> intro h) | (refine BrN.mk (fun h => ?_) ?_) | (refine AltVC.mk ?_ ?_)
        refine CallVC.lendE [2, 1, 3] [.ptr 0 6 0 0, iv .i64 i] (chO g S2 H2) hcl (by simp) (by rfl) (by unfold chO; simp (disch := first | omega | (simp only [vlen]; first | done | omega)) only [vle0, vit, ↓vAq, vBq, ↓reduceIte, Nat.reduceBEq, Nat.reduceEqDiff, Nat.reduceLT, Nat.reduceLeDiff, Nat.reduceAdd, Nat.reduceMul, Nat.reduceSub, reduceCtorEq, Int.reduceToNat] <;> (repeat' first | rfl | apply And.intro)) ?_
        rintro _ _ ⟨rfl, S3, H3, rfl, f1, f2, f3, f4⟩
        have hl3 := f2.len
        have k5 := k4.ext k3 f3 (Nat.le_refl _)
        have hs3 : (S3.getD i default).length ≤ 650 := hc.small f2 i
        unfold chO
        by_cases hiw : i = w.length
        · subst hiw
          repeat' first | ((first | refine Br.dec ?_ ?_ | refine Br.eqi ?_ ?_) <;> intro h <;> try (exfalso; omega)) | (simp (disch := first | omega | (simp only [vlen]; first | done | omega)) only [vit, ↓vAq, vBq, ↓reduceIte, Nat.reduceBEq, Nat.reduceEqDiff, Nat.reduceLT, Nat.reduceLeDiff, Nat.reduceAdd, Nat.reduceMul, Nat.reduceSub, reduceCtorEq, Int.reduceToNat]) | (refine Br.mk ?_ ?_ <;> intro h) | (refine BrN.mk (fun h => ?_) ?_) | (refine AltVC.mk ?_ ?_)
          exact bu_fin (g := g) (S := S3) (H := H3) (by simp (disch := first | omega | (simp only [vlen]; first | done | omega)) only [vit, ↓vAq, vBq, ↓reduceIte, Nat.reduceBEq, Nat.reduceEqDiff, Nat.reduceLT, Nat.reduceLeDiff, Nat.reduceAdd, Nat.reduceMul, Nat.reduceSub, reduceCtorEq, Int.reduceToNat]) (by unfold buO; simp (disch := first | omega | (simp only [vlen]; first | done | omega)) only [vit, ↓vAq, vBq, ↓reduceIte, Nat.reduceBEq, Nat.reduceEqDiff, Nat.reduceLT, Nat.reduceLeDiff, Nat.reduceAdd, Nat.reduceMul, Nat.reduceSub, reduceCtorEq, Int.reduceToNat]) ⟨by simp (disch := first | omega | (simp only [vlen]; first | done | omega)) only [vit, ↓vAq, vBq, ↓reduceIte, Nat.reduceBEq, Nat.reduceEqDiff, Nat.reduceLT, Nat.reduceLeDiff, Nat.reduceAdd, Nat.reduceMul, Nat.reduceSub, reduceCtorEq, Int.reduceToNat], S3, H3, rfl, f2, k5.clo f4⟩
        · repeat' first | ((first | refine Br.dec ?_ ?_ | refine Br.eqi ?_ ?_) <;> intro h <;> try (exfalso; omega)) | (simp (disch := first | omega | (simp only [vlen]; first | done | omega)) only [vit, ↓vAq, vBq, ↓reduceIte, Nat.reduceBEq, Nat.reduceEqDiff, Nat.reduceLT, Nat.reduceLeDiff, Nat.reduceAdd, Nat.reduceMul, Nat.reduceSub, reduceCtorEq, Int.reduceToNat]) | (refine Br.mk ?_ ?_ <;> intro h) | (refine BrN.mk (fun h => ?_) ?_) | (refine AltVC.mk ?_ ?_)
          by_cases hL : (S3.getD i default).length = 0
          · have hback : (tbl scR S3).set i [.own false 3 (tbl itD (S3.getD i default))] = tbl scR S3 := by rw [sc_set, ss_same (by omega)]
            refine LoopVC.mk (X := Nat) (fun z => [(63, iv .i64 (0 : Nat)), (61, .ref 4 3 0 (S3.getD i default).length)]) (fun z => chC g S3 H3 i (S3.getD i default) .arr) (fun z => 0) (fun z => True) 0 trivial ?_ ?_
            · unfold chC
              (simp (disch := first | omega | (simp only [vlen]; first | done | omega)) only [Fits_u, Fits_m, Fits_nil, List.length_append, vit, ↓vAq, vBq, ↓reduceIte, Nat.reduceBEq, Nat.reduceEqDiff, Nat.reduceLT, Nat.reduceLeDiff, Nat.reduceAdd, Nat.reduceMul, Nat.reduceSub, reduceCtorEq, Int.reduceToNat] <;> (repeat' first | rfl | apply And.intro))
              all_goals trace_state
            · intro z _
              unfold chC
              repeat' first | ((first | refine Br.dec ?_ ?_ | refine Br.eqi ?_ ?_) <;> intro h <;> try (exfalso; omega)) | (simp (disch := first | omega | (simp only [vlen]; first | done | omega)) only [hL, vit, ↓vAq, vBq, ↓reduceIte, Nat.reduceBEq, Nat.reduceEqDiff, Nat.reduceLT, Nat.reduceLeDiff, Nat.reduceAdd, Nat.reduceMul, Nat.reduceSub, reduceCtorEq, Int.reduceToNat]) | (refine Br.mk ?_ ?_ <;> intro h) | (refine BrN.mk (fun h => ?_) ?_) | (refine AltVC.mk ?_ ?_)
              refine loopK.fold 4 1 i 0 true ?_
              repeat' first | ((first | refine Br.dec ?_ ?_ | refine Br.eqi ?_ ?_) <;> intro h <;> try (exfalso; omega)) | (simp (disch := first | omega | (simp only [vlen]; first | done | omega)) only [hback, vit, ↓vAq, vBq, ↓reduceIte, Nat.reduceBEq, Nat.reduceEqDiff, Nat.reduceLT, Nat.reduceLeDiff, Nat.reduceAdd, Nat.reduceMul, Nat.reduceSub, reduceCtorEq, Int.reduceToNat]) | (refine Br.mk ?_ ?_ <;> intro h) | (refine BrN.mk (fun h => ?_) ?_) | (refine AltVC.mk ?_ ?_)
              refine loopK.mk (i + 1, S3, H3) (by simp (disch := first | omega | (simp only [vlen]; first | done | omega)) only [vit, ↓vAq, vBq, ↓reduceIte, Nat.reduceBEq, Nat.reduceEqDiff, Nat.reduceLT, Nat.reduceLeDiff, Nat.reduceAdd, Nat.reduceMul, Nat.reduceSub, reduceCtorEq, Int.reduceToNat]) ⟨by show i + 1 ≤ w.length; omega, f1, f2, ⟨k5.b, fun p hp => by
                by_cases e : p = i
                · subst e; exact f4
                · exact k5.c p (by omega), fun p hp => by
                by_cases e : p = i
                · subst e
                  intro y hy hn
                  obtain ⟨q, hq, rfl⟩ := mem_ix hy
                  have h7 : q < (S3.getD p default).length := hq
                  omega
                · exact k5.s p (by omega)⟩⟩ (by show w.length + 1 - (i + 1) < w.length + 1 - i; omega) ?_
              (simp (disch := first | omega | (simp only [vlen]; first | done | omega)) only [Fits_u, Fits_m, Fits_nil, List.length_append, hback, vit, ↓vAq, vBq, ↓reduceIte, Nat.reduceBEq, Nat.reduceEqDiff, Nat.reduceLT, Nat.reduceLeDiff, Nat.reduceAdd, Nat.reduceMul, Nat.reduceSub, reduceCtorEq, Int.reduceToNat] <;> (repeat' first | rfl | apply And.intro))
              all_goals trace_state
          refine LoopVC.stay 4 ?_
          repeat' first | ((first | refine Br.dec ?_ ?_ | refine Br.eqi ?_ ?_) <;> intro h <;> try (exfalso; omega)) | (simp (disch := first | omega | (simp only [vlen]; first | done | omega)) only [vit, ↓vAq, vBq, ↓reduceIte, Nat.reduceBEq, Nat.reduceEqDiff, Nat.reduceLT, Nat.reduceLeDiff, Nat.reduceAdd, Nat.reduceMul, Nat.reduceSub, reduceCtorEq, Int.reduceToNat]) | (refine Br.mk ?_ ?_ <;> intro h) | (refine BrN.mk (fun h => ?_) ?_) | (refine AltVC.mk ?_ ?_)
          refine LoopVC.mk (X := Nat × List (List It) × List (List Ha)) (fun z => [(63, iv .i64 z.1), (61, .ref 4 3 0 (S3.getD i default).length)]) (fun z => chC g z.2.1 z.2.2 i (S3.getD i default) .fix) (fun z => 651 - z.1)
            (fun z => z.1 ≤ (S3.getD i default).length ∧ HI z.2.1 z.2.2 ∧ Snd g w z.2.1 ∧ Ext (i + 1) S3 z.2.1 ∧ ∀ q, q < z.1 → nxt g ((S3.getD i default).getD q default) = some (w.getD i 0) → (((S3.getD i default).getD q default).1, ((S3.getD i default).getD q default).2.1 + 1, ((S3.getD i default).getD q default).2.2) ∈ z.2.1.getD (i + 1) []) (0, S3, H3) ⟨Nat.zero_le _, f1, f2, .refl, fun q hq => absurd hq (Nat.not_lt_zero _)⟩ ?_ ?_
          · unfold chC
            (simp (disch := first | omega | (simp only [vlen]; first | done | omega)) only [Fits_u, Fits_m, Fits_nil, List.length_append, vit, ↓vAq, vBq, ↓reduceIte, Nat.reduceBEq, Nat.reduceEqDiff, Nat.reduceLT, Nat.reduceLeDiff, Nat.reduceAdd, Nat.reduceMul, Nat.reduceSub, reduceCtorEq, Int.reduceToNat] <;> (repeat' first | rfl | apply And.intro))
            all_goals trace_state
          · rintro ⟨j, S4, H4⟩ ⟨m1, m2, m3, m4, m5⟩
            simp only at m1 m2 m3 m4 m5 ⊢
            have hl4 := m3.len
            have hrow : S4.getD i default = S3.getD i default := m4.oth i (by omega)
            have hrow' : S4.getD i [] = S3.getD i [] := hrow
            unfold chC
            by_cases hlt : j < (S3.getD i default).length
            · have hxE : Ear g w i ((S3.getD i default).getD j default) := f2.ear _ _ (getD_mem' hlt)
              generalize hx : (S3.getD i default).getD j default = x at *
              obtain ⟨c1, c2, c3, c4, c5, c6, c7⟩ := Ear.bd hc hxE
              have hnx := next2_spec g S4 H4 i x c1 c2
              cases hny : nxt g x with
              | none =>
                rw [nxD_none hny] at hnx
                repeat' first | ((first | refine Br.dec ?_ ?_ | refine Br.eqi ?_ ?_) <;> intro h <;> try (exfalso; omega)) | (simp (disch := first | omega | (simp only [vlen]; first | done | omega)) only [hx, vit, ↓vAq, vBq, ↓reduceIte, Nat.reduceBEq, Nat.reduceEqDiff, Nat.reduceLT, Nat.reduceLeDiff, Nat.reduceAdd, Nat.reduceMul, Nat.reduceSub, reduceCtorEq, Int.reduceToNat]) | (refine Br.mk ?_ ?_ <;> intro h) | (refine BrN.mk (fun h => ?_) ?_) | (refine AltVC.mk ?_ ?_)
                refine CallVC.lendE [2, 1, 3, 4] [.ptr 0 6 0 0, .ag (itD x)] (chP g S4 H4 i) hnx (by simp) (by rfl) (by unfold chP; simp (disch := first | omega | (simp only [vlen]; first | done | omega)) only [vle0, hrow, pr_ren, vit, ↓vAq, vBq, ↓reduceIte, Nat.reduceBEq, Nat.reduceEqDiff, Nat.reduceLT, Nat.reduceLeDiff, Nat.reduceAdd, Nat.reduceMul, Nat.reduceSub, reduceCtorEq, Int.reduceToNat] <;> (repeat' first | rfl | apply And.intro)) ?_
                rintro _ _ ⟨rfl, rfl⟩
                unfold chP
                repeat' first | ((first | refine Br.dec ?_ ?_ | refine Br.eqi ?_ ?_) <;> intro h <;> try (exfalso; omega)) | (simp (disch := first | omega | (simp only [vlen]; first | done | omega)) only [hrow, pr_ren, vit, ↓vAq, vBq, ↓reduceIte, Nat.reduceBEq, Nat.reduceEqDiff, Nat.reduceLT, Nat.reduceLeDiff, Nat.reduceAdd, Nat.reduceMul, Nat.reduceSub, reduceCtorEq, Int.reduceToNat]) | (refine Br.mk ?_ ?_ <;> intro h) | (refine BrN.mk (fun h => ?_) ?_) | (refine AltVC.mk ?_ ?_)
                refine loopK.mk (j + 1, S4, H4) (by simp (disch := first | omega | (simp only [vlen]; first | done | omega)) only [vit, ↓vAq, vBq, ↓reduceIte, Nat.reduceBEq, Nat.reduceEqDiff, Nat.reduceLT, Nat.reduceLeDiff, Nat.reduceAdd, Nat.reduceMul, Nat.reduceSub, reduceCtorEq, Int.reduceToNat]) ⟨by show j + 1 ≤ (S3.getD i default).length; omega, m2, m3, m4, fun q hq hl => by
                  by_cases e : q = j
                  · subst e; rw [hx, hny] at hl; cases hl
                  · exact m5 q (by omega) hl⟩ (by show 651 - (j + 1) < 651 - j; omega) ?_
                (simp (disch := first | omega | (simp only [vlen]; first | done | omega)) only [Fits_u, Fits_m, Fits_nil, List.length_append, hrow, sr_trim, pr_ren, vit, ↓vAq, vBq, ↓reduceIte, Nat.reduceBEq, Nat.reduceEqDiff, Nat.reduceLT, Nat.reduceLeDiff, Nat.reduceAdd, Nat.reduceMul, Nat.reduceSub, reduceCtorEq, Int.reduceToNat] <;> (repeat' first | rfl | apply And.intro))
                all_goals trace_state
              | some c =>
                rw [nxD_some hny] at hnx
                repeat' first | ((first | refine Br.dec ?_ ?_ | refine Br.eqi ?_ ?_) <;> intro h <;> try (exfalso; omega)) | (simp (disch := first | omega | (simp only [vlen]; first | done | omega)) only [hx, vit, ↓vAq, vBq, ↓reduceIte, Nat.reduceBEq, Nat.reduceEqDiff, Nat.reduceLT, Nat.reduceLeDiff, Nat.reduceAdd, Nat.reduceMul, Nat.reduceSub, reduceCtorEq, Int.reduceToNat]) | (refine Br.mk ?_ ?_ <;> intro h) | (refine BrN.mk (fun h => ?_) ?_) | (refine AltVC.mk ?_ ?_)
                refine CallVC.lendE [2, 1, 3, 4] [.ptr 0 6 0 0, .ag (itD x)] (chP g S4 H4 i) hnx (by simp) (by rfl) (by unfold chP; simp (disch := first | omega | (simp only [vlen]; first | done | omega)) only [vle0, hrow, pr_ren, vit, ↓vAq, vBq, ↓reduceIte, Nat.reduceBEq, Nat.reduceEqDiff, Nat.reduceLT, Nat.reduceLeDiff, Nat.reduceAdd, Nat.reduceMul, Nat.reduceSub, reduceCtorEq, Int.reduceToNat] <;> (repeat' first | rfl | apply And.intro)) ?_
                rintro _ _ ⟨rfl, rfl⟩
                unfold chP
                by_cases hcw : c = w.getD i 0
                · have hE : Ear g w (i + 1) (x.1, x.2.1 + 1, x.2.2) := .scan hxE (by omega) (by rw [hny, hcw])
                  obtain ⟨d1, d2, d3, d4, d5, d6, d7⟩ := Ear.bd hc hE
                  have hsm : (S4.getD (i + 1) []).length ≤ 650 := hc.small m3 (i + 1)
                  have had := add2_spec g S4 H4 m2 i (i + 1) (by omega) (by omega) (by omega) (x.1, x.2.1 + 1, x.2.2) ⟨d5, d6, d7⟩
                  repeat' first | ((first | refine Br.dec ?_ ?_ | refine Br.eqi ?_ ?_) <;> intro h <;> try (exfalso; omega)) | (simp (disch := first | omega | (simp only [vlen]; first | done | omega)) only [hrow, pr_ren, vit, ↓vAq, vBq, ↓reduceIte, Nat.reduceBEq, Nat.reduceEqDiff, Nat.reduceLT, Nat.reduceLeDiff, Nat.reduceAdd, Nat.reduceMul, Nat.reduceSub, reduceCtorEq, Int.reduceToNat]) | (refine Br.mk ?_ ?_ <;> intro h) | (refine BrN.mk (fun h => ?_) ?_) | (refine AltVC.mk ?_ ?_)
                  refine CallVC.lendE [2, 1, 3, 4] [.ptr 0 6 0 0, iv .i64 (i + 1 : Nat), .ag (itD (x.1, x.2.1 + 1, x.2.2))] (chP g S4 H4 i) had (by simp) (by rfl) (by unfold chP; simp (disch := first | omega | (simp only [vlen]; first | done | omega)) only [vle0, hrow, pr_ren, vit, ↓vAq, vBq, ↓reduceIte, Nat.reduceBEq, Nat.reduceEqDiff, Nat.reduceLT, Nat.reduceLeDiff, Nat.reduceAdd, Nat.reduceMul, Nat.reduceSub, reduceCtorEq, Int.reduceToNat] <;> (repeat' first | rfl | apply And.intro)) ?_
                  rintro _ _ ⟨rfl, H5, rfl, n6⟩
                  have hxt := addS_ext (S := S4) (i := i + 1) (x := (x.1, x.2.1 + 1, x.2.2)) (by omega)
                  have hl5 := hxt.len
                  have hrow5 : (addS S4 (i + 1) (x.1, x.2.1 + 1, x.2.2)).getD i default = S3.getD i default := (hxt.oth i (by omega)).trans hrow
                  unfold chP
                  repeat' first | ((first | refine Br.dec ?_ ?_ | refine Br.eqi ?_ ?_) <;> intro h <;> try (exfalso; omega)) | (simp (disch := first | omega | (simp only [vlen]; first | done | omega)) only [hrow5, pr_ren, vit, ↓vAq, vBq, ↓reduceIte, Nat.reduceBEq, Nat.reduceEqDiff, Nat.reduceLT, Nat.reduceLeDiff, Nat.reduceAdd, Nat.reduceMul, Nat.reduceSub, reduceCtorEq, Int.reduceToNat]) | (refine Br.mk ?_ ?_ <;> intro h) | (refine BrN.mk (fun h => ?_) ?_) | (refine AltVC.mk ?_ ?_)
                  refine loopK.mk (j + 1, addS S4 (i + 1) (x.1, x.2.1 + 1, x.2.2), H5) (by simp (disch := first | omega | (simp only [vlen]; first | done | omega)) only [vit, ↓vAq, vBq, ↓reduceIte, Nat.reduceBEq, Nat.reduceEqDiff, Nat.reduceLT, Nat.reduceLeDiff, Nat.reduceAdd, Nat.reduceMul, Nat.reduceSub, reduceCtorEq, Int.reduceToNat]) ⟨by show j + 1 ≤ (S3.getD i default).length; omega, n6, m3.add hE, m4.trans hxt, fun q hq hl => by
                    by_cases e : q = j
                    · subst e; rw [hx]; exact addS_mem (by omega)
                    · exact hxt.sub (m5 q (by omega) hl)⟩ (by show 651 - (j + 1) < 651 - j; omega) ?_
                  (simp (disch := first | omega | (simp only [vlen]; first | done | omega)) only [Fits_u, Fits_m, Fits_nil, List.length_append, hrow5, sr_trim, pr_ren, vit, ↓vAq, vBq, ↓reduceIte, Nat.reduceBEq, Nat.reduceEqDiff, Nat.reduceLT, Nat.reduceLeDiff, Nat.reduceAdd, Nat.reduceMul, Nat.reduceSub, reduceCtorEq, Int.reduceToNat] <;> (repeat' first | rfl | apply And.intro))
                  all_goals trace_state
                · repeat' first | ((first | refine Br.dec ?_ ?_ | refine Br.eqi ?_ ?_) <;> intro h <;> try (exfalso; omega)) | (simp (disch := first | omega | (simp only [vlen]; first | done | omega)) only [hrow, pr_ren, vit, ↓vAq, vBq, ↓reduceIte, Nat.reduceBEq, Nat.reduceEqDiff, Nat.reduceLT, Nat.reduceLeDiff, Nat.reduceAdd, Nat.reduceMul, Nat.reduceSub, reduceCtorEq, Int.reduceToNat]) | (refine Br.mk ?_ ?_ <;> intro h) | (refine BrN.mk (fun h => ?_) ?_) | (refine AltVC.mk ?_ ?_)
                  refine loopK.mk (j + 1, S4, H4) (by simp (disch := first | omega | (simp only [vlen]; first | done | omega)) only [vit, ↓vAq, vBq, ↓reduceIte, Nat.reduceBEq, Nat.reduceEqDiff, Nat.reduceLT, Nat.reduceLeDiff, Nat.reduceAdd, Nat.reduceMul, Nat.reduceSub, reduceCtorEq, Int.reduceToNat]) ⟨by show j + 1 ≤ (S3.getD i default).length; omega, m2, m3, m4, fun q hq hl => by
                    by_cases e : q = j
                    · subst e; rw [hx, hny] at hl; exact absurd (Option.some.inj hl) hcw
                    · exact m5 q (by omega) hl⟩ (by show 651 - (j + 1) < 651 - j; omega) ?_
                  (simp (disch := first | omega | (simp only [vlen]; first | done | omega)) only [Fits_u, Fits_m, Fits_nil, List.length_append, hrow, sr_trim, pr_ren, vit, ↓vAq, vBq, ↓reduceIte, Nat.reduceBEq, Nat.reduceEqDiff, Nat.reduceLT, Nat.reduceLeDiff, Nat.reduceAdd, Nat.reduceMul, Nat.reduceSub, reduceCtorEq, Int.reduceToNat] <;> (repeat' first | rfl | apply And.intro))
                  all_goals trace_state
            · have hback : (tbl scR S4).set i [.own false 3 (tbl itD (S3.getD i default))] = tbl scR S4 := by rw [sc_set, ← hrow, ss_same (by omega)]
              have k6 := k5.ext f2 m4 (by omega)
              repeat' first | ((first | refine Br.dec ?_ ?_ | refine Br.eqi ?_ ?_) <;> intro h <;> try (exfalso; omega)) | (simp (disch := first | omega | (simp only [vlen]; first | done | omega)) only [vit, ↓vAq, vBq, ↓reduceIte, Nat.reduceBEq, Nat.reduceEqDiff, Nat.reduceLT, Nat.reduceLeDiff, Nat.reduceAdd, Nat.reduceMul, Nat.reduceSub, reduceCtorEq, Int.reduceToNat]) | (refine Br.mk ?_ ?_ <;> intro h) | (refine BrN.mk (fun h => ?_) ?_) | (refine AltVC.mk ?_ ?_)
              refine loopK.fold 4 1 i 0 true ?_
              repeat' first | ((first | refine Br.dec ?_ ?_ | refine Br.eqi ?_ ?_) <;> intro h <;> try (exfalso; omega)) | (simp (disch := first | omega | (simp only [vlen]; first | done | omega)) only [hback, vit, ↓vAq, vBq, ↓reduceIte, Nat.reduceBEq, Nat.reduceEqDiff, Nat.reduceLT, Nat.reduceLeDiff, Nat.reduceAdd, Nat.reduceMul, Nat.reduceSub, reduceCtorEq, Int.reduceToNat]) | (refine Br.mk ?_ ?_ <;> intro h) | (refine BrN.mk (fun h => ?_) ?_) | (refine AltVC.mk ?_ ?_)
              refine loopK.mk (i + 1, S4, H4) (by simp (disch := first | omega | (simp only [vlen]; first | done | omega)) only [vit, ↓vAq, vBq, ↓reduceIte, Nat.reduceBEq, Nat.reduceEqDiff, Nat.reduceLT, Nat.reduceLeDiff, Nat.reduceAdd, Nat.reduceMul, Nat.reduceSub, reduceCtorEq, Int.reduceToNat]) ⟨by show i + 1 ≤ w.length; omega, m2, m3, ⟨k6.b, fun p hp => by
                by_cases e : p = i
                · subst e; exact f4.ext f2 m4 (by omega)
                · exact k6.c p (by omega), fun p hp => by
                by_cases e : p = i
                · subst e
                  intro y hy hn
                  rw [hrow'] at hy
                  obtain ⟨q, hq, rfl⟩ := mem_ix hy
                  exact m5 q (by have h7 : q < (S3.getD p default).length := hq; omega) hn
                · exact k6.s p (by omega)⟩⟩ (by show w.length + 1 - (i + 1) < w.length + 1 - i; omega) ?_
              (simp (disch := first | omega | (simp only [vlen]; first | done | omega)) only [Fits_u, Fits_m, Fits_nil, List.length_append, hback, vit, ↓vAq, vBq, ↓reduceIte, Nat.reduceBEq, Nat.reduceEqDiff, Nat.reduceLT, Nat.reduceLeDiff, Nat.reduceAdd, Nat.reduceMul, Nat.reduceSub, reduceCtorEq, Int.reduceToNat] <;> (repeat' first | rfl | apply And.intro))
              all_goals trace_state
end Go.Proofs.Ytcbilnmpiladnaa

namespace Go.Dm
set_option linter.unusedSimpArgs false
set_option linter.unusedVariables false
inductive Der (g : Grammar) (w : List Int) : List Int → Nat → Nat → Prop
  | nil {i : Nat} : Der g w [] i i
  | sym {x : Int} {s : List Int} {i j : Nat} (hx : x < g.k) (hi : i < w.length) (hw : w.getD i 0 = x) (h : Der g w s (i + 1) j) : Der g w (x :: s) i j
  | name {x : Int} {s : List Int} {i m j q : Nat} (hx : ¬ x < g.k) (hq : q < g.rules.length) (hl : (g.rules.getD q default).left = x - g.k) (h1 : Der g w (g.rules.getD q default).right i m) (h2 : Der g w s m j) : Der g w (x :: s) i j
theorem Der.le {g : Grammar} {w : List Int} {s : List Int} {i j : Nat} (h : Der g w s i j) : i ≤ j ∧ (i ≤ w.length → j ≤ w.length) := by
  induction h with
  | nil => exact ⟨Nat.le_refl _, fun h => h⟩
  | sym _ hi _ _ ih => exact ⟨by omega, fun _ => ih.2 (by omega)⟩
  | name _ _ _ _ _ ih1 ih2 => exact ⟨by omega, fun h => ih2.2 (ih1.2 h)⟩
theorem Der.app {g : Grammar} {w : List Int} {a b : List Int} {i m j : Nat} (h : Der g w a i m) (k : Der g w b m j) : Der g w (a ++ b) i j := by
  induction h with
  | nil => exact k
  | sym hx hi hw _ ih => exact .sym hx hi hw (ih k)
  | name hx hq hl h1 _ _ ih2 => exact .name hx hq hl h1 (ih2 k)
theorem Der.cons {g : Grammar} {w : List Int} {x : Int} {s : List Int} {i j : Nat} (h : Der g w (x :: s) i j) : ∃ m, Der g w [x] i m ∧ Der g w s m j := by
  cases h with
  | sym hx hi hw h => exact ⟨_, .sym hx hi hw .nil, h⟩
  | name hx hq hl h1 h2 => exact ⟨_, .name hx hq hl h1 .nil, h2⟩
theorem Der.split {g : Grammar} {w : List Int} {b : List Int} : ∀ {a : List Int} {i j : Nat}, Der g w (a ++ b) i j → ∃ m, Der g w a i m ∧ Der g w b m j
  | [], i, j, h => ⟨i, .nil, h⟩
  | x :: a, i, j, h => by
    obtain ⟨m, h1, h2⟩ := Der.cons (s := a ++ b) h
    obtain ⟨m', h3, h4⟩ := Der.split h2
    exact ⟨m', Der.app h1 h3, h4⟩
end Go.Dm

namespace Go.Dm
set_option linter.unusedSimpArgs false
set_option linter.unusedVariables false
set_option linter.unnecessarySimpa false
structure GW (g : Grammar) (w : List Int) : Prop where
  k : ∀ i, i < w.length → w.getD i 0 < g.k
  l : ∀ r, r < g.rules.length → 0 ≤ lft g r
end Go.Dm

namespace Go.Proofs.Ytcbilnmpiladnaa
open Go.Dm
set_option linter.unusedSimpArgs false
set_option linter.unnecessarySimpa false
set_option linter.unusedVariables false
structure VM (m : Dm.Machine) : Prop where
  n : 1 ≤ m.n ∧ m.n ≤ 7
  k : 1 ≤ m.k ∧ m.k ≤ 3
  len : (m.next.length : Int) = m.n
  row : ∀ l, l ∈ m.next → (l.length : Int) = m.k
  to : ∀ l, l ∈ m.next → ∀ x, x ∈ l → 0 ≤ x ∧ x < m.n
  start : 0 ≤ m.start ∧ m.start < m.n
  final : 0 ≤ m.final ∧ m.final.toNat < 2 ^ m.n.toNat
set_option maxRecDepth 10000 in
set_option maxHeartbeats 4000000 in
theorem within_spec (n lo hi : Int) : Dm.Spec Try.prog 104 [iv .i64 n, iv .i64 lo, iv .i64 hi] (· = .v (.bool (decide (lo ≤ n ∧ n ≤ hi)))) := by
  refine spec_of_vc mixed Try.func104 c104 (by rw [show Try.f104.ntmps = _ from Try.ntmps104]; simp) ?_
  unfold m104 r104
  repeat' first | ((first | refine Br.dec ?_ ?_ | refine Br.eqi ?_ ?_) <;> intro h <;> try (exfalso; omega)) | (simp (disch := first | omega | (simp only [vlen]; first | done | omega)) only [↓vAq, vBq, ↓reduceIte, Nat.reduceBEq, Nat.reduceEqDiff, Nat.reduceLT, Nat.reduceLeDiff, Nat.reduceAdd, Nat.reduceMul, Nat.reduceSub, reduceCtorEq, Int.reduceToNat]) | (refine Br.mk ?_ ?_ <;> intro h) | (refine BrN.mk (fun h => ?_) ?_) | (refine AltVC.mk ?_ ?_)
  · exact fin_mk (vbEq (dec_iff (by omega)))
  · exact fin_mk (vbEq (decide_eq_false (by omega)).symm)
end Go.Proofs.Ytcbilnmpiladnaa

namespace Go.Proofs.Ytcbilnmpiladnaa
open Go.Dm
set_option linter.unusedSimpArgs false
set_option linter.unnecessarySimpa false
set_option linter.unusedVariables false
def badSym (k s : Int) : Bool := decide (s < 0 ∨ k ≤ s)
def wcode (k : Int) (w : List Int) : Int := if 12 < (w.length : Int) then 1 else if w.any (badSym k) = true then 2 else 0
theorem getD_ok {k : Int} {w : List Int} (hk : 1 ≤ k) (h : ∀ s, s ∈ w → 0 ≤ s ∧ s < k) (i : Nat) : 0 ≤ w.getD i 0 ∧ w.getD i 0 < k := by
  by_cases hi : i < w.length
  · exact h _ (getD_mem' hi)
  · rw [show w.getD i 0 = 0 by simp [List.getD, show w[i]? = none from List.getElem?_eq_none (by omega)]]; omega
def mstep (m : Dm.Machine) (p s : Int) : Int := (m.next.getD p.toNat default).getD s.toNat 0
def leads (m : Dm.Machine) (p : Int) (w : List Int) : Int := w.foldl (mstep m) p
theorem VM.st {m : Dm.Machine} (hv : VM m) {p s : Int} (hp : 0 ≤ p ∧ p < m.n) : 0 ≤ mstep m p s ∧ mstep m p s < m.n := by
  have := hv.len
  exact getD_ok (by have := hv.n; omega) (hv.to _ (getD_mem' (by omega))) _
set_option maxRecDepth 10000 in
set_option maxHeartbeats 4000000 in
theorem wsym_spec (k : Int) (hk : 0 ≤ k ∧ k ≤ 3) (s : Int) : Dm.Spec Try.prog 103 [iv .i64 s, .ip [iv .i64 k] 0] (· = .v (.bool (badSym k s))) := by
  refine spec_of_vc mixed Try.func103 c103 (by rw [show Try.f103.ntmps = _ from Try.ntmps103]; simp) ?_
  unfold m103 r103
  repeat' first | ((first | refine Br.dec ?_ ?_ | refine Br.eqi ?_ ?_) <;> intro h <;> try (exfalso; omega)) | (simp (disch := first | omega | (simp only [vlen]; first | done | omega)) only [↓vAq, vBq, ↓reduceIte, Nat.reduceBEq, Nat.reduceEqDiff, Nat.reduceLT, Nat.reduceLeDiff, Nat.reduceAdd, Nat.reduceMul, Nat.reduceSub, reduceCtorEq, Int.reduceToNat]) | (refine Br.mk ?_ ?_ <;> intro h) | (refine BrN.mk (fun h => ?_) ?_) | (refine AltVC.mk ?_ ?_)
  refine CallVC.eq (within_spec _ _ _) ?_
  repeat' first | ((first | refine Br.dec ?_ ?_ | refine Br.eqi ?_ ?_) <;> intro h <;> try (exfalso; omega)) | (simp (disch := first | omega | (simp only [vlen]; first | done | omega)) only [↓vAq, vBq, ↓reduceIte, Nat.reduceBEq, Nat.reduceEqDiff, Nat.reduceLT, Nat.reduceLeDiff, Nat.reduceAdd, Nat.reduceMul, Nat.reduceSub, reduceCtorEq, Int.reduceToNat]) | (refine Br.mk ?_ ?_ <;> intro h) | (refine BrN.mk (fun h => ?_) ?_) | (refine AltVC.mk ?_ ?_)
  refine fin_mk (vbEq ?_)
  unfold badSym
  rw [← decide_not]
  exact dec_iff (by omega)
set_option maxRecDepth 10000 in
set_option maxHeartbeats 4000000 in
theorem word_spec (k : Int) (hk : 0 ≤ k ∧ k ≤ 3) (w : List Int) (hw : w.length ≤ 9223372036854775807) : Dm.Spec Try.prog 82 [iv .i64 k, .sl 1 (i64s w)] (· = iv .i64 (wcode k w)) := by
  refine spec_of_vc mixed Try.func82 c82 (by rw [show Try.f82.ntmps = _ from Try.ntmps82]; simp) ?_
  unfold m82 r82
  repeat' first | ((first | refine Br.dec ?_ ?_ | refine Br.eqi ?_ ?_) <;> intro h <;> try (exfalso; omega)) | (simp (disch := first | omega | (simp only [vlen]; first | done | omega)) only [↓vAq, vBq, ↓reduceIte, Nat.reduceBEq, Nat.reduceEqDiff, Nat.reduceLT, Nat.reduceLeDiff, Nat.reduceAdd, Nat.reduceMul, Nat.reduceSub, reduceCtorEq, Int.reduceToNat]) | (refine Br.mk ?_ ?_ <;> intro h) | (refine BrN.mk (fun h => ?_) ?_) | (refine AltVC.mk ?_ ?_)
  · exact fin_mk (by rw [wcode, if_pos (by assumption)])
  · refine CallVC.eqo (conF_int w (badSym k) _ [.ip [iv .i64 k] 0] hw (by simp (disch := first | omega | (simp only [vlen]; first | done | omega)) only [↓vAq, vBq, ↓reduceIte, Nat.reduceBEq, Nat.reduceEqDiff, Nat.reduceLT, Nat.reduceLeDiff, Nat.reduceAdd, Nat.reduceMul, Nat.reduceSub, reduceCtorEq, Int.reduceToNat]) fun s _ => wsym_spec k hk s) (by simp (disch := first | omega | (simp only [vlen]; first | done | omega)) only [↓vAq, vBq, ↓reduceIte, Nat.reduceBEq, Nat.reduceEqDiff, Nat.reduceLT, Nat.reduceLeDiff, Nat.reduceAdd, Nat.reduceMul, Nat.reduceSub, reduceCtorEq, Int.reduceToNat]) ?_
    repeat' first | ((first | refine Br.dec ?_ ?_ | refine Br.eqi ?_ ?_) <;> intro h <;> try (exfalso; omega)) | (simp (disch := first | omega | (simp only [vlen]; first | done | omega)) only [↓vAq, vBq, ↓reduceIte, Nat.reduceBEq, Nat.reduceEqDiff, Nat.reduceLT, Nat.reduceLeDiff, Nat.reduceAdd, Nat.reduceMul, Nat.reduceSub, reduceCtorEq, Int.reduceToNat]) | (refine Br.mk ?_ ?_ <;> intro h) | (refine BrN.mk (fun h => ?_) ?_) | (refine AltVC.mk ?_ ?_)
    · exact fin_mk (by rw [wcode, if_neg (by assumption), if_pos (by assumption)])
    · have h2 : w.any (badSym k) = false := by assumption
      exact fin_mk (by rw [wcode, if_neg (by assumption), if_neg (by rw [h2]; simp)])
set_option maxRecDepth 10000 in
set_option maxHeartbeats 4000000 in
theorem refWord_spec (k : Int) (hk : 0 ≤ k ∧ k ≤ 3) (w : List Int) (hw : w.length ≤ 9223372036854775807) : Dm.Spec Try.prog 55 [iv .i64 k, .sl 1 (i64s w)] (· = iv .i64 (wcode k w)) := by
  refine spec_of_vc mixed Try.func55 c55 (by rw [show Try.f55.ntmps = _ from Try.ntmps55]; simp) ?_
  unfold m55 r55
  repeat' first | ((first | refine Br.dec ?_ ?_ | refine Br.eqi ?_ ?_) <;> intro h <;> try (exfalso; omega)) | (simp (disch := first | omega | (simp only [vlen]; first | done | omega)) only [↓vAq, vBq, ↓reduceIte, Nat.reduceBEq, Nat.reduceEqDiff, Nat.reduceLT, Nat.reduceLeDiff, Nat.reduceAdd, Nat.reduceMul, Nat.reduceSub, reduceCtorEq, Int.reduceToNat]) | (refine Br.mk ?_ ?_ <;> intro h) | (refine BrN.mk (fun h => ?_) ?_) | (refine AltVC.mk ?_ ?_)
  · exact fin_mk (by rw [wcode, if_pos (by assumption)])
  · refine LoopVC.mk (X := Nat) (fun i => [(12, iv .i64 i)]) (fun _ => []) (fun i => w.length - i) (fun i => i ≤ w.length ∧ ∀ j, j < i → badSym k (w.getD j 0) = false) 0 ⟨by omega, by omega⟩ ?_ ?_
    · (simp (disch := first | omega | (simp only [vlen]; first | done | omega)) only [Fits_u, Fits_m, Fits_nil, List.length_append, ↓vAq, vBq, ↓reduceIte, Nat.reduceBEq, Nat.reduceEqDiff, Nat.reduceLT, Nat.reduceLeDiff, Nat.reduceAdd, Nat.reduceMul, Nat.reduceSub, reduceCtorEq, Int.reduceToNat] <;> (repeat' first | rfl | apply And.intro))
    · rintro i ⟨h1, h2⟩
      repeat' first | ((first | refine Br.dec ?_ ?_ | refine Br.eqi ?_ ?_) <;> intro h <;> try (exfalso; omega)) | (simp (disch := first | omega | (simp only [vlen]; first | done | omega)) only [↓vAq, vBq, ↓reduceIte, Nat.reduceBEq, Nat.reduceEqDiff, Nat.reduceLT, Nat.reduceLeDiff, Nat.reduceAdd, Nat.reduceMul, Nat.reduceSub, reduceCtorEq, Int.reduceToNat]) | (refine Br.mk ?_ ?_ <;> intro h) | (refine BrN.mk (fun h => ?_) ?_) | (refine AltVC.mk ?_ ?_)
      · exact fin_mk (by rw [wcode, if_neg (by assumption), if_pos (any_hit (p := badSym k) (i := i) (by omega) (decide_eq_true (.inl (by assumption))))])
      · exact fin_mk (by rw [wcode, if_neg (by assumption), if_pos (any_hit (p := badSym k) (i := i) (by omega) (decide_eq_true (.inr (by assumption))))])
      · exact loopK.mk (i + 1) (by simp (disch := first | omega | (simp only [vlen]; first | done | omega)) only [↓vAq, vBq, ↓reduceIte, Nat.reduceBEq, Nat.reduceEqDiff, Nat.reduceLT, Nat.reduceLeDiff, Nat.reduceAdd, Nat.reduceMul, Nat.reduceSub, reduceCtorEq, Int.reduceToNat]) ⟨by omega, succ_all h2 (decide_eq_false (by show ¬ (w.getD i 0 < 0 ∨ k ≤ w.getD i 0); omega))⟩ (by omega) (by (simp (disch := first | omega | (simp only [vlen]; first | done | omega)) only [Fits_u, Fits_m, Fits_nil, List.length_append, ↓vAq, vBq, ↓reduceIte, Nat.reduceBEq, Nat.reduceEqDiff, Nat.reduceLT, Nat.reduceLeDiff, Nat.reduceAdd, Nat.reduceMul, Nat.reduceSub, reduceCtorEq, Int.reduceToNat] <;> (repeat' first | rfl | apply And.intro)))
      · have h3 : w.any (badSym k) = false := any_none (i := i) (by omega) h2
        exact fin_mk (by rw [wcode, if_neg (by assumption), if_neg (by rw [h3]; simp)])
end Go.Proofs.Ytcbilnmpiladnaa

namespace Go.Proofs.Ytcbilnmpiladnaa
open Go.Dm
set_option linter.unusedSimpArgs false
set_option linter.unnecessarySimpa false
set_option linter.unusedVariables false
def gwC (g : Grammar) (w : List Int) : Int := if gcode g = 0 then wcode g.k w else gcode g
set_option maxRecDepth 10000 in
set_option maxHeartbeats 4000000 in
theorem tcheck_spec (g : Grammar) (hg : g.ok) (w : List Int) (hw : w.length ≤ 9223372036854775807) : Dm.Spec Try.prog 49 [.ag (graD g), .sl 1 (i64s w)] (· = iv .i64 (gwC g w)) := by
  refine spec_of_vc mixed Try.func49 c49 (by rw [show Try.f49.ntmps = _ from Try.ntmps49]; simp) ?_
  unfold m49 r49
  unfold gwC
  repeat' first | ((first | refine Br.dec ?_ ?_ | refine Br.eqi ?_ ?_) <;> intro h <;> try (exfalso; omega)) | (simp (disch := first | omega | (simp only [vlen]; first | done | omega)) only [↓vAq, vBq, ↓reduceIte, Nat.reduceBEq, Nat.reduceEqDiff, Nat.reduceLT, Nat.reduceLeDiff, Nat.reduceAdd, Nat.reduceMul, Nat.reduceSub, reduceCtorEq, Int.reduceToNat]) | (refine Br.mk ?_ ?_ <;> intro h) | (refine BrN.mk (fun h => ?_) ?_) | (refine AltVC.mk ?_ ?_)
  refine CallVC.eq (gCheck_spec g hg) ?_
  repeat' first | ((first | refine Br.dec ?_ ?_ | refine Br.eqi ?_ ?_) <;> intro h <;> try (exfalso; omega)) | (simp (disch := first | omega | (simp only [vlen]; first | done | omega)) only [↓vAq, vBq, ↓reduceIte, Nat.reduceBEq, Nat.reduceEqDiff, Nat.reduceLT, Nat.reduceLeDiff, Nat.reduceAdd, Nat.reduceMul, Nat.reduceSub, reduceCtorEq, Int.reduceToNat]) | (refine Br.mk ?_ ?_ <;> intro h) | (refine BrN.mk (fun h => ?_) ?_) | (refine AltVC.mk ?_ ?_)
  · have e : gcode g = 0 := by assumption
    have hk := (valid_of e).k
    refine CallVC.eq (word_spec g.k (by omega) w hw) ?_
    repeat' first | ((first | refine Br.dec ?_ ?_ | refine Br.eqi ?_ ?_) <;> intro h <;> try (exfalso; omega)) | (simp (disch := first | omega | (simp only [vlen]; first | done | omega)) only [↓vAq, vBq, ↓reduceIte, Nat.reduceBEq, Nat.reduceEqDiff, Nat.reduceLT, Nat.reduceLeDiff, Nat.reduceAdd, Nat.reduceMul, Nat.reduceSub, reduceCtorEq, Int.reduceToNat]) | (refine Br.mk ?_ ?_ <;> intro h) | (refine BrN.mk (fun h => ?_) ?_) | (refine AltVC.mk ?_ ?_)
    exact fin_mk (by rw [if_pos e])
  · exact fin_mk (by rw [if_neg (by assumption)])
set_option maxRecDepth 10000 in
set_option maxHeartbeats 4000000 in
theorem wordOf_spec (g : Grammar) (hg : g.ok) (w : List Int) (hw : w.length ≤ 9223372036854775807) : Dm.Spec Try.prog 27 [.ag (graD g), .sl 1 (i64s w)] (· = iv .i64 (gwC g w)) := by
  refine spec_of_vc mixed Try.func27 c27 (by rw [show Try.f27.ntmps = _ from Try.ntmps27]; simp) ?_
  unfold m27 r27
  unfold gwC
  repeat' first | ((first | refine Br.dec ?_ ?_ | refine Br.eqi ?_ ?_) <;> intro h <;> try (exfalso; omega)) | (simp (disch := first | omega | (simp only [vlen]; first | done | omega)) only [↓vAq, vBq, ↓reduceIte, Nat.reduceBEq, Nat.reduceEqDiff, Nat.reduceLT, Nat.reduceLeDiff, Nat.reduceAdd, Nat.reduceMul, Nat.reduceSub, reduceCtorEq, Int.reduceToNat]) | (refine Br.mk ?_ ?_ <;> intro h) | (refine BrN.mk (fun h => ?_) ?_) | (refine AltVC.mk ?_ ?_)
  refine CallVC.eq (refGCheck_spec g hg) ?_
  repeat' first | ((first | refine Br.dec ?_ ?_ | refine Br.eqi ?_ ?_) <;> intro h <;> try (exfalso; omega)) | (simp (disch := first | omega | (simp only [vlen]; first | done | omega)) only [↓vAq, vBq, ↓reduceIte, Nat.reduceBEq, Nat.reduceEqDiff, Nat.reduceLT, Nat.reduceLeDiff, Nat.reduceAdd, Nat.reduceMul, Nat.reduceSub, reduceCtorEq, Int.reduceToNat]) | (refine Br.mk ?_ ?_ <;> intro h) | (refine BrN.mk (fun h => ?_) ?_) | (refine AltVC.mk ?_ ?_)
  · have e : gcode g = 0 := by assumption
    have hk := (valid_of e).k
    refine CallVC.eq (refWord_spec g.k (by omega) w hw) ?_
    repeat' first | ((first | refine Br.dec ?_ ?_ | refine Br.eqi ?_ ?_) <;> intro h <;> try (exfalso; omega)) | (simp (disch := first | omega | (simp only [vlen]; first | done | omega)) only [↓vAq, vBq, ↓reduceIte, Nat.reduceBEq, Nat.reduceEqDiff, Nat.reduceLT, Nat.reduceLeDiff, Nat.reduceAdd, Nat.reduceMul, Nat.reduceSub, reduceCtorEq, Int.reduceToNat]) | (refine Br.mk ?_ ?_ <;> intro h) | (refine BrN.mk (fun h => ?_) ?_) | (refine AltVC.mk ?_ ?_)
    exact fin_mk (by rw [if_pos e])
  · exact fin_mk (by rw [if_neg (by assumption)])
theorem gw_of {g : Grammar} {w : List Int} (h : gwC g w = 0) : gcode g = 0 ∧ wcode g.k w = 0 := by
  unfold gwC at h
  split at h
  · next e => exact ⟨e, h⟩
  · next e => exact absurd h e
end Go.Proofs.Ytcbilnmpiladnaa

namespace Go.Proofs.Ytcbilnmpiladnaa
open Go.Dm
set_option linter.unusedSimpArgs false
set_option linter.unnecessarySimpa false
set_option linter.unusedVariables false
set_option linter.defProp false
def scS (l : List It) : List D := [.sl 3 (tbl itD l)]
theorem scS_eq {l : List It} : scS l = [.sl 3 (tbl itD l)] := (rfl)
def vis := And.intro vir <| And.intro @scS_eq <| And.intro @itD_eq @Int.add_sub_cancel
structure WS (g : Grammar) (w : List Int) (S : List (List It)) : Prop where
  len : S.length = w.length + 1
  wi : ∀ i x, x ∈ S.getD i [] → Wi g w.length i x
  sm : ∀ i, (S.getD i []).length ≤ 100000
theorem Wi.smI {g : Grammar} {w : List Int} (hc : IC g w) {i : Nat} {x : It} (h : Wi g w.length i x) : SmI x := by
  obtain ⟨h1, h2, h3, h4⟩ := h
  have h5 := hc.v.len
  have h6 : (rgt g x.1).length ≤ 4 := hc.v.long _ (getD_mem' h1)
  have h7 := hc.w
  exact ⟨by omega, by omega, by omega⟩
def lst (x : It) : It := (x.1, x.2.1 - 1, x.2.2)
def com0 (g : Grammar) (S : List (List It)) (i : Nat) (x : It) : Bool := (S.getD i []).any fun j => decide (nxI g j = g.k + lft g x.1)
def com2 (g : Grammar) (S : List (List It)) (i : Nat) (x : It) : Bool := (S.getD i []).any fun j => decide (nxI g j < 0) && (decide (lft g j.1 = nxI g (lst x) - g.k) && decide (lst x ∈ S.getD j.2.2 []))
def comB (g : Grammar) (w : List Int) (S : List (List It)) (i : Nat) (x : It) : Bool :=
  if x.2.1 = 0 then decide (x.2.2 = i) && (decide (i = 0 ∧ lft g x.1 = g.start) || com0 g S i x)
  else if nxI g (lst x) < g.k then decide (0 < i) && (decide (w.getD (i - 1) 0 = nxI g (lst x)) && decide (lst x ∈ S.getD (i - 1) []))
  else com2 g S i x
theorem any_at {l : List It} {p : It → Bool} {j : Nat} (hj : j < l.length) (h : p (l.getD j default) = true) : l.any p = true := List.any_eq_true.2 ⟨_, getD_mem' hj, h⟩
theorem any_no {l : List It} {p : It → Bool} {n : Nat} (hn : l.length ≤ n) (h : ∀ j, j < n → p (l.getD j default) = false) : l.any p = false := List.any_eq_false.2 fun x hx => by
  obtain ⟨j, hj, e⟩ := mem_ix hx
  rw [← e, h j (by omega)]; simp
theorem nxI_bd {g : Grammar} {w : List Int} (hc : IC g w) {x : It} (h1 : x.1 < g.rules.length) : -1 ≤ nxI g x ∧ nxI g x < g.k + g.n := by
  have hk := hc.v.k
  have hn := hc.v.n
  cases h : nxt g x with
  | none => rw [nxI_none h]; omega
  | some s =>
    rw [nxI_some h]
    have hm : s ∈ rgt g x.1 := by
      unfold nxt at h
      exact List.mem_of_getElem? h
    have := hc.v.right _ (getD_mem' h1) s hm
    omega
set_option maxRecDepth 10000 in
set_option maxHeartbeats 4000000 in
theorem comes_spec (g : Grammar) (w : List Int) (hc : IC g w) (S : List (List It)) (hS : WS g w S) (i : Nat) (x : It) (hx : Wi g w.length i x) : Dm.Spec Try.prog 69 [.ag (graD g), .sl 1 (i64s w), .sl 1 (tbl scS S), iv .i64 i, .ag (itD x)] (· = .v (.bool (comB g w S i x))) := by
  refine spec_of_vc mixed Try.func69 c69 (by rw [show Try.f69.ntmps = _ from Try.ntmps69]; simp) ?_
  unfold m69 r69
  have hlen := hS.len
  have hrl := hc.v.len
  have hwl := hc.w
  have hk := hc.v.k
  have hnn := hc.v.n
  obtain ⟨x1, x2, x3, x4⟩ := hx
  obtain ⟨s1, s2, s3⟩ := Wi.smI hc ⟨x1, x2, x3, x4⟩
  have hlf := hc.v.left _ (getD_mem' x1)
  have h4 : ∀ r, r < g.rules.length → (rgt g r).length ≤ 4 := fun r hr => hc.v.long _ (getD_mem' hr)
  have hsi : (S.getD i default).length ≤ 100000 := hS.sm i
  by_cases hd : x.2.1 = 0
  · by_cases hf : x.2.2 = i
    · by_cases h0 : i = 0 ∧ (g.rules.getD x.1 default).left = g.start
      · have hcb : comB g w S i x = true := by unfold comB; rw [if_pos hd, decide_eq_true hf, decide_eq_true (show i = 0 ∧ lft g x.1 = g.start from h0)]; rfl
        rw [hcb]
        obtain ⟨h01, h02⟩ := h0
        repeat' first | ((first | refine Br.dec ?_ ?_ | refine Br.eqi ?_ ?_) <;> intro h <;> try (exfalso; omega)) | (simp (disch := first | omega | (simp only [vlen]; first | done | omega)) only [h01, h02, vis, ↓vAq, vBq, ↓reduceIte, Nat.reduceBEq, Nat.reduceEqDiff, Nat.reduceLT, Nat.reduceLeDiff, Nat.reduceAdd, Nat.reduceMul, Nat.reduceSub, reduceCtorEq, Int.reduceToNat]) | (refine Br.mk ?_ ?_ <;> intro h) | (refine BrN.mk (fun h => ?_) ?_) | (refine AltVC.mk ?_ ?_)
        all_goals first | exact fin_mk rfl | trace_state
      · have hcb : comB g w S i x = com0 g S i x := by unfold comB; rw [if_pos hd, decide_eq_true hf, decide_eq_false (show ¬ (i = 0 ∧ lft g x.1 = g.start) from h0)]; simp
        rw [hcb]
        repeat' first | ((first | refine Br.dec ?_ ?_ | refine Br.eqi ?_ ?_) <;> intro h <;> try (exfalso; omega)) | (simp (disch := first | omega | (simp only [vlen]; first | done | omega)) only [vis, ↓vAq, vBq, ↓reduceIte, Nat.reduceBEq, Nat.reduceEqDiff, Nat.reduceLT, Nat.reduceLeDiff, Nat.reduceAdd, Nat.reduceMul, Nat.reduceSub, reduceCtorEq, Int.reduceToNat]) | (refine Br.mk ?_ ?_ <;> intro h) | (refine BrN.mk (fun h => ?_) ?_) | (refine AltVC.mk ?_ ?_)
        all_goals
          refine LoopVC.mk (X := Nat) (fun j => [(45, iv .i64 j)]) (fun j => [(0, ⟨4, [[iv .i64 g.k, iv .i64 g.n, iv .i64 g.start, .sl 2 (tbl rulD g.rules)]], true, false, .fix⟩), (1, ⟨3, [itD x], true, false, .fix⟩)]) (fun j => (S.getD i default).length - j) (fun j => j ≤ (S.getD i default).length ∧ ∀ q, q < j → decide (nxI g ((S.getD i default).getD q default) = g.k + lft g x.1) = false) 0 ⟨Nat.zero_le _, fun j hj => absurd hj (Nat.not_lt_zero _)⟩ ?_ ?_
          · (simp (disch := first | omega | (simp only [vlen]; first | done | omega)) only [Fits_u, Fits_m, Fits_nil, List.length_append, vis, ↓vAq, vBq, ↓reduceIte, Nat.reduceBEq, Nat.reduceEqDiff, Nat.reduceLT, Nat.reduceLeDiff, Nat.reduceAdd, Nat.reduceMul, Nat.reduceSub, reduceCtorEq, Int.reduceToNat] <;> (repeat' first | rfl | apply And.intro))
            all_goals trace_state
          rintro j ⟨hj, hn⟩
          by_cases hlt : j < (S.getD i default).length
          · have hwi := hS.wi i _ (getD_mem' hlt)
            have hn1 := hn
            have hany : decide (nxI g ((S.getD i default).getD j default) = g.k + lft g x.1) = true → com0 g S i x = true := fun h => any_at (p := fun j => decide (nxI g j = g.k + lft g x.1)) hlt h
            generalize hy : (S.getD i default).getD j default = y at *
            have hny := rnext_spec g y hwi.1 (h4 _ hwi.1)
            repeat' first | ((first | refine Br.dec ?_ ?_ | refine Br.eqi ?_ ?_) <;> intro h <;> try (exfalso; omega)) | (simp (disch := first | omega | (simp only [vlen]; first | done | omega)) only [hy, vis, ↓vAq, vBq, ↓reduceIte, Nat.reduceBEq, Nat.reduceEqDiff, Nat.reduceLT, Nat.reduceLeDiff, Nat.reduceAdd, Nat.reduceMul, Nat.reduceSub, reduceCtorEq, Int.reduceToNat]) | (refine Br.mk ?_ ?_ <;> intro h) | (refine BrN.mk (fun h => ?_) ?_) | (refine AltVC.mk ?_ ?_)
            refine CallP.eq hny (by simp) ?_
            by_cases he : nxI g y = g.k + (g.rules.getD x.1 default).left
            · rw [hany (decide_eq_true he)]
              repeat' first | ((first | refine Br.dec ?_ ?_ | refine Br.eqi ?_ ?_) <;> intro h <;> try (exfalso; omega)) | (simp (disch := first | omega | (simp only [vlen]; first | done | omega)) only [vis, ↓vAq, vBq, ↓reduceIte, Nat.reduceBEq, Nat.reduceEqDiff, Nat.reduceLT, Nat.reduceLeDiff, Nat.reduceAdd, Nat.reduceMul, Nat.reduceSub, reduceCtorEq, Int.reduceToNat]) | (refine Br.mk ?_ ?_ <;> intro h) | (refine BrN.mk (fun h => ?_) ?_) | (refine AltVC.mk ?_ ?_)
              exact fin_mk rfl
            · repeat' first | ((first | refine Br.dec ?_ ?_ | refine Br.eqi ?_ ?_) <;> intro h <;> try (exfalso; omega)) | (simp (disch := first | omega | (simp only [vlen]; first | done | omega)) only [vis, ↓vAq, vBq, ↓reduceIte, Nat.reduceBEq, Nat.reduceEqDiff, Nat.reduceLT, Nat.reduceLeDiff, Nat.reduceAdd, Nat.reduceMul, Nat.reduceSub, reduceCtorEq, Int.reduceToNat]) | (refine Br.mk ?_ ?_ <;> intro h) | (refine BrN.mk (fun h => ?_) ?_) | (refine AltVC.mk ?_ ?_)
              refine loopK.mk (j + 1) (by simp (disch := first | omega | (simp only [vlen]; first | done | omega)) only [vis, ↓vAq, vBq, ↓reduceIte, Nat.reduceBEq, Nat.reduceEqDiff, Nat.reduceLT, Nat.reduceLeDiff, Nat.reduceAdd, Nat.reduceMul, Nat.reduceSub, reduceCtorEq, Int.reduceToNat]) ⟨by show j + 1 ≤ _; omega, fun q hq => by
                by_cases e : q = j
                · subst e; rw [hy]; exact decide_eq_false he
                · exact hn1 q (by omega)⟩ (by show _ - (j + 1) < _ - j; omega) ?_
              (simp (disch := first | omega | (simp only [vlen]; first | done | omega)) only [Fits_u, Fits_m, Fits_nil, List.length_append, vis, ↓vAq, vBq, ↓reduceIte, Nat.reduceBEq, Nat.reduceEqDiff, Nat.reduceLT, Nat.reduceLeDiff, Nat.reduceAdd, Nat.reduceMul, Nat.reduceSub, reduceCtorEq, Int.reduceToNat] <;> (repeat' first | rfl | apply And.intro))
              all_goals trace_state
          · have hno : com0 g S i x = false := any_no (l := S.getD i []) (n := j) (by show (S.getD i default).length ≤ j; omega) hn
            rw [hno]
            repeat' first | ((first | refine Br.dec ?_ ?_ | refine Br.eqi ?_ ?_) <;> intro h <;> try (exfalso; omega)) | (simp (disch := first | omega | (simp only [vlen]; first | done | omega)) only [vis, ↓vAq, vBq, ↓reduceIte, Nat.reduceBEq, Nat.reduceEqDiff, Nat.reduceLT, Nat.reduceLeDiff, Nat.reduceAdd, Nat.reduceMul, Nat.reduceSub, reduceCtorEq, Int.reduceToNat]) | (refine Br.mk ?_ ?_ <;> intro h) | (refine BrN.mk (fun h => ?_) ?_) | (refine AltVC.mk ?_ ?_)
            exact fin_mk rfl
    · have hcb : comB g w S i x = false := by unfold comB; rw [if_pos hd, decide_eq_false hf]; rfl
      rw [hcb]
      repeat' first | ((first | refine Br.dec ?_ ?_ | refine Br.eqi ?_ ?_) <;> intro h <;> try (exfalso; omega)) | (simp (disch := first | omega | (simp only [vlen]; first | done | omega)) only [vis, ↓vAq, vBq, ↓reduceIte, Nat.reduceBEq, Nat.reduceEqDiff, Nat.reduceLT, Nat.reduceLeDiff, Nat.reduceAdd, Nat.reduceMul, Nat.reduceSub, reduceCtorEq, Int.reduceToNat]) | (refine Br.mk ?_ ?_ <;> intro h) | (refine BrN.mk (fun h => ?_) ?_) | (refine AltVC.mk ?_ ?_)
      all_goals first | exact fin_mk rfl | trace_state
  · obtain ⟨r, dd, f⟩ := x
    simp only at x1 x2 x3 x4 s1 s2 s3 hd hlf
    obtain ⟨m, rfl⟩ : ∃ m, dd = m + 1 := ⟨dd - 1, by omega⟩
    have hll : lst (r, m + 1, f) = (r, m, f) := rfl
    have hnx := rnext_spec g (r, m, f) x1 (h4 _ x1)
    have hsb := nxI_bd hc x1 (x := (r, m, f))
    repeat' first | ((first | refine Br.dec ?_ ?_ | refine Br.eqi ?_ ?_) <;> intro h <;> try (exfalso; omega)) | (simp (disch := first | omega | (simp only [vlen]; first | done | omega)) only [vis, ↓vAq, vBq, ↓reduceIte, Nat.reduceBEq, Nat.reduceEqDiff, Nat.reduceLT, Nat.reduceLeDiff, Nat.reduceAdd, Nat.reduceMul, Nat.reduceSub, reduceCtorEq, Int.reduceToNat]) | (refine Br.mk ?_ ?_ <;> intro h) | (refine BrN.mk (fun h => ?_) ?_) | (refine AltVC.mk ?_ ?_)
    refine CallVC.eq hnx ?_
    have hcb : comB g w S i (r, m + 1, f) = if nxI g (r, m, f) < g.k then decide (0 < i) && (decide (w.getD (i - 1) 0 = nxI g (r, m, f)) && decide ((r, m, f) ∈ S.getD (i - 1) [])) else com2 g S i (r, m + 1, f) := by unfold comB; rw [if_neg hd]; rfl
    rw [hcb]
    have hsm : SmI (r, m, f) := ⟨s1, by show m ≤ _; omega, s3⟩
    generalize hsg : nxI g (r, m, f) = sg at *
    by_cases hsk : sg < g.k
    · rw [if_pos hsk]
      by_cases hi0 : i = 0
      · subst hi0
        repeat' first | ((first | refine Br.dec ?_ ?_ | refine Br.eqi ?_ ?_) <;> intro h <;> try (exfalso; omega)) | (simp (disch := first | omega | (simp only [vlen]; first | done | omega)) only [vis, ↓vAq, vBq, ↓reduceIte, Nat.reduceBEq, Nat.reduceEqDiff, Nat.reduceLT, Nat.reduceLeDiff, Nat.reduceAdd, Nat.reduceMul, Nat.reduceSub, reduceCtorEq, Int.reduceToNat]) | (refine Br.mk ?_ ?_ <;> intro h) | (refine BrN.mk (fun h => ?_) ?_) | (refine AltVC.mk ?_ ?_)
        all_goals first | exact fin_mk rfl | trace_state
      · obtain ⟨i', rfl⟩ : ∃ i', i = i' + 1 := ⟨i - 1, by omega⟩
        by_cases hw : w.getD i' 0 = sg
        · have hth := there_spec (S.getD i' []) (r, m, f) (hS.sm i') (fun y hy => Wi.smI hc (hS.wi i' y hy)) hsm
          repeat' first | ((first | refine Br.dec ?_ ?_ | refine Br.eqi ?_ ?_) <;> intro h <;> try (exfalso; omega)) | (simp (disch := first | omega | (simp only [vlen]; first | done | omega)) only [hw, vis, ↓vAq, vBq, ↓reduceIte, Nat.reduceBEq, Nat.reduceEqDiff, Nat.reduceLT, Nat.reduceLeDiff, Nat.reduceAdd, Nat.reduceMul, Nat.reduceSub, reduceCtorEq, Int.reduceToNat]) | (refine Br.mk ?_ ?_ <;> intro h) | (refine BrN.mk (fun h => ?_) ?_) | (refine AltVC.mk ?_ ?_)
          refine CallVC.eq hth ?_
          repeat' first | ((first | refine Br.dec ?_ ?_ | refine Br.eqi ?_ ?_) <;> intro h <;> try (exfalso; omega)) | (simp (disch := first | omega | (simp only [vlen]; first | done | omega)) only [vis, ↓vAq, vBq, ↓reduceIte, Nat.reduceBEq, Nat.reduceEqDiff, Nat.reduceLT, Nat.reduceLeDiff, Nat.reduceAdd, Nat.reduceMul, Nat.reduceSub, reduceCtorEq, Int.reduceToNat]) | (refine Br.mk ?_ ?_ <;> intro h) | (refine BrN.mk (fun h => ?_) ?_) | (refine AltVC.mk ?_ ?_)
          all_goals first | exact fin_mk (vbEq (by rw [Nat.add_sub_cancel, decide_eq_true (Nat.succ_pos i'), decide_eq_true hw]; simp)) | trace_state
        · repeat' first | ((first | refine Br.dec ?_ ?_ | refine Br.eqi ?_ ?_) <;> intro h <;> try (exfalso; omega)) | (simp (disch := first | omega | (simp only [vlen]; first | done | omega)) only [vis, ↓vAq, vBq, ↓reduceIte, Nat.reduceBEq, Nat.reduceEqDiff, Nat.reduceLT, Nat.reduceLeDiff, Nat.reduceAdd, Nat.reduceMul, Nat.reduceSub, reduceCtorEq, Int.reduceToNat]) | (refine Br.mk ?_ ?_ <;> intro h) | (refine BrN.mk (fun h => ?_) ?_) | (refine AltVC.mk ?_ ?_)
          all_goals first | exact fin_mk (vbEq (by rw [Nat.add_sub_cancel, decide_eq_false hw]; simp)) | trace_state
    · rw [if_neg hsk]
      repeat' first | ((first | refine Br.dec ?_ ?_ | refine Br.eqi ?_ ?_) <;> intro h <;> try (exfalso; omega)) | (simp (disch := first | omega | (simp only [vlen]; first | done | omega)) only [vis, ↓vAq, vBq, ↓reduceIte, Nat.reduceBEq, Nat.reduceEqDiff, Nat.reduceLT, Nat.reduceLeDiff, Nat.reduceAdd, Nat.reduceMul, Nat.reduceSub, reduceCtorEq, Int.reduceToNat]) | (refine Br.mk ?_ ?_ <;> intro h) | (refine BrN.mk (fun h => ?_) ?_) | (refine AltVC.mk ?_ ?_)
      refine LoopVC.mk (X := Nat) (fun j => [(98, iv .i64 j)]) (fun j => [(0, ⟨4, [[iv .i64 g.k, iv .i64 g.n, iv .i64 g.start, .sl 2 (tbl rulD g.rules)]], true, false, .fix⟩), (2, ⟨3, [itD (r, m, f)], true, false, .fix⟩)]) (fun j => (S.getD i default).length - j) (fun j => j ≤ (S.getD i default).length ∧ ∀ q, q < j → (fun j => decide (nxI g j < 0) && (decide (lft g j.1 = sg - g.k) && decide ((r, m, f) ∈ S.getD j.2.2 []))) ((S.getD i default).getD q default) = false) 0 ⟨Nat.zero_le _, fun j hj => absurd hj (Nat.not_lt_zero _)⟩ ?_ ?_
      · (simp (disch := first | omega | (simp only [vlen]; first | done | omega)) only [Fits_u, Fits_m, Fits_nil, List.length_append, vis, ↓vAq, vBq, ↓reduceIte, Nat.reduceBEq, Nat.reduceEqDiff, Nat.reduceLT, Nat.reduceLeDiff, Nat.reduceAdd, Nat.reduceMul, Nat.reduceSub, reduceCtorEq, Int.reduceToNat] <;> (repeat' first | rfl | apply And.intro))
        all_goals trace_state
      rintro j ⟨hj, hn⟩
      have hc2 : com2 g S i (r, m + 1, f) = (S.getD i []).any fun j => decide (nxI g j < 0) && (decide (lft g j.1 = sg - g.k) && decide ((r, m, f) ∈ S.getD j.2.2 [])) := by unfold com2; rw [hll, hsg]
      by_cases hlt : j < (S.getD i default).length
      · have hwi := hS.wi i _ (getD_mem' hlt)
        have hn1 := hn
        have hany : (decide (nxI g ((S.getD i default).getD j default) < 0) && (decide (lft g ((S.getD i default).getD j default).1 = sg - g.k) && decide ((r, m, f) ∈ S.getD ((S.getD i default).getD j default).2.2 []))) = true → com2 g S i (r, m + 1, f) = true := fun h => by
          rw [hc2]; exact any_at (p := fun j => decide (nxI g j < 0) && (decide (lft g j.1 = sg - g.k) && decide ((r, m, f) ∈ S.getD j.2.2 []))) hlt h
        generalize hy : (S.getD i default).getD j default = y at *
        obtain ⟨w1, w2, w3, w4⟩ := hwi
        have hny := rnext_spec g y w1 (h4 _ w1)
        have hth := there_spec (S.getD y.2.2 []) (r, m, f) (hS.sm _) (fun z hz => Wi.smI hc (hS.wi _ z hz)) hsm
        have hlfy := hc.v.left _ (getD_mem' w1)
        have hstep : (decide (nxI g y < 0) && (decide (lft g y.1 = sg - g.k) && decide ((r, m, f) ∈ S.getD y.2.2 []))) = false → ∀ q, q < j + 1 → (fun j => decide (nxI g j < 0) && (decide (lft g j.1 = sg - g.k) && decide ((r, m, f) ∈ S.getD j.2.2 []))) ((S.getD i default).getD q default) = false := fun h q hq => by
          by_cases e : q = j
          · subst e; rw [hy]; exact h
          · exact hn1 q (by omega)
        repeat' first | ((first | refine Br.dec ?_ ?_ | refine Br.eqi ?_ ?_) <;> intro h <;> try (exfalso; omega)) | (simp (disch := first | omega | (simp only [vlen]; first | done | omega)) only [hy, vis, ↓vAq, vBq, ↓reduceIte, Nat.reduceBEq, Nat.reduceEqDiff, Nat.reduceLT, Nat.reduceLeDiff, Nat.reduceAdd, Nat.reduceMul, Nat.reduceSub, reduceCtorEq, Int.reduceToNat]) | (refine Br.mk ?_ ?_ <;> intro h) | (refine BrN.mk (fun h => ?_) ?_) | (refine AltVC.mk ?_ ?_)
        refine CallVC.eqo hny plain_v ?_
        by_cases hneg : nxI g y < 0
        · by_cases hle : (g.rules.getD y.1 default).left = sg - g.k
          · repeat' first | ((first | refine Br.dec ?_ ?_ | refine Br.eqi ?_ ?_) <;> intro h <;> try (exfalso; omega)) | (simp (disch := first | omega | (simp only [vlen]; first | done | omega)) only [hle, vis, ↓vAq, vBq, ↓reduceIte, Nat.reduceBEq, Nat.reduceEqDiff, Nat.reduceLT, Nat.reduceLeDiff, Nat.reduceAdd, Nat.reduceMul, Nat.reduceSub, reduceCtorEq, Int.reduceToNat]) | (refine Br.mk ?_ ?_ <;> intro h) | (refine BrN.mk (fun h => ?_) ?_) | (refine AltVC.mk ?_ ?_)
            refine CallVC.eqo hth plain_v ?_
            by_cases hin : (r, m, f) ∈ S.getD y.2.2 []
            · rw [hany (by rw [decide_eq_true hneg, decide_eq_true (show lft g y.1 = _ from hle), decide_eq_true hin]; rfl), decide_eq_true hin]
              repeat' first | ((first | refine Br.dec ?_ ?_ | refine Br.eqi ?_ ?_) <;> intro h <;> try (exfalso; omega)) | (simp (disch := first | omega | (simp only [vlen]; first | done | omega)) only [vis, ↓vAq, vBq, ↓reduceIte, Nat.reduceBEq, Nat.reduceEqDiff, Nat.reduceLT, Nat.reduceLeDiff, Nat.reduceAdd, Nat.reduceMul, Nat.reduceSub, reduceCtorEq, Int.reduceToNat]) | (refine Br.mk ?_ ?_ <;> intro h) | (refine BrN.mk (fun h => ?_) ?_) | (refine AltVC.mk ?_ ?_)
              exact fin_mk rfl
            · rw [decide_eq_false hin]
              repeat' first | ((first | refine Br.dec ?_ ?_ | refine Br.eqi ?_ ?_) <;> intro h <;> try (exfalso; omega)) | (simp (disch := first | omega | (simp only [vlen]; first | done | omega)) only [vis, ↓vAq, vBq, ↓reduceIte, Nat.reduceBEq, Nat.reduceEqDiff, Nat.reduceLT, Nat.reduceLeDiff, Nat.reduceAdd, Nat.reduceMul, Nat.reduceSub, reduceCtorEq, Int.reduceToNat]) | (refine Br.mk ?_ ?_ <;> intro h) | (refine BrN.mk (fun h => ?_) ?_) | (refine AltVC.mk ?_ ?_)
              refine loopK.mk (j + 1) (by simp (disch := first | omega | (simp only [vlen]; first | done | omega)) only [vis, ↓vAq, vBq, ↓reduceIte, Nat.reduceBEq, Nat.reduceEqDiff, Nat.reduceLT, Nat.reduceLeDiff, Nat.reduceAdd, Nat.reduceMul, Nat.reduceSub, reduceCtorEq, Int.reduceToNat]) ⟨by show j + 1 ≤ _; omega, hstep (by rw [decide_eq_false hin]; simp)⟩ (by show _ - (j + 1) < _ - j; omega) ?_
              (simp (disch := first | omega | (simp only [vlen]; first | done | omega)) only [Fits_u, Fits_m, Fits_nil, List.length_append, vis, ↓vAq, vBq, ↓reduceIte, Nat.reduceBEq, Nat.reduceEqDiff, Nat.reduceLT, Nat.reduceLeDiff, Nat.reduceAdd, Nat.reduceMul, Nat.reduceSub, reduceCtorEq, Int.reduceToNat] <;> (repeat' first | rfl | apply And.intro))
              all_goals trace_state
          · repeat' first | ((first | refine Br.dec ?_ ?_ | refine Br.eqi ?_ ?_) <;> intro h <;> try (exfalso; omega)) | (simp (disch := first | omega | (simp only [vlen]; first | done | omega)) only [vis, ↓vAq, vBq, ↓reduceIte, Nat.reduceBEq, Nat.reduceEqDiff, Nat.reduceLT, Nat.reduceLeDiff, Nat.reduceAdd, Nat.reduceMul, Nat.reduceSub, reduceCtorEq, Int.reduceToNat]) | (refine Br.mk ?_ ?_ <;> intro h) | (refine BrN.mk (fun h => ?_) ?_) | (refine AltVC.mk ?_ ?_)
            refine loopK.mk (j + 1) (by simp (disch := first | omega | (simp only [vlen]; first | done | omega)) only [vis, ↓vAq, vBq, ↓reduceIte, Nat.reduceBEq, Nat.reduceEqDiff, Nat.reduceLT, Nat.reduceLeDiff, Nat.reduceAdd, Nat.reduceMul, Nat.reduceSub, reduceCtorEq, Int.reduceToNat]) ⟨by show j + 1 ≤ _; omega, hstep (by rw [decide_eq_false (show ¬ lft g y.1 = _ from hle)]; simp)⟩ (by show _ - (j + 1) < _ - j; omega) ?_
            (simp (disch := first | omega | (simp only [vlen]; first | done | omega)) only [Fits_u, Fits_m, Fits_nil, List.length_append, vis, ↓vAq, vBq, ↓reduceIte, Nat.reduceBEq, Nat.reduceEqDiff, Nat.reduceLT, Nat.reduceLeDiff, Nat.reduceAdd, Nat.reduceMul, Nat.reduceSub, reduceCtorEq, Int.reduceToNat] <;> (repeat' first | rfl | apply And.intro))
            all_goals trace_state
        · repeat' first | ((first | refine Br.dec ?_ ?_ | refine Br.eqi ?_ ?_) <;> intro h <;> try (exfalso; omega)) | (simp (disch := first | omega | (simp only [vlen]; first | done | omega)) only [vis, ↓vAq, vBq, ↓reduceIte, Nat.reduceBEq, Nat.reduceEqDiff, Nat.reduceLT, Nat.reduceLeDiff, Nat.reduceAdd, Nat.reduceMul, Nat.reduceSub, reduceCtorEq, Int.reduceToNat]) | (refine Br.mk ?_ ?_ <;> intro h) | (refine BrN.mk (fun h => ?_) ?_) | (refine AltVC.mk ?_ ?_)
          refine loopK.mk (j + 1) (by simp (disch := first | omega | (simp only [vlen]; first | done | omega)) only [vis, ↓vAq, vBq, ↓reduceIte, Nat.reduceBEq, Nat.reduceEqDiff, Nat.reduceLT, Nat.reduceLeDiff, Nat.reduceAdd, Nat.reduceMul, Nat.reduceSub, reduceCtorEq, Int.reduceToNat]) ⟨by show j + 1 ≤ _; omega, hstep (by rw [decide_eq_false hneg]; simp)⟩ (by show _ - (j + 1) < _ - j; omega) ?_
          (simp (disch := first | omega | (simp only [vlen]; first | done | omega)) only [Fits_u, Fits_m, Fits_nil, List.length_append, vis, ↓vAq, vBq, ↓reduceIte, Nat.reduceBEq, Nat.reduceEqDiff, Nat.reduceLT, Nat.reduceLeDiff, Nat.reduceAdd, Nat.reduceMul, Nat.reduceSub, reduceCtorEq, Int.reduceToNat] <;> (repeat' first | rfl | apply And.intro))
          all_goals trace_state
      · have hno : com2 g S i (r, m + 1, f) = false := by rw [hc2]; exact any_no (l := S.getD i []) (n := j) (by show (S.getD i default).length ≤ j; omega) hn
        rw [hno]
        repeat' first | ((first | refine Br.dec ?_ ?_ | refine Br.eqi ?_ ?_) <;> intro h <;> try (exfalso; omega)) | (simp (disch := first | omega | (simp only [vlen]; first | done | omega)) only [vis, ↓vAq, vBq, ↓reduceIte, Nat.reduceBEq, Nat.reduceEqDiff, Nat.reduceLT, Nat.reduceLeDiff, Nat.reduceAdd, Nat.reduceMul, Nat.reduceSub, reduceCtorEq, Int.reduceToNat]) | (refine Br.mk ?_ ?_ <;> intro h) | (refine BrN.mk (fun h => ?_) ?_) | (refine AltVC.mk ?_ ?_)
        exact fin_mk rfl
end Go.Proofs.Ytcbilnmpiladnaa

namespace Go.Proofs.Ytcbilnmpiladnaa
open Go.Dm
set_option linter.unusedSimpArgs false
set_option linter.unnecessarySimpa false
set_option linter.unusedVariables false
theorem nxI_pos {g : Grammar} {x : It} {s : Int} (h : nxI g x = s) (hs : 0 ≤ s) : nxt g x = some s := by
  cases h2 : nxt g x with
  | none => rw [nxI_none h2] at h; omega
  | some t => rw [nxI_some h2] at h; rw [h]
theorem nxI_neg {g : Grammar} {w : List Int} (hc : IC g w) {x : It} (h1 : x.1 < g.rules.length) (h : nxI g x < 0) : nxt g x = none := by
  cases h2 : nxt g x with
  | none => rfl
  | some t =>
    rw [nxI_some h2] at h
    have hm : t ∈ rgt g x.1 := by
      unfold nxt at h2
      exact List.mem_of_getElem? h2
    have := hc.v.right _ (getD_mem' h1) t hm
    omega
theorem com_snd {g : Grammar} {w : List Int} (hc : IC g w) {S : List (List It)} (hE : ∀ i x, x ∈ S.getD i [] → Ear g w i x) {i : Nat} {x : It} (hx : Wi g w.length i x) (h : comB g w S i x = true) : Ear g w i x := by
  have hk := hc.v.k
  obtain ⟨r, d, f⟩ := x
  obtain ⟨x1, x2, x3, x4⟩ := hx
  simp only at x1 x2 x3
  have hl : 0 ≤ lft g r := (hc.v.left _ (getD_mem' x1)).1
  unfold comB at h
  by_cases hd : d = 0
  · subst hd
    rw [if_pos (show ((r, 0, f) : It).2.1 = 0 from rfl)] at h
    simp only [Bool.and_eq_true, Bool.or_eq_true, decide_eq_true_eq] at h
    obtain ⟨rfl, ⟨h0, hs⟩ | h⟩ := h
    · subst h0; exact .start x1 hs
    · obtain ⟨y, hy, h⟩ := List.any_eq_true.1 h
      exact .pred (hE _ _ hy) (nxI_pos (of_decide_eq_true h) (by show 0 ≤ g.k + lft g r; omega)) x1
  · obtain ⟨m, rfl⟩ : ∃ m, d = m + 1 := ⟨d - 1, by omega⟩
    rw [if_neg (show ¬ ((r, m + 1, f) : It).2.1 = 0 from hd)] at h
    have hll : lst (r, m + 1, f) = (r, m, f) := rfl
    rw [hll] at h
    have hsome : ∃ s, nxt g (r, m, f) = some s := ⟨(rgt g r).getD m 0, get_some (by show m < (rgt g r).length; omega)⟩
    obtain ⟨s, hs⟩ := hsome
    rw [nxI_some hs] at h
    by_cases hsk : s < g.k
    · rw [if_pos hsk] at h
      simp only [Bool.and_eq_true, decide_eq_true_eq] at h
      obtain ⟨h0, hw, hin⟩ := h
      obtain ⟨i', rfl⟩ : ∃ i', i = i' + 1 := ⟨i - 1, by omega⟩
      rw [Nat.add_sub_cancel] at hw hin
      exact .scan (x := (r, m, f)) (hE _ _ hin) (by omega) (by rw [hs, hw])
    · rw [if_neg hsk] at h
      unfold com2 at h
      rw [hll, nxI_some hs] at h
      obtain ⟨y, hy, h⟩ := List.any_eq_true.1 h
      simp only [Bool.and_eq_true, decide_eq_true_eq] at h
      obtain ⟨h1, h2, h3⟩ := h
      have hyE := hE _ _ hy
      exact .comp (x := y) (y := (r, m, f)) hyE (nxI_neg hc hyE.wi.1 h1) (hE _ _ h3) (by rw [hs]; congr 1; omega)
theorem com_cmp {g : Grammar} {w : List Int} (hc : IC g w) (hg : GW g w) {S : List (List It)} (hC : ∀ i x, Wi g w.length i x → comB g w S i x = true → x ∈ S.getD i []) {i : Nat} {x : It} (h : Ear g w i x) : x ∈ S.getD i [] := by
  have hk := hc.v.k
  induction h with
  | @start r hr hl =>
    refine hC 0 _ (Ear.start (w := w) hr hl).wi ?_
    unfold comB
    rw [if_pos rfl, decide_eq_true rfl, decide_eq_true (show (0 : Nat) = 0 ∧ lft g r = g.start from ⟨rfl, hl⟩)]; rfl
  | @pred i x r hx hn hr ih =>
    refine hC i _ (hx.pred hn hr).wi ?_
    unfold comB
    rw [if_pos rfl, decide_eq_true rfl]
    have : com0 g S i (r, 0, i) = true := List.any_eq_true.2 ⟨x, ih, decide_eq_true (nxI_some hn)⟩
    rw [this]; simp
  | @scan i x hx hi hn ih =>
    refine hC (i + 1) _ (hx.scan hi hn).wi ?_
    unfold comB
    rw [if_neg (show ¬ ((x.1, x.2.1 + 1, x.2.2) : It).2.1 = 0 from Nat.succ_ne_zero _), show lst (x.1, x.2.1 + 1, x.2.2) = x from rfl, nxI_some hn, if_pos (hg.k i hi), decide_eq_true (Nat.succ_pos i), Nat.add_sub_cancel, decide_eq_true rfl, decide_eq_true ih]; rfl
  | @comp i x y hx hn hy hm ih1 ih2 =>
    refine hC i _ (hx.comp hn hy hm).wi ?_
    have hl : 0 ≤ lft g x.1 := hg.l _ hx.wi.1
    unfold comB
    rw [if_neg (show ¬ ((y.1, y.2.1 + 1, y.2.2) : It).2.1 = 0 from Nat.succ_ne_zero _), show lst (y.1, y.2.1 + 1, y.2.2) = y from rfl, nxI_some hm, if_neg (show ¬ g.k + lft g x.1 < g.k by omega)]
    unfold com2
    rw [show lst (y.1, y.2.1 + 1, y.2.2) = y from rfl, nxI_some hm]
    refine List.any_eq_true.2 ⟨x, ih1, ?_⟩
    rw [nxI_none hn, decide_eq_true ih2, decide_eq_true (show lft g x.1 = g.k + lft g x.1 - g.k by omega)]; rfl
end Go.Proofs.Ytcbilnmpiladnaa

namespace Go.Dm
set_option linter.unusedSimpArgs false
set_option linter.unusedVariables false
def iwp (l : List It) (b : Nat) : List It := (l.set (b + 1) (l.getD b default)).set b (l.getD (b + 1) default)
theorem iwp_get {l : List It} {b p : Nat} (h : b + 1 < l.length) : (iwp l b).getD p default = if p = b then l.getD (b + 1) default else if p = b + 1 then l.getD b default else l.getD p default := by
  unfold iwp
  simp only [List.getD_eq_getElem?_getD, List.getElem?_set, List.length_set]
  by_cases e1 : p = b
  · subst e1; simp; rw [if_pos (by omega)]; rfl
  · rw [if_neg (fun e => e1 e.symm), if_neg e1]
    by_cases e2 : p = b + 1
    · subst e2; rw [if_pos rfl, if_pos rfl, if_pos h]; rfl
    · rw [if_neg (fun e => e2 e.symm), if_neg e2]
theorem iwp_perm {l : List It} {b : Nat} (h : b + 1 < l.length) : (iwp l b).Perm l := by
  have e1 : l.getD b default = l[b] := by simp [List.getD_eq_getElem?_getD, show b < l.length by omega]
  have e2 : l.getD (b + 1) default = l[b + 1] := by simp [List.getD_eq_getElem?_getD, h]
  unfold iwp
  rw [e1, e2]
  exact List.set_set_perm h (by omega)
def Ins (l : List It) (a b : Nat) : Prop := ∀ p q, p < q → q ≤ a → q ≠ b → ilt (l.getD p default) (l.getD q default) = true
theorem Ins.start {l : List It} {a : Nat} (h : ∀ p q, p < q → q < a → ilt (l.getD p default) (l.getD q default) = true) : Ins l a a := fun p q hp hq hn => h p q hp (by omega)
theorem Ins.swap {l : List It} {a b : Nat} (h : Ins l a (b + 1)) (hb : b + 1 ≤ a) (ha : a < l.length) (hl : ilt (l.getD (b + 1) default) (l.getD b default) = true) : Ins (iwp l b) a b := fun p q hp hq hn => by
  rw [iwp_get (by omega), iwp_get (by omega), if_neg hn]
  by_cases eq : q = b + 1
  · rw [if_pos eq]
    by_cases ep : p = b
    · rw [if_pos ep]; exact hl
    · rw [if_neg ep, if_neg (by omega)]; exact h p b (by omega) (by omega) (by omega)
  · rw [if_neg eq]
    by_cases ep : p = b
    · rw [if_pos ep]; exact h (b + 1) q (by omega) hq eq
    · rw [if_neg ep]
      by_cases ep2 : p = b + 1
      · rw [if_pos ep2]; exact h b q (by omega) hq eq
      · rw [if_neg ep2]; exact h p q hp hq eq
theorem Ins.end0 {l : List It} {a : Nat} (h : Ins l a 0) : ∀ p q, p < q → q < a + 1 → ilt (l.getD p default) (l.getD q default) = true := fun p q hp hq => h p q hp (by omega) (by omega)
theorem nodup_ne {l : List It} (h : l.Nodup) {p q : Nat} (hp : p < q) (hq : q < l.length) : l.getD p default ≠ l.getD q default := by
  have := (List.pairwise_iff_getElem.1 h) p q (by omega) hq hp
  simpa [List.getD_eq_getElem?_getD, hq, show p < l.length by omega] using this
theorem Ins.ends {l : List It} {a b : Nat} (h : Ins l a (b + 1)) (hb : b + 1 ≤ a) (ha : a < l.length) (hd : l.Nodup) (hl : ¬ ilt (l.getD (b + 1) default) (l.getD b default) = true) : ∀ p q, p < q → q < a + 1 → ilt (l.getD p default) (l.getD q default) = true := fun p q hp hq => by
  by_cases e : q = b + 1
  · subst e
    have h1 : ilt (l.getD b default) (l.getD (b + 1) default) = true := by
      rcases ilt_tri (nodup_ne hd (Nat.lt_succ_self b) (by omega)) with h | h
      · exact h
      · exact absurd h hl
    by_cases ep : p = b
    · subst ep; exact h1
    · exact ilt_trans (h p b (by omega) (by omega) (by omega)) h1
  · exact h p q hp (by omega) e
theorem srt_of {l : List It} (h : ∀ p q, p < q → q < l.length → ilt (l.getD p default) (l.getD q default) = true) : Srt l := List.pairwise_iff_getElem.2 fun p q hp hq hpq => by
  have := h p q hpq hq
  simpa [List.getD_eq_getElem?_getD, hp, hq] using this
end Go.Dm
