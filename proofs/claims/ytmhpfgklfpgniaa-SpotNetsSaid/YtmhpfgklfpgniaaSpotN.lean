/-
  spot.Net.
-/
import Derived.Test.YtmhpfgklfpgniaaSpotW
import Derived.Test.YtmhpfgklfpgniaaNetRun
namespace Go.Proofs.Ytmhpfgklfpgniaa
open Go.Dm
set_option linter.unusedSimpArgs false
set_option linter.unnecessarySimpa false
set_option linter.unusedVariables false
set_option linter.defProp false
def arI (g : Gl) (p : Nat) : Nat → List Arc
  | 0 => []
  | q + 1 => arI g p q ++ if g.fol p q = true then [⟨p, g.syms.getD q 0, q⟩] else []
def arO (g : Gl) (n : Nat) : Nat → List Arc
  | 0 => []
  | p + 1 => arO g n p ++ arI g p n
theorem arI_mem {g : Gl} {p : Nat} {a : Arc} : ∀ {n : Nat}, a ∈ arI g p n ↔ ∃ q, q < n ∧ g.fol p q = true ∧ a = ⟨p, g.syms.getD q 0, q⟩
  | 0 => by simp [arI]
  | n + 1 => by
    rw [arI, List.mem_append, arI_mem]
    constructor
    · rintro (⟨q, h1, h2, h3⟩ | h)
      · exact ⟨q, by omega, h2, h3⟩
      · split at h
        · next hf => exact ⟨n, by omega, hf, by simpa using h⟩
        · cases h
    · rintro ⟨q, h1, h2, h3⟩
      by_cases e : q = n
      · subst e; right; rw [if_pos h2, h3]; simp
      · exact .inl ⟨q, by omega, h2, h3⟩
theorem arO_mem {g : Gl} {n : Nat} {a : Arc} : ∀ {m : Nat}, a ∈ arO g n m ↔ ∃ p q, p < m ∧ q < n ∧ g.fol p q = true ∧ a = ⟨p, g.syms.getD q 0, q⟩
  | 0 => by simp [arO]
  | m + 1 => by
    rw [arO, List.mem_append, arO_mem, arI_mem]
    constructor
    · rintro (⟨p, q, h1, h2⟩ | ⟨q, h⟩)
      · exact ⟨p, q, by omega, h2⟩
      · exact ⟨m, q, by omega, h⟩
    · rintro ⟨p, q, h1, h2⟩
      by_cases e : p = m
      · subst e; exact .inr ⟨q, h2⟩
      · exact .inl ⟨p, q, by omega, h2⟩
theorem arI_len {g : Gl} {p : Nat} (h0 : g.fol p 0 = false) : ∀ {n : Nat}, (arI g p (n + 1)).length ≤ n
  | 0 => by simp [arI, h0]
  | n + 1 => by
    have := arI_len h0 (n := n)
    rw [arI, List.length_append]
    split
    · simp only [List.length_cons, List.length_nil]; omega
    · simp only [List.length_nil]; omega
theorem arI_le {g : Gl} {p : Nat} : ∀ {n : Nat}, (arI g p n).length ≤ n
  | 0 => by simp [arI]
  | n + 1 => by
    have := @arI_le g p n
    rw [arI, List.length_append]
    split
    · simp only [List.length_cons, List.length_nil]; omega
    · simp only [List.length_nil]; omega
theorem arO_le {g : Gl} {n : Nat} : ∀ {m : Nat}, (arO g n m).length ≤ m * n
  | 0 => by simp [arO]
  | m + 1 => by
    have := @arO_le g n m
    have := @arI_le g m n
    rw [arO, List.length_append, Nat.succ_mul]; omega
theorem arO_len {g : Gl} {n : Nat} (h0 : ∀ p, g.fol p 0 = false) : ∀ {m : Nat}, (arO g (n + 1) m).length ≤ m * n
  | 0 => by simp [arO]
  | m + 1 => by
    have := @arO_len g n h0 m
    have := arI_len (h0 m) (n := n)
    rw [arO, List.length_append, Nat.succ_mul]; omega
/-- The net of the positions. -/
def spN (k : Int) (g : Gl) : Net := ⟨g.syms.length, k, arO g g.syms.length g.syms.length, 1, setOf g.last g.syms.length⟩
def spF (k : Int) (g : Gl) : D := if 7 < g.syms.length then .tu [.ag [iv .i64 0, iv .i64 0, .nl, iv .u32 0, iv .u32 0], iv .i64 1] else .tu [.ag (netD (spN k g)), iv .i64 0]
theorem arI_step {g : Gl} {p q : Nat} {L : List Arc} (h : g.fol p q = true) : L ++ arI g p q ++ [⟨p, g.syms.getD q 0, q⟩] = L ++ arI g p (q + 1) := by rw [arI, if_pos h, List.append_assoc]
theorem arI_skip {g : Gl} {p q : Nat} {L : List Arc} (h : g.fol p q = false) : L ++ arI g p q = L ++ arI g p (q + 1) := by rw [arI, h]; simp
def snO (k : Int) (g : Gl) (L : List Arc) (F : Nat) : List (Nat × Ob) := [(0, ⟨5, [[iv .i64 0, iv .i64 0, .nl, iv .u32 0, iv .u32 0]], true, false, .fix⟩), (1, ⟨7, [glD g], true, false, .fix⟩), (2, ⟨5, [[iv .i64 g.syms.length, iv .i64 k, .own false 3 (tbl arcD L), iv .u32 1, iv .u32 F]], true, true, .fix⟩)]
def vsp := And.intro vgm <| And.intro @glD_eq @arcD_eq
set_option maxRecDepth 10000 in
set_option maxHeartbeats 4000000 in
theorem sNet_err (k : Int) (l : List Dm.Node) (hl : l.length ≤ 9223372036854775807) (h : ¬ sentCode k l = 0) : Dm.Spec Try.prog 25 [iv .i64 k, .sl 3 (tbl nodD l)] (· = .tu [.ag [iv .i64 0, iv .i64 0, .nl, iv .u32 0, iv .u32 0], iv .i64 (sentCode k l)]) := by
  refine spec_of_vc mixed Try.func25 c25 (by rw [show Try.f25.ntmps = _ from Try.ntmps25]; simp) ?_
  unfold m25 r25
  repeat' first | (refine Br.dec (fun h => ?_) (fun h => ?_) <;> try (exfalso; omega)) | (refine Br.eqi (fun h => ?_) (fun h => ?_) <;> try (exfalso; omega)) | (simp (disch := (first | omega | (simp only [vlen]; first | done | omega))) only [vsp, ↓va0, ↓va1, ↓va2, ↓va3, vb0, vb1, vb2, vb3, vb4, vb5, vb6, vb7, vb8, vb9, vb10, vz0, vz1, vy0, vx0, ↓reduceIte, Nat.reduceBEq, Nat.reduceEqDiff, Nat.reduceLT, Nat.reduceLeDiff, Nat.reduceAdd, Nat.reduceMul, Nat.reduceSub, reduceCtorEq, Int.reduceToNat]) | (refine Br.mk (fun h => ?_) (fun h => ?_)) | (refine BrN.mk (fun h => ?_) ?_) | (refine AltVC.mk ?_ ?_)
  refine CallVC.eq (sCheck_spec k l hl) ?_
  repeat' first | (refine Br.dec (fun h => ?_) (fun h => ?_) <;> try (exfalso; omega)) | (refine Br.eqi (fun h => ?_) (fun h => ?_) <;> try (exfalso; omega)) | (simp (disch := (first | omega | (simp only [vlen]; first | done | omega))) only [vsp, ↓va0, ↓va1, ↓va2, ↓va3, vb0, vb1, vb2, vb3, vb4, vb5, vb6, vb7, vb8, vb9, vb10, vz0, vz1, vy0, vx0, ↓reduceIte, Nat.reduceBEq, Nat.reduceEqDiff, Nat.reduceLT, Nat.reduceLeDiff, Nat.reduceAdd, Nat.reduceMul, Nat.reduceSub, reduceCtorEq, Int.reduceToNat]) | (refine Br.mk (fun h => ?_) (fun h => ?_)) | (refine BrN.mk (fun h => ?_) ?_) | (refine AltVC.mk ?_ ?_)
  exact fin_mk rfl
set_option maxRecDepth 10000 in
set_option maxHeartbeats 4000000 in
theorem sNet_spec (k : Int) (l : List Dm.Node) (h : sentCode k l = 0) : Dm.Spec Try.prog 25 [iv .i64 k, .sl 3 (tbl nodD l)] (fun d => ∃ x u, d = spF k (glOf x u) ∧ Bl l (l.length - 1) au0 x u ∧ u.syms.length ≤ 257) := by
  refine spec_of_vc mixed Try.func25 c25 (by rw [show Try.f25.ntmps = _ from Try.ntmps25]; simp) ?_
  unfold m25 r25
  obtain ⟨hk, hl, hv⟩ := sent_ok h
  have hC := sCheck_spec k l (by omega)
  rw [h] at hC
  repeat' first | (refine Br.dec (fun h => ?_) (fun h => ?_) <;> try (exfalso; omega)) | (refine Br.eqi (fun h => ?_) (fun h => ?_) <;> try (exfalso; omega)) | (simp (disch := (first | omega | (simp only [vlen]; first | done | omega))) only [vsp, ↓va0, ↓va1, ↓va2, ↓va3, vb0, vb1, vb2, vb3, vb4, vb5, vb6, vb7, vb8, vb9, vb10, vz0, vz1, vy0, vx0, ↓reduceIte, Nat.reduceBEq, Nat.reduceEqDiff, Nat.reduceLT, Nat.reduceLeDiff, Nat.reduceAdd, Nat.reduceMul, Nat.reduceSub, reduceCtorEq, Int.reduceToNat]) | (refine Br.mk (fun h => ?_) (fun h => ?_)) | (refine BrN.mk (fun h => ?_) ?_) | (refine AltVC.mk ?_ ?_)
  refine CallVC.eq hC ?_
  repeat' first | (refine Br.dec (fun h => ?_) (fun h => ?_) <;> try (exfalso; omega)) | (refine Br.eqi (fun h => ?_) (fun h => ?_) <;> try (exfalso; omega)) | (simp (disch := (first | omega | (simp only [vlen]; first | done | omega))) only [vsp, ↓va0, ↓va1, ↓va2, ↓va3, vb0, vb1, vb2, vb3, vb4, vb5, vb6, vb7, vb8, vb9, vb10, vz0, vz1, vy0, vx0, ↓reduceIte, Nat.reduceBEq, Nat.reduceEqDiff, Nat.reduceLT, Nat.reduceLeDiff, Nat.reduceAdd, Nat.reduceMul, Nat.reduceSub, reduceCtorEq, Int.reduceToNat]) | (refine Br.mk (fun h => ?_) (fun h => ?_)) | (refine BrN.mk (fun h => ?_) ?_) | (refine AltVC.mk ?_ ?_)
  refine CallVC.mk (gMake_spec k l hv hl) ?_
  rintro _ ⟨x, u, rfl, hbl, hn⟩
  obtain ⟨g, hg⟩ : ∃ g, glOf x u = g := ⟨_, rfl⟩
  have hgn : g.syms.length ≤ 257 := by rw [← hg]; exact hn
  rw [hg]
  by_cases h7 : 7 < g.syms.length
  · have e : spF k g = .tu [.ag [iv .i64 0, iv .i64 0, .nl, iv .u32 0, iv .u32 0], iv .i64 1] := if_pos h7
    repeat' first | (refine Br.dec (fun h => ?_) (fun h => ?_) <;> try (exfalso; omega)) | (refine Br.eqi (fun h => ?_) (fun h => ?_) <;> try (exfalso; omega)) | (simp (disch := (first | omega | (simp only [vlen]; first | done | omega))) only [vsp, ↓va0, ↓va1, ↓va2, ↓va3, vb0, vb1, vb2, vb3, vb4, vb5, vb6, vb7, vb8, vb9, vb10, vz0, vz1, vy0, vx0, ↓reduceIte, Nat.reduceBEq, Nat.reduceEqDiff, Nat.reduceLT, Nat.reduceLeDiff, Nat.reduceAdd, Nat.reduceMul, Nat.reduceSub, reduceCtorEq, Int.reduceToNat]) | (refine Br.mk (fun h => ?_) (fun h => ?_)) | (refine BrN.mk (fun h => ?_) ?_) | (refine AltVC.mk ?_ ?_)
    exact fin_mk ⟨x, u, by rw [hg, e], hbl, hn⟩
  · have e : spF k g = .tu [.ag (netD (spN k g)), iv .i64 0] := if_neg h7
    repeat' first | (refine Br.dec (fun h => ?_) (fun h => ?_) <;> try (exfalso; omega)) | (refine Br.eqi (fun h => ?_) (fun h => ?_) <;> try (exfalso; omega)) | (simp (disch := (first | omega | (simp only [vlen]; first | done | omega))) only [vsp, ↓va0, ↓va1, ↓va2, ↓va3, vb0, vb1, vb2, vb3, vb4, vb5, vb6, vb7, vb8, vb9, vb10, vz0, vz1, vy0, vx0, ↓reduceIte, Nat.reduceBEq, Nat.reduceEqDiff, Nat.reduceLT, Nat.reduceLeDiff, Nat.reduceAdd, Nat.reduceMul, Nat.reduceSub, reduceCtorEq, Int.reduceToNat]) | (refine Br.mk (fun h => ?_) (fun h => ?_)) | (refine BrN.mk (fun h => ?_) ?_) | (refine AltVC.mk ?_ ?_)
    refine LoopVC.nlo 2 0 2 3 ?_
    repeat' first | (refine Br.dec (fun h => ?_) (fun h => ?_) <;> try (exfalso; omega)) | (refine Br.eqi (fun h => ?_) (fun h => ?_) <;> try (exfalso; omega)) | (simp (disch := (first | omega | (simp only [vlen]; first | done | omega))) only [vsp, ↓va0, ↓va1, ↓va2, ↓va3, vb0, vb1, vb2, vb3, vb4, vb5, vb6, vb7, vb8, vb9, vb10, vz0, vz1, vy0, vx0, ↓reduceIte, Nat.reduceBEq, Nat.reduceEqDiff, Nat.reduceLT, Nat.reduceLeDiff, Nat.reduceAdd, Nat.reduceMul, Nat.reduceSub, reduceCtorEq, Int.reduceToNat]) | (refine Br.mk (fun h => ?_) (fun h => ?_)) | (refine BrN.mk (fun h => ?_) ?_) | (refine AltVC.mk ?_ ?_)
    refine LoopVC.mk (X := Nat) (fun p => [(34, iv .i64 p)]) (fun p => snO k g (arO g g.syms.length p) (setOf g.last p)) (fun p => g.syms.length - p) (fun p => p ≤ g.syms.length) 0 (Nat.zero_le _) ?_ ?_
    · try unfold snO
      (simp (disch := (first | omega | (simp only [vlen]; first | done | omega))) only [Fits_u, Fits_m, Fits_nil, List.length_append, vsp, ↓va0, ↓va1, ↓va2, ↓va3, vb0, vb1, vb2, vb3, vb4, vb5, vb6, vb7, vb8, vb9, vb10, vz0, vz1, vy0, vx0, ↓reduceIte, Nat.reduceBEq, Nat.reduceEqDiff, Nat.reduceLT, Nat.reduceLeDiff, Nat.reduceAdd, Nat.reduceMul, Nat.reduceSub, reduceCtorEq, Int.reduceToNat] <;> (repeat' first | rfl | apply And.intro))
      all_goals first | rfl | skip
    · intro p hp
      try unfold snO
      have hF := @setOf_lt g.last p
      have hF2 : 2 ^ p ≤ 2 ^ 7 := Nat.pow_le_pow_right (by omega) (by omega)
      have hOl := @arO_le g g.syms.length p
      have hOm : p * g.syms.length ≤ 7 * 7 := Nat.mul_le_mul (by omega) (by omega)
      by_cases hpl : p < g.syms.length
      · repeat' first | (refine Br.dec (fun h => ?_) (fun h => ?_) <;> try (exfalso; omega)) | (refine Br.eqi (fun h => ?_) (fun h => ?_) <;> try (exfalso; omega)) | (simp (disch := (first | omega | (simp only [vlen]; first | done | omega))) only [vsp, ↓va0, ↓va1, ↓va2, ↓va3, vb0, vb1, vb2, vb3, vb4, vb5, vb6, vb7, vb8, vb9, vb10, vz0, vz1, vy0, vx0, ↓reduceIte, Nat.reduceBEq, Nat.reduceEqDiff, Nat.reduceLT, Nat.reduceLeDiff, Nat.reduceAdd, Nat.reduceMul, Nat.reduceSub, reduceCtorEq, Int.reduceToNat]) | (refine Br.mk (fun h => ?_) (fun h => ?_)) | (refine BrN.mk (fun h => ?_) ?_) | (refine AltVC.mk ?_ ?_)
        refine LoopVC.mk (X := Nat) (fun q => [(40, iv .i64 q)]) (fun q => snO k g (arO g g.syms.length p ++ arI g p q) (setOf g.last p)) (fun q => g.syms.length - q) (fun q => q ≤ g.syms.length) 0 (Nat.zero_le _) ?_ ?_
        · try unfold snO
          rw [show arI g p 0 = [] from rfl, List.append_nil]
          (simp (disch := (first | omega | (simp only [vlen]; first | done | omega))) only [Fits_u, Fits_m, Fits_nil, List.length_append, vsp, ↓va0, ↓va1, ↓va2, ↓va3, vb0, vb1, vb2, vb3, vb4, vb5, vb6, vb7, vb8, vb9, vb10, vz0, vz1, vy0, vx0, ↓reduceIte, Nat.reduceBEq, Nat.reduceEqDiff, Nat.reduceLT, Nat.reduceLeDiff, Nat.reduceAdd, Nat.reduceMul, Nat.reduceSub, reduceCtorEq, Int.reduceToNat] <;> (repeat' first | rfl | apply And.intro))
          all_goals first | rfl | skip
        · intro q hq
          try unfold snO
          have hIl := @arI_le g p q
          have hAl : (arO g g.syms.length p ++ arI g p q).length ≤ 100 := by rw [List.length_append]; omega
          obtain ⟨L, hL⟩ : ∃ L, arO g g.syms.length p ++ arI g p q = L := ⟨_, rfl⟩
          by_cases hql : q < g.syms.length
          · have hH := gHas_spec (g.fol p) q (by omega)
            cases hf : g.fol p q with
            | false =>
              have hs := arI_skip (L := arO g g.syms.length p) hf
              rw [hf] at hH
              rw [hL] at hAl hs ⊢
              repeat' first | (refine Br.dec (fun h => ?_) (fun h => ?_) <;> try (exfalso; omega)) | (refine Br.eqi (fun h => ?_) (fun h => ?_) <;> try (exfalso; omega)) | (simp (disch := (first | omega | (simp only [vlen]; first | done | omega))) only [vsp, ↓va0, ↓va1, ↓va2, ↓va3, vb0, vb1, vb2, vb3, vb4, vb5, vb6, vb7, vb8, vb9, vb10, vz0, vz1, vy0, vx0, ↓reduceIte, Nat.reduceBEq, Nat.reduceEqDiff, Nat.reduceLT, Nat.reduceLeDiff, Nat.reduceAdd, Nat.reduceMul, Nat.reduceSub, reduceCtorEq, Int.reduceToNat]) | (refine Br.mk (fun h => ?_) (fun h => ?_)) | (refine BrN.mk (fun h => ?_) ?_) | (refine AltVC.mk ?_ ?_)
              refine CallVC.eq hH ?_
              repeat' first | (refine Br.dec (fun h => ?_) (fun h => ?_) <;> try (exfalso; omega)) | (refine Br.eqi (fun h => ?_) (fun h => ?_) <;> try (exfalso; omega)) | (simp (disch := (first | omega | (simp only [vlen]; first | done | omega))) only [vsp, ↓va0, ↓va1, ↓va2, ↓va3, vb0, vb1, vb2, vb3, vb4, vb5, vb6, vb7, vb8, vb9, vb10, vz0, vz1, vy0, vx0, ↓reduceIte, Nat.reduceBEq, Nat.reduceEqDiff, Nat.reduceLT, Nat.reduceLeDiff, Nat.reduceAdd, Nat.reduceMul, Nat.reduceSub, reduceCtorEq, Int.reduceToNat]) | (refine Br.mk (fun h => ?_) (fun h => ?_)) | (refine BrN.mk (fun h => ?_) ?_) | (refine AltVC.mk ?_ ?_)
              refine loopK.mk (q + 1) (by simp (disch := (first | omega | (simp only [vlen]; first | done | omega))) only [↓va0, ↓va1, ↓va2, ↓va3, vb0, vb1, vb2, vb3, vb4, vb5, vb6, vb7, vb8, vb9, vb10, vz0, vz1, vy0, vx0, ↓reduceIte, Nat.reduceBEq, Nat.reduceEqDiff, Nat.reduceLT, Nat.reduceLeDiff, Nat.reduceAdd, Nat.reduceMul, Nat.reduceSub, reduceCtorEq, Int.reduceToNat]) (by omega) (by omega) ?_
              try unfold snO
              rw [← hs]
              (simp (disch := (first | omega | (simp only [vlen]; first | done | omega))) only [Fits_u, Fits_m, Fits_nil, List.length_append, vsp, ↓va0, ↓va1, ↓va2, ↓va3, vb0, vb1, vb2, vb3, vb4, vb5, vb6, vb7, vb8, vb9, vb10, vz0, vz1, vy0, vx0, ↓reduceIte, Nat.reduceBEq, Nat.reduceEqDiff, Nat.reduceLT, Nat.reduceLeDiff, Nat.reduceAdd, Nat.reduceMul, Nat.reduceSub, reduceCtorEq, Int.reduceToNat] <;> (repeat' first | rfl | apply And.intro))
              all_goals first | rfl | skip
            | true =>
              have hs := arI_step (L := arO g g.syms.length p) hf
              rw [hf] at hH
              rw [hL] at hAl hs ⊢
              repeat' first | (refine Br.dec (fun h => ?_) (fun h => ?_) <;> try (exfalso; omega)) | (refine Br.eqi (fun h => ?_) (fun h => ?_) <;> try (exfalso; omega)) | (simp (disch := (first | omega | (simp only [vlen]; first | done | omega))) only [vsp, ↓va0, ↓va1, ↓va2, ↓va3, vb0, vb1, vb2, vb3, vb4, vb5, vb6, vb7, vb8, vb9, vb10, vz0, vz1, vy0, vx0, ↓reduceIte, Nat.reduceBEq, Nat.reduceEqDiff, Nat.reduceLT, Nat.reduceLeDiff, Nat.reduceAdd, Nat.reduceMul, Nat.reduceSub, reduceCtorEq, Int.reduceToNat]) | (refine Br.mk (fun h => ?_) (fun h => ?_)) | (refine BrN.mk (fun h => ?_) ?_) | (refine AltVC.mk ?_ ?_)
              refine CallVC.eq hH ?_
              repeat' first | (refine Br.dec (fun h => ?_) (fun h => ?_) <;> try (exfalso; omega)) | (refine Br.eqi (fun h => ?_) (fun h => ?_) <;> try (exfalso; omega)) | (simp (disch := (first | omega | (simp only [vlen]; first | done | omega))) only [vsp, ↓va0, ↓va1, ↓va2, ↓va3, vb0, vb1, vb2, vb3, vb4, vb5, vb6, vb7, vb8, vb9, vb10, vz0, vz1, vy0, vx0, ↓reduceIte, Nat.reduceBEq, Nat.reduceEqDiff, Nat.reduceLT, Nat.reduceLeDiff, Nat.reduceAdd, Nat.reduceMul, Nat.reduceSub, reduceCtorEq, Int.reduceToNat]) | (refine Br.mk (fun h => ?_) (fun h => ?_)) | (refine BrN.mk (fun h => ?_) ?_) | (refine AltVC.mk ?_ ?_)
              have ht : tbl arcD L ++ [[D.v (Value.int IntKind.i64 ↑p), D.v (Value.int IntKind.i64 (g.syms.getD q 0)), D.v (Value.int IntKind.i64 ↑q)]] = tbl arcD (arO g g.syms.length p ++ arI g p (q + 1)) := by rw [← hs, tbl_app]; rfl
              have hl2 : (arO g g.syms.length p ++ arI g p (q + 1)).length = L.length + 1 := by rw [← hs]; simp
              rw [ht]
              refine loopK.fold 3 2 0 2 true ?_
              repeat' first | (refine Br.dec (fun h => ?_) (fun h => ?_) <;> try (exfalso; omega)) | (refine Br.eqi (fun h => ?_) (fun h => ?_) <;> try (exfalso; omega)) | (simp (disch := (first | omega | (simp only [vlen]; first | done | omega))) only [vsp, hl2, ↓va0, ↓va1, ↓va2, ↓va3, vb0, vb1, vb2, vb3, vb4, vb5, vb6, vb7, vb8, vb9, vb10, vz0, vz1, vy0, vx0, ↓reduceIte, Nat.reduceBEq, Nat.reduceEqDiff, Nat.reduceLT, Nat.reduceLeDiff, Nat.reduceAdd, Nat.reduceMul, Nat.reduceSub, reduceCtorEq, Int.reduceToNat]) | (refine Br.mk (fun h => ?_) (fun h => ?_)) | (refine BrN.mk (fun h => ?_) ?_) | (refine AltVC.mk ?_ ?_)
              refine loopK.mk (q + 1) (by simp (disch := (first | omega | (simp only [vlen]; first | done | omega))) only [↓va0, ↓va1, ↓va2, ↓va3, vb0, vb1, vb2, vb3, vb4, vb5, vb6, vb7, vb8, vb9, vb10, vz0, vz1, vy0, vx0, ↓reduceIte, Nat.reduceBEq, Nat.reduceEqDiff, Nat.reduceLT, Nat.reduceLeDiff, Nat.reduceAdd, Nat.reduceMul, Nat.reduceSub, reduceCtorEq, Int.reduceToNat]) (by omega) (by omega) ?_
              try unfold snO
              (simp (disch := (first | omega | (simp only [vlen]; first | done | omega))) only [Fits_u, Fits_m, Fits_nil, List.length_append, vsp, ↓va0, ↓va1, ↓va2, ↓va3, vb0, vb1, vb2, vb3, vb4, vb5, vb6, vb7, vb8, vb9, vb10, vz0, vz1, vy0, vx0, ↓reduceIte, Nat.reduceBEq, Nat.reduceEqDiff, Nat.reduceLT, Nat.reduceLeDiff, Nat.reduceAdd, Nat.reduceMul, Nat.reduceSub, reduceCtorEq, Int.reduceToNat] <;> (repeat' first | rfl | apply And.intro))
              all_goals first | rfl | skip
          · have hqn : q = g.syms.length := by omega
            subst hqn
            have hH := gHas_spec g.last p (by omega)
            have hO1 : arO g g.syms.length p ++ arI g p g.syms.length = arO g g.syms.length (p + 1) := rfl
            rw [hO1] at hAl ⊢
            cases hf : g.last p with
            | false =>
              have hs := setOf_skip (f := g.last) (n := p) (by rw [hf]; simp)
              rw [hf] at hH
              repeat' first | (refine Br.dec (fun h => ?_) (fun h => ?_) <;> try (exfalso; omega)) | (refine Br.eqi (fun h => ?_) (fun h => ?_) <;> try (exfalso; omega)) | (simp (disch := (first | omega | (simp only [vlen]; first | done | omega))) only [vsp, ↓va0, ↓va1, ↓va2, ↓va3, vb0, vb1, vb2, vb3, vb4, vb5, vb6, vb7, vb8, vb9, vb10, vz0, vz1, vy0, vx0, ↓reduceIte, Nat.reduceBEq, Nat.reduceEqDiff, Nat.reduceLT, Nat.reduceLeDiff, Nat.reduceAdd, Nat.reduceMul, Nat.reduceSub, reduceCtorEq, Int.reduceToNat]) | (refine Br.mk (fun h => ?_) (fun h => ?_)) | (refine BrN.mk (fun h => ?_) ?_) | (refine AltVC.mk ?_ ?_)
              refine CallVC.eq hH ?_
              repeat' first | (refine Br.dec (fun h => ?_) (fun h => ?_) <;> try (exfalso; omega)) | (refine Br.eqi (fun h => ?_) (fun h => ?_) <;> try (exfalso; omega)) | (simp (disch := (first | omega | (simp only [vlen]; first | done | omega))) only [vsp, ↓va0, ↓va1, ↓va2, ↓va3, vb0, vb1, vb2, vb3, vb4, vb5, vb6, vb7, vb8, vb9, vb10, vz0, vz1, vy0, vx0, ↓reduceIte, Nat.reduceBEq, Nat.reduceEqDiff, Nat.reduceLT, Nat.reduceLeDiff, Nat.reduceAdd, Nat.reduceMul, Nat.reduceSub, reduceCtorEq, Int.reduceToNat]) | (refine Br.mk (fun h => ?_) (fun h => ?_)) | (refine BrN.mk (fun h => ?_) ?_) | (refine AltVC.mk ?_ ?_)
              refine loopK.mk (p + 1) (by simp (disch := (first | omega | (simp only [vlen]; first | done | omega))) only [↓va0, ↓va1, ↓va2, ↓va3, vb0, vb1, vb2, vb3, vb4, vb5, vb6, vb7, vb8, vb9, vb10, vz0, vz1, vy0, vx0, ↓reduceIte, Nat.reduceBEq, Nat.reduceEqDiff, Nat.reduceLT, Nat.reduceLeDiff, Nat.reduceAdd, Nat.reduceMul, Nat.reduceSub, reduceCtorEq, Int.reduceToNat]) (by omega) (by omega) ?_
              try unfold snO
              rw [hs]
              (simp (disch := (first | omega | (simp only [vlen]; first | done | omega))) only [Fits_u, Fits_m, Fits_nil, List.length_append, vsp, ↓va0, ↓va1, ↓va2, ↓va3, vb0, vb1, vb2, vb3, vb4, vb5, vb6, vb7, vb8, vb9, vb10, vz0, vz1, vy0, vx0, ↓reduceIte, Nat.reduceBEq, Nat.reduceEqDiff, Nat.reduceLT, Nat.reduceLeDiff, Nat.reduceAdd, Nat.reduceMul, Nat.reduceSub, reduceCtorEq, Int.reduceToNat] <;> (repeat' first | rfl | apply And.intro))
              all_goals first | rfl | skip
            | true =>
              have hs : setOf g.last p ||| 2 ^ p = setOf g.last (p + 1) := by rw [setOf, if_pos hf]
              have hp2 := @pow_le31 p (by omega)
              have ho := orN (S := setOf g.last p) (T := 2 ^ p) (by omega) (by omega)
              have hsh := shlN (n := p) (by omega)
              rw [hf] at hH
              repeat' first | (refine Br.dec (fun h => ?_) (fun h => ?_) <;> try (exfalso; omega)) | (refine Br.eqi (fun h => ?_) (fun h => ?_) <;> try (exfalso; omega)) | (simp (disch := (first | omega | (simp only [vlen]; first | done | omega))) only [vsp, ↓va0, ↓va1, ↓va2, ↓va3, vb0, vb1, vb2, vb3, vb4, vb5, vb6, vb7, vb8, vb9, vb10, vz0, vz1, vy0, vx0, ↓reduceIte, Nat.reduceBEq, Nat.reduceEqDiff, Nat.reduceLT, Nat.reduceLeDiff, Nat.reduceAdd, Nat.reduceMul, Nat.reduceSub, reduceCtorEq, Int.reduceToNat]) | (refine Br.mk (fun h => ?_) (fun h => ?_)) | (refine BrN.mk (fun h => ?_) ?_) | (refine AltVC.mk ?_ ?_)
              refine CallVC.eq hH ?_
              repeat' first | (refine Br.dec (fun h => ?_) (fun h => ?_) <;> try (exfalso; omega)) | (refine Br.eqi (fun h => ?_) (fun h => ?_) <;> try (exfalso; omega)) | (simp (disch := (first | omega | (simp only [vlen]; first | done | omega))) only [vsp, ↓va0, ↓va1, ↓va2, ↓va3, vb0, vb1, vb2, vb3, vb4, vb5, vb6, vb7, vb8, vb9, vb10, vz0, vz1, vy0, vx0, ↓reduceIte, Nat.reduceBEq, Nat.reduceEqDiff, Nat.reduceLT, Nat.reduceLeDiff, Nat.reduceAdd, Nat.reduceMul, Nat.reduceSub, reduceCtorEq, Int.reduceToNat]) | (refine Br.mk (fun h => ?_) (fun h => ?_)) | (refine BrN.mk (fun h => ?_) ?_) | (refine AltVC.mk ?_ ?_)
              rw [hsh, ho, hs]
              refine loopK.mk (p + 1) (by simp (disch := (first | omega | (simp only [vlen]; first | done | omega))) only [↓va0, ↓va1, ↓va2, ↓va3, vb0, vb1, vb2, vb3, vb4, vb5, vb6, vb7, vb8, vb9, vb10, vz0, vz1, vy0, vx0, ↓reduceIte, Nat.reduceBEq, Nat.reduceEqDiff, Nat.reduceLT, Nat.reduceLeDiff, Nat.reduceAdd, Nat.reduceMul, Nat.reduceSub, reduceCtorEq, Int.reduceToNat]) (by omega) (by omega) ?_
              try unfold snO
              (simp (disch := (first | omega | (simp only [vlen]; first | done | omega))) only [Fits_u, Fits_m, Fits_nil, List.length_append, vsp, ↓va0, ↓va1, ↓va2, ↓va3, vb0, vb1, vb2, vb3, vb4, vb5, vb6, vb7, vb8, vb9, vb10, vz0, vz1, vy0, vx0, ↓reduceIte, Nat.reduceBEq, Nat.reduceEqDiff, Nat.reduceLT, Nat.reduceLeDiff, Nat.reduceAdd, Nat.reduceMul, Nat.reduceSub, reduceCtorEq, Int.reduceToNat] <;> (repeat' first | rfl | apply And.intro))
              all_goals first | rfl | skip
      · have hpn : p = g.syms.length := by omega
        subst hpn
        repeat' first | (refine Br.dec (fun h => ?_) (fun h => ?_) <;> try (exfalso; omega)) | (refine Br.eqi (fun h => ?_) (fun h => ?_) <;> try (exfalso; omega)) | (simp (disch := (first | omega | (simp only [vlen]; first | done | omega))) only [vsp, ↓va0, ↓va1, ↓va2, ↓va3, vb0, vb1, vb2, vb3, vb4, vb5, vb6, vb7, vb8, vb9, vb10, vz0, vz1, vy0, vx0, ↓reduceIte, Nat.reduceBEq, Nat.reduceEqDiff, Nat.reduceLT, Nat.reduceLeDiff, Nat.reduceAdd, Nat.reduceMul, Nat.reduceSub, reduceCtorEq, Int.reduceToNat]) | (refine Br.mk (fun h => ?_) (fun h => ?_)) | (refine BrN.mk (fun h => ?_) ?_) | (refine AltVC.mk ?_ ?_)
        refine GhoV.frz 2 ?_
        repeat' first | (refine Br.dec (fun h => ?_) (fun h => ?_) <;> try (exfalso; omega)) | (refine Br.eqi (fun h => ?_) (fun h => ?_) <;> try (exfalso; omega)) | (simp (disch := (first | omega | (simp only [vlen]; first | done | omega))) only [vsp, ↓va0, ↓va1, ↓va2, ↓va3, vb0, vb1, vb2, vb3, vb4, vb5, vb6, vb7, vb8, vb9, vb10, vz0, vz1, vy0, vx0, ↓reduceIte, Nat.reduceBEq, Nat.reduceEqDiff, Nat.reduceLT, Nat.reduceLeDiff, Nat.reduceAdd, Nat.reduceMul, Nat.reduceSub, reduceCtorEq, Int.reduceToNat]) | (refine Br.mk (fun h => ?_) (fun h => ?_)) | (refine BrN.mk (fun h => ?_) ?_) | (refine AltVC.mk ?_ ?_)
        refine GhoV.go ?_
        repeat' first | (refine Br.dec (fun h => ?_) (fun h => ?_) <;> try (exfalso; omega)) | (refine Br.eqi (fun h => ?_) (fun h => ?_) <;> try (exfalso; omega)) | (simp (disch := (first | omega | (simp only [vlen]; first | done | omega))) only [vsp, ↓va0, ↓va1, ↓va2, ↓va3, vb0, vb1, vb2, vb3, vb4, vb5, vb6, vb7, vb8, vb9, vb10, vz0, vz1, vy0, vx0, ↓reduceIte, Nat.reduceBEq, Nat.reduceEqDiff, Nat.reduceLT, Nat.reduceLeDiff, Nat.reduceAdd, Nat.reduceMul, Nat.reduceSub, reduceCtorEq, Int.reduceToNat]) | (refine Br.mk (fun h => ?_) (fun h => ?_)) | (refine BrN.mk (fun h => ?_) ?_) | (refine AltVC.mk ?_ ?_)
        exact fin_mk ⟨x, u, by rw [hg, e]; rfl, hbl, hn⟩
end Go.Proofs.Ytmhpfgklfpgniaa
