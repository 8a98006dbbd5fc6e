/-
  The law SpotNets.
-/
import Derived.Test.YtmhpfgklfpgniaaSpotN
namespace Go.Proofs.Ytmhpfgklfpgniaa
open Go.Dm
set_option linter.unusedSimpArgs false
set_option linter.unnecessarySimpa false
set_option linter.unusedVariables false
set_option linter.defProp false
/-! ### Nets without free arcs -/
theorem npass_id {n : Net} (h : ∀ a, a ∈ n.arcs → 0 ≤ a.sym) {S : Nat} : npass n S = S := by
  unfold npass
  have : ∀ (l : List Arc), (∀ a, a ∈ l → 0 ≤ a.sym) → l.foldl stl S = S := by
    intro l
    induction l with
    | nil => exact fun _ => rfl
    | cons a l ih =>
      intro hl
      have ha := hl a (by simp)
      have e : stl S a = S := by unfold stl; rw [if_neg (fun h => by omega)]
      rw [List.foldl_cons, e]
      exact ih fun b hb => hl b (by simp [hb])
  exact this _ h
theorem ncl_id {n : Net} (h : ∀ a, a ∈ n.arcs → 0 ≤ a.sym) {S : Nat} : ncl n S = S := by
  unfold ncl
  generalize n.n.toNat = k
  induction k with
  | zero => rfl
  | succ k ih => show npass n (nit n S k) = S; rw [ih, npass_id h]
theorem ngo_bit {n : Net} {S : Nat} {s : Int} {q : Nat} : (ngo n S s).testBit q = true ↔ ∃ a, a ∈ n.arcs ∧ a.sym = s ∧ S.testBit a.fr.toNat = true ∧ q = a.to.toNat := by
  unfold ngo
  have : ∀ (l : List Arc) (T : Nat), (l.foldl (mvA s S) T).testBit q = true ↔ T.testBit q = true ∨ ∃ a, a ∈ l ∧ a.sym = s ∧ S.testBit a.fr.toNat = true ∧ q = a.to.toNat := by
    intro l
    induction l with
    | nil => intro T; simp
    | cons a l ih =>
      intro T
      rw [List.foldl_cons, ih]
      have e : (mvA s S T a).testBit q = true ↔ T.testBit q = true ∨ (a.sym = s ∧ S.testBit a.fr.toNat = true ∧ q = a.to.toNat) := by
        unfold mvA
        split
        · next h => rw [or_bit, Bool.or_eq_true, decide_eq_true_eq]; simp [h.1, h.2]
        · next h => exact ⟨.inl, fun h2 => h2.elim id fun h2 => absurd ⟨h2.1, h2.2.1⟩ h⟩
      rw [e]
      constructor
      · rintro ((h | h) | ⟨b, h1, h2⟩)
        · exact .inl h
        · exact .inr ⟨a, by simp, h⟩
        · exact .inr ⟨b, by simp [h1], h2⟩
      · rintro (h | ⟨b, h1, h2⟩)
        · exact .inl (.inl h)
        · rcases List.mem_cons.mp h1 with rfl | h1
          · exact .inl (.inr h2)
          · exact .inr ⟨b, h1, h2⟩
  rw [this]; simp
section
variable {k : Int} {g : Gl}
/-- Where a word leads are the ends of its paths. -/
theorem nrun_pth (hs : ∀ q, 0 < q → q < g.syms.length → 0 ≤ g.syms.getD q 0) (hf : ∀ p q, p < g.syms.length → g.fol p q = true → 0 < q ∧ q < g.syms.length) (hn : 0 < g.syms.length) : ∀ (w : List Int) (q : Nat), (nrun (spN k g) w).testBit q = true ↔ Pth g.fol g.syms 0 w q := by
  have har : ∀ a, a ∈ (spN k g).arcs → 0 ≤ a.sym := fun a ha => by
    obtain ⟨p, q, h1, h2, h3, rfl⟩ := arO_mem.mp ha
    exact hs q (hf p q h1 h3).1 h2
  have hlt : ∀ {w : List Int} {p q : Nat}, Pth g.fol g.syms p w q → p < g.syms.length → q < g.syms.length := fun h => by
    induction h with
    | nil _ => exact id
    | cons h _ _ ih => exact fun hp => ih (hf _ _ hp h).2
  intro w
  induction w using snoc_ind with
  | h0 =>
    intro q
    have e : nrun (spN k g) [] = 1 := by
      show ncl (spN k g) (spN k g).start.toNat = 1
      rw [ncl_id har]; rfl
    rw [e, show (1 : Nat) = 2 ^ 0 from rfl, Nat.testBit_two_pow]
    constructor
    · intro h
      have : 0 = q := of_decide_eq_true h
      subst this; exact .nil 0
    · intro h
      cases h; rfl
  | h1 w s ih =>
    intro q
    have e : nrun (spN k g) (w ++ [s]) = ngo (spN k g) (nrun (spN k g) w) s := by
      unfold nrun
      rw [List.foldl_append]
      show nstp _ _ s = _
      unfold nstp
      rw [ncl_id har]
    rw [e, ngo_bit]
    constructor
    · rintro ⟨a, ha, h1, h2, h3⟩
      obtain ⟨p, q', k1, k2, k3, rfl⟩ := arO_mem.mp ha
      simp only at h1 h2 h3
      rw [Int.toNat_natCast] at h2 h3
      subst h3
      exact ((ih p).mp h2).snoc k3 h1
    · intro h
      have back : ∀ {v : List Int} {p q : Nat}, Pth g.fol g.syms p (v ++ [s]) q → ∃ m, Pth g.fol g.syms p v m ∧ g.fol m q = true ∧ g.syms.getD q 0 = s := by
        intro v
        induction v with
        | nil => intro p q h; cases h with
          | cons h hc t => cases t; exact ⟨_, .nil _, h, hc⟩
        | cons c v ihv => intro p q h; cases h with
          | cons h hc t =>
            obtain ⟨m, k1, k2⟩ := ihv t
            exact ⟨m, .cons h hc k1, k2⟩
      obtain ⟨m, k1, k2, k3⟩ := back h
      have hm := hlt k1 hn
      exact ⟨_, arO_mem.mpr ⟨m, q, hm, (hf m q hm k2).2, k2, rfl⟩, k3, by show (nrun (spN k g) w).testBit ((m : Int)).toNat = true; rw [Int.toNat_natCast]; exact (ih m).mpr k1, by show q = ((q : Int)).toNat; rw [Int.toNat_natCast]⟩
end
/-- What the net's facts are. -/
structure SpF (k : Int) (l : List Dm.Node) (g : Gl) : Prop where
  s0 : 0 < g.syms.length
  sy : ∀ q, 0 < q → q < g.syms.length → 0 ≤ g.syms.getD q 0 ∧ g.syms.getD q 0 < k
  fo : ∀ p q, p < g.syms.length → g.fol p q = true → 0 < q ∧ q < g.syms.length
  z : ∀ p, p < g.syms.length → g.fol p 0 = false
  wr : ∃ t, g.syms = -1 :: t ∧ Wr l (l.length - 1) t
  tk : ∀ w, (∃ q, Pth g.fol g.syms 0 w q ∧ g.last q = true) ↔ Tk l w
theorem spF_of {k : Int} {l : List Dm.Node} (hv : NodesOk k l) (hl : 0 < l.length) {x : Ps} {u : Au} (h : Bl l (l.length - 1) au0 x u) : SpF k l (glOf x u) := by
  have hi : l.length - 1 < l.length := by omega
  have gk := bl_gk hv h hi
  obtain ⟨t, e, hw⟩ := bl_wr h
  have e : u.syms = -1 :: t := e
  have hsy : ∀ q, 0 < q → q < u.syms.length → 0 ≤ u.syms.getD q 0 ∧ u.syms.getD q 0 < k := fun q h1 h2 => by
    obtain ⟨q, rfl⟩ : ∃ r, q = r + 1 := ⟨q - 1, by omega⟩
    rw [e, List.getD_cons_succ]
    rw [e, List.length_cons] at h2
    exact wr_ok hv hw hi _ (getD_mem' (l := t) (i := q) (by omega))
  have a1 : au0.syms.length = 1 := rfl
  have hfo : ∀ p q, p < u.syms.length → (if p = 0 then x.first else u.fol p) q = true → 0 < q ∧ q < u.syms.length := fun p q hp hf => by
    by_cases h0 : p = 0
    · rw [if_pos h0] at hf
      have := gk.fi q hf
      omega
    · rw [if_neg h0] at hf
      have := gk.hi p q (by omega) hp hf
      omega
  refine ⟨by show 0 < u.syms.length; rw [e]; simp, hsy, hfo, fun p hp => ?_, ⟨t, e, hw⟩, fun w => ?_⟩
  · rw [← Bool.not_eq_true]
    intro h
    exact absurd (hfo p 0 hp h).1 (by omega)
  · cases w with
    | nil =>
      have hla0 : x.last 0 = false := by
        rw [← Bool.not_eq_true]
        intro h; have := gk.la 0 h; omega
      constructor
      · rintro ⟨q, hp, hq⟩
        cases hp
        show lang l (l.length - 1) []
        rw [← ebB_iff, ← gk.em]
        simp only [glOf] at hq
        split at hq
        · assumption
        · rw [hla0] at hq; cases hq
      · intro ht
        have he : x.empty = true := by rw [gk.em, ebB_iff]; exact ht
        refine ⟨0, .nil 0, ?_⟩
        simp only [glOf]
        rw [if_pos he]
        unfold gAdd; simp
    | cons c w =>
      have hgl : ∀ p q, 1 ≤ p → (if p = 0 then x.first else u.fol p) q = u.fol p q := fun p q h => by rw [if_neg (by omega)]
      show _ ↔ lang l (l.length - 1) (c :: w)
      rw [gk.ac]
      constructor
      · rintro ⟨q, hp, hq⟩
        cases hp with
        | @cons _ p _ _ _ h1 hc t =>
          have h1 : x.first p = true := h1
          have hpf := gk.fi p h1
          have hcg := t.congr (g := u.fol) (t := u.syms) (R := fun p => 1 ≤ p ∧ p < u.syms.length) (fun p q hp h => by have := hfo p q hp.2 h; omega) (fun p q hp h => by rw [← hgl p q hp.1]; exact h) (fun _ _ => rfl) ⟨by omega, hpf.2⟩
          refine ⟨p, q, h1, hc, hcg.1, ?_⟩
          have hq1 := hcg.2.1
          simp only [glOf] at hq
          split at hq
          · unfold gAdd at hq
            rw [Bool.or_eq_true] at hq
            rcases hq with hq | hq
            · exact hq
            · have := of_decide_eq_true hq; omega
          · exact hq
      · rintro ⟨p, q, k1, k2, k3, k4⟩
        have hpf := gk.fi p k1
        have hcg := k3.congr (g := (glOf x u).fol) (t := u.syms) (R := fun p => 1 ≤ p ∧ p < u.syms.length) (fun p q hp h => by have := gk.hi p q (by omega) hp.2 h; omega) (fun p q hp h => by show (if p = 0 then x.first else u.fol p) q = true; rw [hgl p q hp.1]; exact h) (fun _ _ => rfl) ⟨by omega, hpf.2⟩
        refine ⟨q, .cons (by exact k1) k2 hcg.1, ?_⟩
        simp only [glOf]
        split
        · unfold gAdd; rw [k4]; rfl
        · exact k4
theorem spN_vn {k : Int} {l : List Dm.Node} {g : Gl} (hk : 1 ≤ k ∧ k ≤ 3) (h : SpF k l g) (h7 : g.syms.length ≤ 7) : VN (spN k g) := by
  obtain ⟨n, hn⟩ : ∃ n, g.syms.length = n := ⟨_, rfl⟩
  have hs := h.s0
  have hal : (arO g n n).length ≤ 42 := by
    obtain ⟨m, rfl⟩ : ∃ m, n = m + 1 := ⟨n - 1, by omega⟩
    have hz : ∀ q, q < m + 1 → (arO g (m + 1) q).length ≤ q * m := by
      intro q
      induction q with
      | zero => intro _; simp [arO]
      | succ q ih =>
        intro hq
        have h1 := ih (by omega)
        have h2 := arI_len (h.z q (by omega)) (n := m)
        rw [arO, List.length_append, Nat.succ_mul]; omega
    have h1 := hz m (by omega)
    have h2 := arI_len (h.z m (by omega)) (n := m)
    have h3 : m * m ≤ 6 * 6 := Nat.mul_le_mul (by omega) (by omega)
    rw [arO, List.length_append]; omega
  refine ⟨by show (1 : Int) ≤ (g.syms.length : Int) ∧ _; simp only [spN]; omega, hk, by show (arO g g.syms.length g.syms.length).length ≤ 60; rw [hn]; omega, fun a ha => ?_, ?_, ?_⟩
  · obtain ⟨p, q, h1, h2, h3, rfl⟩ := arO_mem.mp ha
    have hf := h.fo p q h1 h3
    have hy := h.sy q hf.1 hf.2
    simp only [spN]
    omega
  · refine ⟨by simp [spN], ?_⟩
    show (1 : Int).toNat < 2 ^ ((g.syms.length : Int)).toNat
    rw [Int.toNat_natCast]
    have : 2 ^ 1 ≤ 2 ^ g.syms.length := Nat.pow_le_pow_right (by omega) (by omega)
    have h2 : (1 : Int).toNat = 1 := rfl
    omega
  · refine ⟨by simp only [spN]; omega, ?_⟩
    show ((setOf g.last g.syms.length : Nat) : Int).toNat < 2 ^ ((g.syms.length : Int)).toNat
    rw [Int.toNat_natCast, Int.toNat_natCast]
    exact setOf_lt
theorem vn_code {n : Net} (hv : VN n) : netCode n = 0 := by
  have h1 := hv.n
  have h2 := hv.k
  have h3 := hv.al
  unfold netCode
  rw [if_neg (show ¬ netLarge n by unfold netLarge; omega), if_neg, if_neg]
  · rintro (h | h)
    · have := hv.st
      have e2 : (2 : Int) ^ n.n.toNat = ((2 ^ n.n.toNat : Nat) : Int) := by simp
      rw [e2] at h; omega
    · have := hv.fi
      have e2 : (2 : Int) ^ n.n.toNat = ((2 ^ n.n.toNat : Nat) : Int) := by simp
      rw [e2] at h; omega
  · rintro ⟨a, ha, hb⟩
    have := hv.arc a ha
    unfold badArc at hb
    omega
theorem vn_ok {n : Net} (hv : VN n) : n.ok := by
  have h1 := hv.n
  have h2 := hv.k
  have h3 := hv.al
  have h4 := hv.st
  have h5 := hv.fi
  have hp : 2 ^ n.n.toNat ≤ 2 ^ 7 := Nat.pow_le_pow_right (by omega) (by omega)
  refine ⟨⟨by omega, by omega⟩, ⟨by omega, by omega⟩, ⟨Nat.le_trans h3 (by decide), fun a ha => ?_⟩, ⟨by omega, by omega⟩, ⟨by omega, by omega⟩⟩
  have := hv.arc a ha
  exact ⟨⟨by omega, by omega⟩, ⟨by omega, by omega⟩, by omega, by omega⟩
set_option maxRecDepth 10000 in
set_option maxHeartbeats 4000000 in
theorem spotNets_spec (k : Int) (hk : ok64 k) (l : List Dm.Node) (hl : okL Dm.Node.ok l) (w : List Int) (hw : okL ok64 w) : Dm.Spec Try.prog 10 [iv .i64 k, .sl 3 (tbl nodD l), .sl 1 (i64s w)] (· = .v (.bool true)) := by
  refine spec_of_vc mixed Try.func10 c10 (by rw [show Try.f10.ntmps = _ from Try.ntmps10]; simp) ?_
  unfold m10 r10
  have hll := maxLen_le hl.1
  have hwl := maxLen_le hw.1
  have hS := refSCheck_spec k l hll
  by_cases hc : sentCode k l = 0
  rotate_left
  · repeat' first | (refine Br.dec (fun h => ?_) (fun h => ?_) <;> try (exfalso; omega)) | (refine Br.eqi (fun h => ?_) (fun h => ?_) <;> try (exfalso; omega)) | (simp (disch := (first | omega | (simp only [vlen]; first | done | omega))) only [vsp, ↓va0, ↓va1, ↓va2, ↓va3, vb0, vb1, vb2, vb3, vb4, vb5, vb6, vb7, vb8, vb9, vb10, vz0, vz1, vy0, vx0, ↓reduceIte, Nat.reduceBEq, Nat.reduceEqDiff, Nat.reduceLT, Nat.reduceLeDiff, Nat.reduceAdd, Nat.reduceMul, Nat.reduceSub, reduceCtorEq, Int.reduceToNat]) | (refine Br.mk (fun h => ?_) (fun h => ?_)) | (refine BrN.mk (fun h => ?_) ?_) | (refine AltVC.mk ?_ ?_)
    refine CallVC.eq (sNet_err k l hll hc) ?_
    repeat' first | (refine Br.dec (fun h => ?_) (fun h => ?_) <;> try (exfalso; omega)) | (refine Br.eqi (fun h => ?_) (fun h => ?_) <;> try (exfalso; omega)) | (simp (disch := (first | omega | (simp only [vlen]; first | done | omega))) only [vsp, ↓va0, ↓va1, ↓va2, ↓va3, vb0, vb1, vb2, vb3, vb4, vb5, vb6, vb7, vb8, vb9, vb10, vz0, vz1, vy0, vx0, ↓reduceIte, Nat.reduceBEq, Nat.reduceEqDiff, Nat.reduceLT, Nat.reduceLeDiff, Nat.reduceAdd, Nat.reduceMul, Nat.reduceSub, reduceCtorEq, Int.reduceToNat]) | (refine Br.mk (fun h => ?_) (fun h => ?_)) | (refine BrN.mk (fun h => ?_) ?_) | (refine AltVC.mk ?_ ?_)
    refine CallVC.eq hS ?_
    repeat' first | (refine Br.dec (fun h => ?_) (fun h => ?_) <;> try (exfalso; omega)) | (refine Br.eqi (fun h => ?_) (fun h => ?_) <;> try (exfalso; omega)) | (simp (disch := (first | omega | (simp only [vlen]; first | done | omega))) only [vsp, ↓va0, ↓va1, ↓va2, ↓va3, vb0, vb1, vb2, vb3, vb4, vb5, vb6, vb7, vb8, vb9, vb10, vz0, vz1, vy0, vx0, ↓reduceIte, Nat.reduceBEq, Nat.reduceEqDiff, Nat.reduceLT, Nat.reduceLeDiff, Nat.reduceAdd, Nat.reduceMul, Nat.reduceSub, reduceCtorEq, Int.reduceToNat]) | (refine Br.mk (fun h => ?_) (fun h => ?_)) | (refine BrN.mk (fun h => ?_) ?_) | (refine AltVC.mk ?_ ?_)
    all_goals first | (exfalso; omega; done) | exact fin_mk rfl | trace_state
  · obtain ⟨hk3, hl9, hv⟩ := sent_ok hc
    rw [hc] at hS
    have hm1 : (l.length : Int) - 1 = ((l.length - 1 : Nat) : Int) := by omega
    have hW := written_spec k l hv (by omega) (l.length - 1) (by omega) 7 (by omega)
    repeat' first | (refine Br.dec (fun h => ?_) (fun h => ?_) <;> try (exfalso; omega)) | (refine Br.eqi (fun h => ?_) (fun h => ?_) <;> try (exfalso; omega)) | (simp (disch := (first | omega | (simp only [vlen]; first | done | omega))) only [vsp, ↓va0, ↓va1, ↓va2, ↓va3, vb0, vb1, vb2, vb3, vb4, vb5, vb6, vb7, vb8, vb9, vb10, vz0, vz1, vy0, vx0, ↓reduceIte, Nat.reduceBEq, Nat.reduceEqDiff, Nat.reduceLT, Nat.reduceLeDiff, Nat.reduceAdd, Nat.reduceMul, Nat.reduceSub, reduceCtorEq, Int.reduceToNat]) | (refine Br.mk (fun h => ?_) (fun h => ?_)) | (refine BrN.mk (fun h => ?_) ?_) | (refine AltVC.mk ?_ ?_)
    refine CallVC.mk (sNet_spec k l hc) ?_
    rintro _ ⟨x, u, rfl, hbl, hn⟩
    have hf := spF_of hv (by omega) hbl
    obtain ⟨g, hg⟩ : ∃ g, glOf x u = g := ⟨_, rfl⟩
    rw [hg] at hf ⊢
    obtain ⟨t, het, hwt⟩ := hf.wr
    have hgl : g.syms.length = t.length + 1 := by rw [het]; rfl
    by_cases h7 : 7 < g.syms.length
    · have e : spF k g = .tu [.ag [iv .i64 0, iv .i64 0, .nl, iv .u32 0, iv .u32 0], iv .i64 1] := if_pos h7
      rw [e]
      repeat' first | (refine Br.dec (fun h => ?_) (fun h => ?_) <;> try (exfalso; omega)) | (refine Br.eqi (fun h => ?_) (fun h => ?_) <;> try (exfalso; omega)) | (simp (disch := (first | omega | (simp only [vlen]; first | done | omega))) only [vsp, hm1, ↓va0, ↓va1, ↓va2, ↓va3, vb0, vb1, vb2, vb3, vb4, vb5, vb6, vb7, vb8, vb9, vb10, vz0, vz1, vy0, vx0, ↓reduceIte, Nat.reduceBEq, Nat.reduceEqDiff, Nat.reduceLT, Nat.reduceLeDiff, Nat.reduceAdd, Nat.reduceMul, Nat.reduceSub, reduceCtorEq, Int.reduceToNat]) | (refine Br.mk (fun h => ?_) (fun h => ?_)) | (refine BrN.mk (fun h => ?_) ?_) | (refine AltVC.mk ?_ ?_)
      refine CallVC.eq hS ?_
      repeat' first | (refine Br.dec (fun h => ?_) (fun h => ?_) <;> try (exfalso; omega)) | (refine Br.eqi (fun h => ?_) (fun h => ?_) <;> try (exfalso; omega)) | (simp (disch := (first | omega | (simp only [vlen]; first | done | omega))) only [vsp, hm1, ↓va0, ↓va1, ↓va2, ↓va3, vb0, vb1, vb2, vb3, vb4, vb5, vb6, vb7, vb8, vb9, vb10, vz0, vz1, vy0, vx0, ↓reduceIte, Nat.reduceBEq, Nat.reduceEqDiff, Nat.reduceLT, Nat.reduceLeDiff, Nat.reduceAdd, Nat.reduceMul, Nat.reduceSub, reduceCtorEq, Int.reduceToNat]) | (refine Br.mk (fun h => ?_) (fun h => ?_)) | (refine BrN.mk (fun h => ?_) ?_) | (refine AltVC.mk ?_ ?_)
      refine CallVC.mk hW ?_
      rintro _ ⟨r, t', rfl, w1, c1, n1⟩
      have e1 := wr_det hwt w1
      subst e1
      have hr7 : 7 ≤ r.length := by
        rcases c1 with c1 | c1
        · rw [c1]; omega
        · omega
      repeat' first | (refine Br.dec (fun h => ?_) (fun h => ?_) <;> try (exfalso; omega)) | (refine Br.eqi (fun h => ?_) (fun h => ?_) <;> try (exfalso; omega)) | (simp (disch := (first | omega | (simp only [vlen]; first | done | omega))) only [vsp, hm1, ↓va0, ↓va1, ↓va2, ↓va3, vb0, vb1, vb2, vb3, vb4, vb5, vb6, vb7, vb8, vb9, vb10, vz0, vz1, vy0, vx0, ↓reduceIte, Nat.reduceBEq, Nat.reduceEqDiff, Nat.reduceLT, Nat.reduceLeDiff, Nat.reduceAdd, Nat.reduceMul, Nat.reduceSub, reduceCtorEq, Int.reduceToNat]) | (refine Br.mk (fun h => ?_) (fun h => ?_)) | (refine BrN.mk (fun h => ?_) ?_) | (refine AltVC.mk ?_ ?_)
      all_goals first | (exfalso; omega; done) | exact fin_mk rfl | trace_state
    · have e : spF k g = .tu [.ag (netD (spN k g)), iv .i64 0] := if_neg h7
      have vn := spN_vn hk3 hf (by omega)
      have hNc := refNetCheck_spec (spN k g) (vn_ok vn)
      rw [vn_code vn] at hNc
      rw [e]
      repeat' first | (refine Br.dec (fun h => ?_) (fun h => ?_) <;> try (exfalso; omega)) | (refine Br.eqi (fun h => ?_) (fun h => ?_) <;> try (exfalso; omega)) | (simp (disch := (first | omega | (simp only [vlen]; first | done | omega))) only [vsp, hm1, ↓va0, ↓va1, ↓va2, ↓va3, vb0, vb1, vb2, vb3, vb4, vb5, vb6, vb7, vb8, vb9, vb10, vz0, vz1, vy0, vx0, ↓reduceIte, Nat.reduceBEq, Nat.reduceEqDiff, Nat.reduceLT, Nat.reduceLeDiff, Nat.reduceAdd, Nat.reduceMul, Nat.reduceSub, reduceCtorEq, Int.reduceToNat]) | (refine Br.mk (fun h => ?_) (fun h => ?_)) | (refine BrN.mk (fun h => ?_) ?_) | (refine AltVC.mk ?_ ?_)
      refine CallVC.eq hS ?_
      repeat' first | (refine Br.dec (fun h => ?_) (fun h => ?_) <;> try (exfalso; omega)) | (refine Br.eqi (fun h => ?_) (fun h => ?_) <;> try (exfalso; omega)) | (simp (disch := (first | omega | (simp only [vlen]; first | done | omega))) only [vsp, hm1, ↓va0, ↓va1, ↓va2, ↓va3, vb0, vb1, vb2, vb3, vb4, vb5, vb6, vb7, vb8, vb9, vb10, vz0, vz1, vy0, vx0, ↓reduceIte, Nat.reduceBEq, Nat.reduceEqDiff, Nat.reduceLT, Nat.reduceLeDiff, Nat.reduceAdd, Nat.reduceMul, Nat.reduceSub, reduceCtorEq, Int.reduceToNat]) | (refine Br.mk (fun h => ?_) (fun h => ?_)) | (refine BrN.mk (fun h => ?_) ?_) | (refine AltVC.mk ?_ ?_)
      refine CallVC.mk hW ?_
      rintro _ ⟨r, t', rfl, w1, c1, n1⟩
      have e1 := wr_det hwt w1
      subst e1
      have hr : r = t := by
        rcases c1 with c1 | c1
        · exact c1
        · omega
      subst hr
      have q1 : (spN k g).n = (r.length : Int) + 1 := by show (g.syms.length : Int) = _; omega
      have q2 : (spN k g).k = k := rfl
      have q3 : (spN k g).start = 1 := rfl
      have har : ∀ j, j < (spN k g).arcs.length → ∃ q : Nat, q < r.length ∧ ((spN k g).arcs.getD j default).to = (q : Int) + 1 ∧ ((spN k g).arcs.getD j default).sym = r.getD q 0 := fun j hj => by
        obtain ⟨p, q, h1, h2, h3, e4⟩ := arO_mem.mp (getD_mem' (l := (spN k g).arcs) hj)
        have h0 := hf.fo p q h1 h3
        obtain ⟨q, rfl⟩ : ∃ q', q = q' + 1 := ⟨q - 1, by omega⟩
        rw [e4]
        refine ⟨q, by omega, by simp, ?_⟩
        simp only
        rw [het, List.getD_cons_succ]
      have hal := vn.al
      repeat' first | (refine Br.dec (fun h => ?_) (fun h => ?_) <;> try (exfalso; omega)) | (refine Br.eqi (fun h => ?_) (fun h => ?_) <;> try (exfalso; omega)) | (simp (disch := (first | omega | (simp only [vlen]; first | done | omega))) only [vsp, hm1, ↓va0, ↓va1, ↓va2, ↓va3, vb0, vb1, vb2, vb3, vb4, vb5, vb6, vb7, vb8, vb9, vb10, vz0, vz1, vy0, vx0, ↓reduceIte, Nat.reduceBEq, Nat.reduceEqDiff, Nat.reduceLT, Nat.reduceLeDiff, Nat.reduceAdd, Nat.reduceMul, Nat.reduceSub, reduceCtorEq, Int.reduceToNat]) | (refine Br.mk (fun h => ?_) (fun h => ?_)) | (refine BrN.mk (fun h => ?_) ?_) | (refine AltVC.mk ?_ ?_)
      refine CallVC.mk hW ?_
      rintro _ ⟨r', t', rfl, w2, c2, n2⟩
      have e2 := wr_det w1 w2
      subst e2
      have hr2 : r' = r := by
        rcases c2 with c2 | c2
        · exact c2
        · omega
      subst hr2
      have hNl := fun hw' => netLeads_spec (spN k g) vn w hw'
      rw [netD_eq, q1, q2, q3] at hNc
      simp only [netD_eq, q1, q2, q3] at hNl
      repeat' first | (refine Br.dec (fun h => ?_) (fun h => ?_) <;> try (exfalso; omega)) | (refine Br.eqi (fun h => ?_) (fun h => ?_) <;> try (exfalso; omega)) | (simp (disch := (first | omega | (simp only [vlen]; first | done | omega))) only [vsp, hm1, q1, q2, q3, ↓va0, ↓va1, ↓va2, ↓va3, vb0, vb1, vb2, vb3, vb4, vb5, vb6, vb7, vb8, vb9, vb10, vz0, vz1, vy0, vx0, ↓reduceIte, Nat.reduceBEq, Nat.reduceEqDiff, Nat.reduceLT, Nat.reduceLeDiff, Nat.reduceAdd, Nat.reduceMul, Nat.reduceSub, reduceCtorEq, Int.reduceToNat]) | (refine Br.mk (fun h => ?_) (fun h => ?_)) | (refine BrN.mk (fun h => ?_) ?_) | (refine AltVC.mk ?_ ?_)
      refine CallVC.eq hNc ?_
      repeat' first | (refine Br.dec (fun h => ?_) (fun h => ?_) <;> try (exfalso; omega)) | (refine Br.eqi (fun h => ?_) (fun h => ?_) <;> try (exfalso; omega)) | (simp (disch := (first | omega | (simp only [vlen]; first | done | omega))) only [vsp, hm1, q1, q2, q3, ↓va0, ↓va1, ↓va2, ↓va3, vb0, vb1, vb2, vb3, vb4, vb5, vb6, vb7, vb8, vb9, vb10, vz0, vz1, vy0, vx0, ↓reduceIte, Nat.reduceBEq, Nat.reduceEqDiff, Nat.reduceLT, Nat.reduceLeDiff, Nat.reduceAdd, Nat.reduceMul, Nat.reduceSub, reduceCtorEq, Int.reduceToNat]) | (refine Br.mk (fun h => ?_) (fun h => ?_)) | (refine BrN.mk (fun h => ?_) ?_) | (refine AltVC.mk ?_ ?_)
      refine LoopVC.mk (X := Nat) (fun j => [(98, iv .i64 j)]) (fun j => [(0, ⟨5, [[iv .i64 ((r'.length : Int) + 1), iv .i64 k, .sl 3 (tbl arcD (spN k g).arcs), iv .u32 1, iv .u32 (spN k g).final]], true, false, .fix⟩)]) (fun j => (spN k g).arcs.length - j) (fun j => j ≤ (spN k g).arcs.length) 0 (Nat.zero_le _) ?_ ?_
      · (simp (disch := (first | omega | (simp only [vlen]; first | done | omega))) only [Fits_u, Fits_m, Fits_nil, List.length_append, vsp, ↓va0, ↓va1, ↓va2, ↓va3, vb0, vb1, vb2, vb3, vb4, vb5, vb6, vb7, vb8, vb9, vb10, vz0, vz1, vy0, vx0, ↓reduceIte, Nat.reduceBEq, Nat.reduceEqDiff, Nat.reduceLT, Nat.reduceLeDiff, Nat.reduceAdd, Nat.reduceMul, Nat.reduceSub, reduceCtorEq, Int.reduceToNat] <;> (repeat' first | rfl | apply And.intro))
        all_goals first | rfl | skip
      · intro j hj
        by_cases hjl : j < (spN k g).arcs.length
        · obtain ⟨q, hq, ha1, ha2⟩ := har j hjl
          repeat' first | (refine Br.dec (fun h => ?_) (fun h => ?_) <;> try (exfalso; omega)) | (refine Br.eqi (fun h => ?_) (fun h => ?_) <;> try (exfalso; omega)) | (simp (disch := (first | omega | (simp only [vlen]; first | done | omega))) only [vsp, ha1, ha2, ↓va0, ↓va1, ↓va2, ↓va3, vb0, vb1, vb2, vb3, vb4, vb5, vb6, vb7, vb8, vb9, vb10, vz0, vz1, vy0, vx0, ↓reduceIte, Nat.reduceBEq, Nat.reduceEqDiff, Nat.reduceLT, Nat.reduceLeDiff, Nat.reduceAdd, Nat.reduceMul, Nat.reduceSub, reduceCtorEq, Int.reduceToNat]) | (refine Br.mk (fun h => ?_) (fun h => ?_)) | (refine BrN.mk (fun h => ?_) ?_) | (refine AltVC.mk ?_ ?_)
          refine loopK.mk (j + 1) (by simp (disch := (first | omega | (simp only [vlen]; first | done | omega))) only [↓va0, ↓va1, ↓va2, ↓va3, vb0, vb1, vb2, vb3, vb4, vb5, vb6, vb7, vb8, vb9, vb10, vz0, vz1, vy0, vx0, ↓reduceIte, Nat.reduceBEq, Nat.reduceEqDiff, Nat.reduceLT, Nat.reduceLeDiff, Nat.reduceAdd, Nat.reduceMul, Nat.reduceSub, reduceCtorEq, Int.reduceToNat]) (by omega) (by omega) ?_
          (simp (disch := (first | omega | (simp only [vlen]; first | done | omega))) only [Fits_u, Fits_m, Fits_nil, List.length_append, vsp, ↓va0, ↓va1, ↓va2, ↓va3, vb0, vb1, vb2, vb3, vb4, vb5, vb6, vb7, vb8, vb9, vb10, vz0, vz1, vy0, vx0, ↓reduceIte, Nat.reduceBEq, Nat.reduceEqDiff, Nat.reduceLT, Nat.reduceLeDiff, Nat.reduceAdd, Nat.reduceMul, Nat.reduceSub, reduceCtorEq, Int.reduceToNat] <;> (repeat' first | rfl | apply And.intro))
          all_goals first | rfl | skip
        · have hjn : j = (spN k g).arcs.length := by omega
          have hWo := refWord_spec k (by omega) w hwl
          by_cases hw0 : wcode k w = 0
          · rw [hw0] at hWo
            have hw12 : w.length ≤ 12 := by
              unfold wcode at hw0
              split at hw0
              · cases hw0
              · omega
            have hNl := hNl (by omega)
            have hMe := means_spec k l hv (by omega) w (by omega)
            have hac := nacc_eq vn (nrun_lt vn (w := w))
            have hke : decide (nrun (spN k g) w &&& (spN k g).final.toNat ≠ 0) = mb l w (l.length - 1) 0 w.length := by
              unfold mb
              rw [decide_eq_decide, ← tk_mt, ← hf.tk w]
              have hfin : (spN k g).final.toNat = setOf g.last g.syms.length := Int.toNat_natCast _
              have hpth := nrun_pth (k := k) (g := g) (fun q h1 h2 => (hf.sy q h1 h2).1) hf.fo hf.s0 w
              constructor
              · intro h
                apply Classical.byContradiction
                intro hn
                apply h
                apply Nat.eq_of_testBit_eq
                intro q
                rw [Nat.zero_testBit, Nat.testBit_and, hfin, setOf_bit, ← Bool.not_eq_true]
                intro h2
                simp only [Bool.and_eq_true] at h2
                exact hn ⟨q, (hpth q).mp h2.1, h2.2.2⟩
              · rintro ⟨q, h1, h2⟩ h
                have hlt : q < g.syms.length := by
                  have := nrun_lt vn (w := w)
                  apply Classical.byContradiction
                  intro hge
                  have h3 := (hpth q).mpr h1
                  rw [Nat.testBit_lt_two_pow (Nat.lt_of_lt_of_le this (Nat.pow_le_pow_right (by omega) (by show ((g.syms.length : Int)).toNat ≤ q; rw [Int.toNat_natCast]; omega)))] at h3
                  cases h3
                have := congrArg (fun n => n.testBit q) h
                simp only [Nat.testBit_and, Nat.zero_testBit] at this
                rw [(hpth q).mpr h1, hfin, setOf_bit, h2, decide_eq_true hlt] at this
                cases this
            repeat' first | (refine Br.dec (fun h => ?_) (fun h => ?_) <;> try (exfalso; omega)) | (refine Br.eqi (fun h => ?_) (fun h => ?_) <;> try (exfalso; omega)) | (simp (disch := (first | omega | (simp only [vlen]; first | done | omega))) only [vsp, ↓va0, ↓va1, ↓va2, ↓va3, vb0, vb1, vb2, vb3, vb4, vb5, vb6, vb7, vb8, vb9, vb10, vz0, vz1, vy0, vx0, ↓reduceIte, Nat.reduceBEq, Nat.reduceEqDiff, Nat.reduceLT, Nat.reduceLeDiff, Nat.reduceAdd, Nat.reduceMul, Nat.reduceSub, reduceCtorEq, Int.reduceToNat]) | (refine Br.mk (fun h => ?_) (fun h => ?_)) | (refine BrN.mk (fun h => ?_) ?_) | (refine AltVC.mk ?_ ?_)
            refine CallP.eq hWo (fun h => by cases h) ?_
            repeat' first | (refine Br.dec (fun h => ?_) (fun h => ?_) <;> try (exfalso; omega)) | (refine Br.eqi (fun h => ?_) (fun h => ?_) <;> try (exfalso; omega)) | (simp (disch := (first | omega | (simp only [vlen]; first | done | omega))) only [vsp, q1, q2, q3, ↓va0, ↓va1, ↓va2, ↓va3, vb0, vb1, vb2, vb3, vb4, vb5, vb6, vb7, vb8, vb9, vb10, vz0, vz1, vy0, vx0, ↓reduceIte, Nat.reduceBEq, Nat.reduceEqDiff, Nat.reduceLT, Nat.reduceLeDiff, Nat.reduceAdd, Nat.reduceMul, Nat.reduceSub, reduceCtorEq, Int.reduceToNat]) | (refine Br.mk (fun h => ?_) (fun h => ?_)) | (refine BrN.mk (fun h => ?_) ?_) | (refine AltVC.mk ?_ ?_)
            refine CallP.eq hNl (fun h => by cases h) ?_
            repeat' first | (refine Br.dec (fun h => ?_) (fun h => ?_) <;> try (exfalso; omega)) | (refine Br.eqi (fun h => ?_) (fun h => ?_) <;> try (exfalso; omega)) | (simp (disch := (first | omega | (simp only [vlen]; first | done | omega))) only [vsp, ↓va0, ↓va1, ↓va2, ↓va3, vb0, vb1, vb2, vb3, vb4, vb5, vb6, vb7, vb8, vb9, vb10, vz0, vz1, vy0, vx0, ↓reduceIte, Nat.reduceBEq, Nat.reduceEqDiff, Nat.reduceLT, Nat.reduceLeDiff, Nat.reduceAdd, Nat.reduceMul, Nat.reduceSub, reduceCtorEq, Int.reduceToNat]) | (refine Br.mk (fun h => ?_) (fun h => ?_)) | (refine BrN.mk (fun h => ?_) ?_) | (refine AltVC.mk ?_ ?_)
            refine CallP.eq hMe (fun h => by cases h) ?_
            repeat' first | (refine Br.dec (fun h => ?_) (fun h => ?_) <;> try (exfalso; omega)) | (refine Br.eqi (fun h => ?_) (fun h => ?_) <;> try (exfalso; omega)) | (simp (disch := (first | omega | (simp only [vlen]; first | done | omega))) only [vsp, hac, hke, ↓va0, ↓va1, ↓va2, ↓va3, vb0, vb1, vb2, vb3, vb4, vb5, vb6, vb7, vb8, vb9, vb10, vz0, vz1, vy0, vx0, ↓reduceIte, Nat.reduceBEq, Nat.reduceEqDiff, Nat.reduceLT, Nat.reduceLeDiff, Nat.reduceAdd, Nat.reduceMul, Nat.reduceSub, reduceCtorEq, Int.reduceToNat]) | (refine Br.mk (fun h => ?_) (fun h => ?_)) | (refine BrN.mk (fun h => ?_) ?_) | (refine AltVC.mk ?_ ?_)
            exact fin_mk rfl
          · repeat' first | (refine Br.dec (fun h => ?_) (fun h => ?_) <;> try (exfalso; omega)) | (refine Br.eqi (fun h => ?_) (fun h => ?_) <;> try (exfalso; omega)) | (simp (disch := (first | omega | (simp only [vlen]; first | done | omega))) only [vsp, ↓va0, ↓va1, ↓va2, ↓va3, vb0, vb1, vb2, vb3, vb4, vb5, vb6, vb7, vb8, vb9, vb10, vz0, vz1, vy0, vx0, ↓reduceIte, Nat.reduceBEq, Nat.reduceEqDiff, Nat.reduceLT, Nat.reduceLeDiff, Nat.reduceAdd, Nat.reduceMul, Nat.reduceSub, reduceCtorEq, Int.reduceToNat]) | (refine Br.mk (fun h => ?_) (fun h => ?_)) | (refine BrN.mk (fun h => ?_) ?_) | (refine AltVC.mk ?_ ?_)
            refine CallP.eq hWo (fun h => by cases h) ?_
            repeat' first | (refine Br.dec (fun h => ?_) (fun h => ?_) <;> try (exfalso; omega)) | (refine Br.eqi (fun h => ?_) (fun h => ?_) <;> try (exfalso; omega)) | (simp (disch := (first | omega | (simp only [vlen]; first | done | omega))) only [vsp, ↓va0, ↓va1, ↓va2, ↓va3, vb0, vb1, vb2, vb3, vb4, vb5, vb6, vb7, vb8, vb9, vb10, vz0, vz1, vy0, vx0, ↓reduceIte, Nat.reduceBEq, Nat.reduceEqDiff, Nat.reduceLT, Nat.reduceLeDiff, Nat.reduceAdd, Nat.reduceMul, Nat.reduceSub, reduceCtorEq, Int.reduceToNat]) | (refine Br.mk (fun h => ?_) (fun h => ?_)) | (refine BrN.mk (fun h => ?_) ?_) | (refine AltVC.mk ?_ ?_)
            exact fin_mk rfl
end Go.Proofs.Ytmhpfgklfpgniaa
