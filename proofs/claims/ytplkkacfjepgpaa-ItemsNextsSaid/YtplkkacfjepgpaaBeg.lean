/-
  coppicerref.Begins.
-/
import Derived.Test.YtplkkacfjepgpaaMg16
import Derived.Test.YtplkkacfjepgpaaTabG
import Derived.Test.YtplkkacfjepgpaaMakesR
namespace Go.Proofs.Ytplkkacfjepgpaa
open Go.Dm
set_option linter.unusedSimpArgs false
set_option linter.unnecessarySimpa false
set_option linter.unusedVariables false
set_option linter.defProp false
def rwR (R : Nat → Nat → Bool) (n a : Nat) : D := .own false 1 (bls (tbb n fun i => R a i))
theorem rwR_eq {R : Nat → Nat → Bool} {n a : Nat} : rwR R n a = .own false 1 (bls (tbb n fun i => R a i)) := (rfl)
section
variable {R : Nat → Nat → Bool} {n a : Nat} {s : S} {τ m : Nat} {ob : Ob}
theorem rwR_kill : (rwR R n a).kill τ = rwR R n a := by simp [rwR, kill_oo]
theorem rwR_trim : (rwR R n a).trim m = rwR R n a := by simp [rwR, trim_oo]
theorem rwR_kOwn {τ' i' o' : Nat} {k : S → D → Prop} : kOwn s τ' i' o' ob k (rwR R n a) = Chk (τ' ≠ s.N) (kRefN k 1 (bls (tbb n fun i => R a i)).length) (s.unfold τ' i' o' ob false 1 (bls (tbb n fun i => R a i))) := (rfl)
end
def vbg := And.intro vct <| And.intro @rwR_kill <| And.intro @rwR_trim <| And.intro @rwR_kOwn @Int.add_sub_cancel
def updR (R : Nat → Nat → Bool) (a i : Nat) : Nat → Nat → Bool := fun b k => if b = a ∧ k = i then true else R b k
theorem updR_at {R : Nat → Nat → Bool} {a i : Nat} : updR R a i a i = true := if_pos ⟨rfl, rfl⟩
theorem updR_ne {R : Nat → Nat → Bool} {a i b k : Nat} (h : ¬ (b = a ∧ k = i)) : updR R a i b k = R b k := if_neg h
theorem updR_same {R : Nat → Nat → Bool} {a i : Nat} (h : R a i = true) : updR R a i = R := by
  funext b k
  by_cases e : b = a ∧ k = i
  · obtain ⟨rfl, rfl⟩ := e; rw [updR_at, h]
  · rw [updR_ne e]
def cwR (N n : Nat) (R : Nat → Nat → Bool) : Nat := nsum (fun a => nsum (fun i => if R a i = true then 1 else 0) n) N
theorem cwR_le {N n : Nat} {R : Nat → Nat → Bool} (hN : N ≤ 40) (hn : n ≤ 14) : cwR N n R ≤ 560 := by
  have h1 : ∀ a, nsum (fun i => if R a i = true then 1 else 0) n ≤ 14 := fun a => Nat.le_trans (nsum_const (c := 1) fun j _ => by split <;> omega) (by omega)
  exact Nat.le_trans (nsum_const (c := 14) fun a _ => h1 a) (by omega)
theorem cwR_upd {N n a i : Nat} {R : Nat → Nat → Bool} (ha : a < N) (hi : i < n) (h : R a i = false) : cwR N n R < cwR N n (updR R a i) := by
  have hle : ∀ b k, (if R b k = true then 1 else 0) ≤ (if updR R a i b k = true then 1 else 0) := fun b k => by
    by_cases e : b = a ∧ k = i
    · obtain ⟨rfl, rfl⟩ := e; rw [updR_at, h]; simp
    · rw [updR_ne e]; exact Nat.le_refl _
  refine nsum_lt_of (m := a) (fun b _ => nsum_le_of fun k _ => hle b k) ha ?_
  exact nsum_lt_of (m := i) (fun k _ => hle a k) hi (by rw [updR_at, h]; simp)
section
variable (h : Grammar) (w : List Int) (T : Nat → Nat → Nat → Bool)
def hitE (R : Nat → Nat → Bool) (q k i j : Nat) : Bool := ovB h w T ((rgt h q).take k) i j && (decide (j = w.length) || (if (rgt h q).getD k 0 < h.k then decide (j + 1 = w.length ∧ w.getD j 0 = (rgt h q).getD k 0) else R ((rgt h q).getD k 0 - h.k).toNat j))
def CLR (R : Nat → Nat → Bool) (q i : Nat) : Prop := i < w.length → ((∃ k j, k < (rgt h q).length ∧ i ≤ j ∧ j ≤ w.length ∧ hitE h w T R q k i j = true) ∨ ovB h w T (rgt h q) i w.length = true) → R (lft h q).toNat i = true
structure RI (mk : Int → Prop) (N : Nat) (R0 R : Nat → Nat → Bool) (m : Bool) : Prop where
  snd : ∀ a i, R a i = true → Rea h w mk a i
  ini : ∀ a, a < N → mk a → R a w.length = true
  wt : cwR N (w.length + 1) R0 + (if m then 1 else 0) ≤ cwR N (w.length + 1) R
end
theorem RI.upd {h : Grammar} {w : List Int} {mk : Int → Prop} {N : Nat} {R0 R : Nat → Nat → Bool} {m : Bool} (g : RI h w mk N R0 R m) {a i : Nat} (ha : a < N) (hi : i ≤ w.length) (hf : R a i = true → m = true) (hr : Rea h w mk a i) : RI h w mk N R0 (updR R a i) true := by
  refine ⟨fun b k hb => ?_, fun b hb hm => ?_, ?_⟩
  · by_cases e : b = a ∧ k = i
    · obtain ⟨rfl, rfl⟩ := e; exact hr
    · rw [updR_ne e] at hb; exact g.snd b k hb
  · by_cases e : b = a ∧ w.length = i
    · rw [updR, if_pos e]
    · rw [updR_ne e]; exact g.ini b hb hm
  · have hw := g.wt
    cases e : R a i with
    | true =>
      rw [updR_same e]
      rw [hf e] at hw
      exact hw
    | false =>
      have := cwR_upd (N := N) (n := w.length + 1) ha (by omega) e
      rw [if_pos rfl]
      omega
theorem hitE_rea {h : Grammar} {w : List Int} {T : Nat → Nat → Nat → Bool} (hT : ∀ l i j, i ≤ w.length → (ovB h w T l i j = true ↔ Der h w l i j)) {mk : Int → Prop} {R : Nat → Nat → Bool} (hs : ∀ a i, R a i = true → Rea h w mk a i) {q k i j : Nat} (hq : q < h.rules.length) (hk : k < (rgt h q).length) (hi : i < w.length) (hj : j ≤ w.length) (he : hitE h w T R q k i j = true) : Rea h w mk (lft h q) i := by
  unfold hitE at he
  rw [Bool.and_eq_true] at he
  have hd := (hT _ _ _ (by omega)).1 he.1
  by_cases e : j = w.length
  · subst e; exact .cut hq hi hk hd
  · have he2 := he.2
    rw [decide_eq_false e, Bool.false_or] at he2
    split at he2
    · next hx =>
      have he2 := of_decide_eq_true he2
      exact .sym hq hi hk hd he2.1 hx he2.2
    · next hx =>
      have := hs _ _ he2
      rw [show (((rgt h q).getD k 0 - h.k).toNat : Int) = (rgt h q).getD k 0 - h.k by omega] at this
      exact .name hq hi hk hd (by omega) (by omega) this
theorem rea_all {h : Grammar} {w : List Int} {T : Nat → Nat → Nat → Bool} (hT : ∀ l i j, i ≤ w.length → (ovB h w T l i j = true ↔ Der h w l i j)) {mk : Int → Prop} (hmk : ∀ a, mk a → 0 ≤ a) {N : Nat} (hmN : ∀ a, mk a → a < N) {R : Nat → Nat → Bool} (hini : ∀ a : Nat, a < N → mk a → R a w.length = true) (hc : ∀ q i, q < h.rules.length → CLR h w T R q i) {a : Int} {i : Nat} (hr : Rea h w mk a i) : R a.toNat i = true := by
  induction hr with
  | @fin a hm =>
    have h1 := hmk a hm
    have h2 := hmN a hm
    refine hini a.toNat (by omega) ?_
    rwa [show ((a.toNat : Nat) : Int) = a by omega]
  | @whole q i hq hi hd => exact hc q i hq hi (.inr ((hT _ _ _ (by omega)).2 hd))
  | @cut q k i hq hi hk hd =>
    refine hc q i hq hi (.inl ⟨k, w.length, hk, by omega, Nat.le_refl _, ?_⟩)
    unfold hitE
    rw [(hT _ _ _ (by omega)).2 hd, decide_eq_true rfl]; rfl
  | @name q k i j hq hi hk hd hj hx hr ih =>
    refine hc q i hq hi (.inl ⟨k, j, hk, hd.le.1, by omega, ?_⟩)
    unfold hitE
    rw [(hT _ _ _ (by omega)).2 hd, if_neg (by omega), ih]; simp
  | @sym q k i j hq hi hk hd hj hx hw =>
    refine hc q i hq hi (.inl ⟨k, j, hk, hd.le.1, by omega, ?_⟩)
    unfold hitE
    rw [(hT _ _ _ (by omega)).2 hd, if_pos hx, decide_eq_true (show j + 1 = w.length ∧ _ from ⟨hj, hw⟩)]; simp
def mkP (g : Grammar) (a : Int) : Prop := 0 ≤ a ∧ a < g.n ∧ (nameSet g false).testBit a.toNat = true
def hO (g : Grammar) (L : List Rule) : List (Nat × Ob) := kpO g L
def hO2 (g : Grammar) (L : List Rule) (r : Rule) : List (Nat × Ob) := kpO g L ++ [(2, ⟨2, [[iv .i64 r.left, .sl 1 (i64s r.right)]], true, false, .fix⟩)]
def rgO (N n : Nat) (R : Nat → Nat → Bool) : List (Nat × Ob) := [(2, ⟨1, tabD N fun a => rwR R n a, true, true, .arr⟩)]
def rgP (N n : Nat) (R : Nat → Nat → Bool) (a : Nat) (ri : List Int) : List (Nat × Ob) := rgO N n R ++ [(3, ⟨2, [[iv .i64 a, .sl 1 (i64s ri)]], true, false, .fix⟩)]
theorem rwU {R : Nat → Nat → Bool} {n a i : Nat} : rwR (updR R a i) n a = .own false 1 (bls (tbb n fun j => if j = i then true else R a j)) := by
  rw [rwR_eq]
  congr 2
  refine tbb_ext fun k _ => ?_
  by_cases e : k = i
  · subst e; rw [updR_at, if_pos rfl]
  · rw [updR_ne (fun h => e h.2), if_neg e]
theorem rwO {R : Nat → Nat → Bool} {n a b i : Nat} (h : b ≠ a) : rwR (updR R a i) n b = rwR R n b := by
  rw [rwR_eq, rwR_eq]
  congr 2
  exact tbb_ext fun k _ => updR_ne fun h2 => h h2.1
set_option maxRecDepth 10000 in
set_option maxHeartbeats 4000000 in
theorem begins_spec (g : Grammar) (hv : Valid g) (w : List Int) (hw : 1 ≤ w.length ∧ w.length ≤ 13) : Dm.Spec Try.prog 11 [.ag (graD g), .sl 1 (i64s w)] (fun d => ∃ b, d = .v (.bool b) ∧ (b = true ↔ Rea (kpG g) w (mkP g) g.start 0)) := by
  refine spec_of_vc mixed Try.func11 c11 (by rw [show Try.f11.ntmps = _ from Try.ntmps11]; simp) ?_
  unfold m11 r11
  have hkv := kp_valid hv
  have hrl := hv.len
  have hkrl := hkv.len
  have hns := ns_lt hv (b := false)
  have hnm := names_spec g hv false
  have hk := hv.k
  have hn0 := hv.n
  repeat' first | ((first | refine Br.dec ?_ ?_ | refine Br.eqi ?_ ?_) <;> intro h <;> try (exfalso; omega)) | (simp (disch := first | omega | (simp only [vlen]; first | done | omega)) only [graD_eq, vbg, ↓vAq, vBq, ↓reduceIte, Nat.reduceBEq, Nat.reduceEqDiff, Nat.reduceLT, Nat.reduceLeDiff, Nat.reduceAdd, Nat.reduceMul, Nat.reduceSub, reduceCtorEq, Int.reduceToNat]) | (refine Br.mk ?_ ?_ <;> intro h) | (refine BrN.mk (fun h => ?_) ?_) | (refine AltVC.mk ?_ ?_)
  refine CallVC.eq hnm ?_
  repeat' first | ((first | refine Br.dec ?_ ?_ | refine Br.eqi ?_ ?_) <;> intro h <;> try (exfalso; omega)) | (simp (disch := first | omega | (simp only [vlen]; first | done | omega)) only [graD_eq, vbg, ↓vAq, vBq, ↓reduceIte, Nat.reduceBEq, Nat.reduceEqDiff, Nat.reduceLT, Nat.reduceLeDiff, Nat.reduceAdd, Nat.reduceMul, Nat.reduceSub, reduceCtorEq, Int.reduceToNat]) | (refine Br.mk ?_ ?_ <;> intro h) | (refine BrN.mk (fun h => ?_) ?_) | (refine AltVC.mk ?_ ?_)
  refine LoopVC.nlo 1 0 3 2 ?_
  repeat' first | ((first | refine Br.dec ?_ ?_ | refine Br.eqi ?_ ?_) <;> intro h <;> try (exfalso; omega)) | (simp (disch := first | omega | (simp only [vlen]; first | done | omega)) only [graD_eq, vbg, ↓vAq, vBq, ↓reduceIte, Nat.reduceBEq, Nat.reduceEqDiff, Nat.reduceLT, Nat.reduceLeDiff, Nat.reduceAdd, Nat.reduceMul, Nat.reduceSub, reduceCtorEq, Int.reduceToNat]) | (refine Br.mk ?_ ?_ <;> intro h) | (refine BrN.mk (fun h => ?_) ?_) | (refine AltVC.mk ?_ ?_)
  refine LoopVC.mk (X := Nat) (fun q => [(34, iv .i64 q)]) (fun q => hO g (kpT g q)) (fun q => g.rules.length - q) (fun q => q ≤ g.rules.length) 0 (Nat.zero_le _) ?_ ?_
  · rw [kpT_0]
    unfold hO kpO
    (simp (disch := first | omega | (simp only [vlen]; first | done | omega)) only [Fits_u, Fits_m, Fits_nil, List.length_append, vbg, ↓vAq, vBq, ↓reduceIte, Nat.reduceBEq, Nat.reduceEqDiff, Nat.reduceLT, Nat.reduceLeDiff, Nat.reduceAdd, Nat.reduceMul, Nat.reduceSub, reduceCtorEq, Int.reduceToNat] <;> (repeat' first | rfl | apply And.intro))
  · intro q hq
    unfold hO kpO
    have hkl := @kpT_le g q
    by_cases hlt : q < g.rules.length
    · have hmr := getD_mem' (l := g.rules) (i := q) hlt
      have hlong := hv.long _ hmr
      have hright := hv.right _ hmr
      obtain ⟨r, hr⟩ : ∃ r, g.rules.getD q default = r := ⟨_, rfl⟩
      have hke : tbl rulD (kpT g q) ++ [[iv .i64 r.left, .sl 1 (i64s r.right)]] = tbl rulD (kpT g q ++ [r]) := by rw [tbl_app]; rfl
      have hkl3 : (kpT g q ++ [r]).length = (kpT g q).length + 1 := by simp
      have hky := @kpT_y g q hlt
      have hkn := @kpT_n g q hlt
      rw [hr] at hlong hright hky hkn
      repeat' first | ((first | refine Br.dec ?_ ?_ | refine Br.eqi ?_ ?_) <;> intro h <;> try (exfalso; omega)) | (simp (disch := first | omega | (simp only [vlen]; first | done | omega)) only [hr, graD_eq, vbg, ↓vAq, vBq, ↓reduceIte, Nat.reduceBEq, Nat.reduceEqDiff, Nat.reduceLT, Nat.reduceLeDiff, Nat.reduceAdd, Nat.reduceMul, Nat.reduceSub, reduceCtorEq, Int.reduceToNat]) | (refine Br.mk ?_ ?_ <;> intro h) | (refine BrN.mk (fun h => ?_) ?_) | (refine AltVC.mk ?_ ?_)
      refine LoopVC.mk (X := Nat) (fun p => [(9, .v (.bool (allOf g true (nameSet g false).testBit (r.right.take p)))), (41, iv .i64 p)]) (fun p => hO2 g (kpT g q) r) (fun p => r.right.length - p) (fun p => p ≤ r.right.length) 0 (Nat.zero_le _) ?_ ?_
      · unfold hO2 kpO
        (simp (disch := first | omega | (simp only [vlen]; first | done | omega)) only [Fits_u, Fits_m, Fits_nil, List.length_append, hr, vbg, ↓vAq, vBq, ↓reduceIte, Nat.reduceBEq, Nat.reduceEqDiff, Nat.reduceLT, Nat.reduceLeDiff, Nat.reduceAdd, Nat.reduceMul, Nat.reduceSub, reduceCtorEq, Int.reduceToNat] <;> (repeat' first | rfl | apply And.intro))
      · intro p hp
        unfold hO2 kpO
        by_cases hpl : p < r.right.length
        · have hy := hright _ (by exact (by rw [List.getD_eq_getElem?_getD, List.getElem?_eq_getElem hpl]; exact List.getElem_mem hpl) : r.right.getD p 0 ∈ r.right)
          obtain ⟨y, hye⟩ : ∃ y, r.right.getD p 0 = y := ⟨_, rfl⟩
          have hts := all_take_succ' (p := fun y => if y < g.k then true else (nameSet g false).testBit (y - g.k).toNat) hpl
          rw [hye] at hy hts
          have hts' : allOf g true (nameSet g false).testBit (r.right.take (p + 1)) = (allOf g true (nameSet g false).testBit (r.right.take p) && (if y < g.k then true else (nameSet g false).testBit (y - g.k).toNat)) := hts
          cases ho : allOf g true (nameSet g false).testBit (r.right.take p) with
          | false =>
            repeat' first | ((first | refine Br.dec ?_ ?_ | refine Br.eqi ?_ ?_) <;> intro h <;> try (exfalso; omega)) | (simp (disch := first | omega | (simp only [vlen]; first | done | omega)) only [hr, ho, vbg, ↓vAq, vBq, ↓reduceIte, Nat.reduceBEq, Nat.reduceEqDiff, Nat.reduceLT, Nat.reduceLeDiff, Nat.reduceAdd, Nat.reduceMul, Nat.reduceSub, reduceCtorEq, Int.reduceToNat]) | (refine Br.mk ?_ ?_ <;> intro h) | (refine BrN.mk (fun h => ?_) ?_) | (refine AltVC.mk ?_ ?_)
            refine loopK.mk (p + 1) (by simp (disch := first | omega | (simp only [vlen]; first | done | omega)) only [vbg, ↓vAq, vBq, ↓reduceIte, Nat.reduceBEq, Nat.reduceEqDiff, Nat.reduceLT, Nat.reduceLeDiff, Nat.reduceAdd, Nat.reduceMul, Nat.reduceSub, reduceCtorEq, Int.reduceToNat]) (by show p + 1 ≤ _; omega) (by show _ - (p + 1) < _ - p; omega) ?_
            rw [hts', ho, Bool.false_and]
            (simp (disch := first | omega | (simp only [vlen]; first | done | omega)) only [Fits_u, Fits_m, Fits_nil, List.length_append, vbg, ↓vAq, vBq, ↓reduceIte, Nat.reduceBEq, Nat.reduceEqDiff, Nat.reduceLT, Nat.reduceLeDiff, Nat.reduceAdd, Nat.reduceMul, Nat.reduceSub, reduceCtorEq, Int.reduceToNat] <;> (repeat' first | rfl | apply And.intro))
          | true =>
            rw [ho, Bool.true_and] at hts'
            by_cases hyk : y < g.k
            · rw [if_pos hyk] at hts'
              repeat' first | ((first | refine Br.dec ?_ ?_ | refine Br.eqi ?_ ?_) <;> intro h <;> try (exfalso; omega)) | (simp (disch := first | omega | (simp only [vlen]; first | done | omega)) only [hr, ho, hye, vbg, ↓vAq, vBq, ↓reduceIte, Nat.reduceBEq, Nat.reduceEqDiff, Nat.reduceLT, Nat.reduceLeDiff, Nat.reduceAdd, Nat.reduceMul, Nat.reduceSub, reduceCtorEq, Int.reduceToNat]) | (refine Br.mk ?_ ?_ <;> intro h) | (refine BrN.mk (fun h => ?_) ?_) | (refine AltVC.mk ?_ ?_)
              refine loopK.mk (p + 1) (by simp (disch := first | omega | (simp only [vlen]; first | done | omega)) only [vbg, ↓vAq, vBq, ↓reduceIte, Nat.reduceBEq, Nat.reduceEqDiff, Nat.reduceLT, Nat.reduceLeDiff, Nat.reduceAdd, Nat.reduceMul, Nat.reduceSub, reduceCtorEq, Int.reduceToNat]) (by show p + 1 ≤ _; omega) (by show _ - (p + 1) < _ - p; omega) ?_
              rw [hts']
              (simp (disch := first | omega | (simp only [vlen]; first | done | omega)) only [Fits_u, Fits_m, Fits_nil, List.length_append, vbg, ↓vAq, vBq, ↓reduceIte, Nat.reduceBEq, Nat.reduceEqDiff, Nat.reduceLT, Nat.reduceLeDiff, Nat.reduceAdd, Nat.reduceMul, Nat.reduceSub, reduceCtorEq, Int.reduceToNat] <;> (repeat' first | rfl | apply And.intro))
            · rw [if_neg hyk] at hts'
              have hbit := bit_spec (nameSet g false) (y - g.k) (by omega) ⟨by omega, by omega⟩
              rw [decide_eq_true (show 0 ≤ y - g.k ∧ y - g.k < 32 by omega), Bool.true_and] at hbit
              repeat' first | ((first | refine Br.dec ?_ ?_ | refine Br.eqi ?_ ?_) <;> intro h <;> try (exfalso; omega)) | (simp (disch := first | omega | (simp only [vlen]; first | done | omega)) only [hr, ho, hye, vbg, ↓vAq, vBq, ↓reduceIte, Nat.reduceBEq, Nat.reduceEqDiff, Nat.reduceLT, Nat.reduceLeDiff, Nat.reduceAdd, Nat.reduceMul, Nat.reduceSub, reduceCtorEq, Int.reduceToNat]) | (refine Br.mk ?_ ?_ <;> intro h) | (refine BrN.mk (fun h => ?_) ?_) | (refine AltVC.mk ?_ ?_)
              refine CallVC.eq hbit ?_
              repeat' first | ((first | refine Br.dec ?_ ?_ | refine Br.eqi ?_ ?_) <;> intro h <;> try (exfalso; omega)) | (simp (disch := first | omega | (simp only [vlen]; first | done | omega)) only [hr, ho, hye, vbg, ↓vAq, vBq, ↓reduceIte, Nat.reduceBEq, Nat.reduceEqDiff, Nat.reduceLT, Nat.reduceLeDiff, Nat.reduceAdd, Nat.reduceMul, Nat.reduceSub, reduceCtorEq, Int.reduceToNat]) | (refine Br.mk ?_ ?_ <;> intro h) | (refine BrN.mk (fun h => ?_) ?_) | (refine AltVC.mk ?_ ?_)
              refine loopK.mk (p + 1) (by simp (disch := first | omega | (simp only [vlen]; first | done | omega)) only [vbg, ↓vAq, vBq, ↓reduceIte, Nat.reduceBEq, Nat.reduceEqDiff, Nat.reduceLT, Nat.reduceLeDiff, Nat.reduceAdd, Nat.reduceMul, Nat.reduceSub, reduceCtorEq, Int.reduceToNat]) (by show p + 1 ≤ _; omega) (by show _ - (p + 1) < _ - p; omega) ?_
              rw [hts']
              (simp (disch := first | omega | (simp only [vlen]; first | done | omega)) only [Fits_u, Fits_m, Fits_nil, List.length_append, vbg, ↓vAq, vBq, ↓reduceIte, Nat.reduceBEq, Nat.reduceEqDiff, Nat.reduceLT, Nat.reduceLeDiff, Nat.reduceAdd, Nat.reduceMul, Nat.reduceSub, reduceCtorEq, Int.reduceToNat] <;> (repeat' first | rfl | apply And.intro))
        · have hpe : p = r.right.length := by omega
          subst hpe
          rw [List.take_length]
          cases hb : allOf g true (nameSet g false).testBit r.right with
          | true =>
            have hky2 := hky hb
            repeat' first | ((first | refine Br.dec ?_ ?_ | refine Br.eqi ?_ ?_) <;> intro h <;> try (exfalso; omega)) | (simp (disch := first | omega | (simp only [vlen]; first | done | omega)) only [hr, hb, vbg, ↓vAq, vBq, ↓reduceIte, Nat.reduceBEq, Nat.reduceEqDiff, Nat.reduceLT, Nat.reduceLeDiff, Nat.reduceAdd, Nat.reduceMul, Nat.reduceSub, reduceCtorEq, Int.reduceToNat]) | (refine Br.mk ?_ ?_ <;> intro h) | (refine BrN.mk (fun h => ?_) ?_) | (refine AltVC.mk ?_ ?_)
            refine loopK.fold 3 1 0 3 true ?_
            repeat' first | ((first | refine Br.dec ?_ ?_ | refine Br.eqi ?_ ?_) <;> intro h <;> try (exfalso; omega)) | (simp (disch := first | omega | (simp only [vlen]; first | done | omega)) only [hke, hr, vbg, ↓vAq, vBq, ↓reduceIte, Nat.reduceBEq, Nat.reduceEqDiff, Nat.reduceLT, Nat.reduceLeDiff, Nat.reduceAdd, Nat.reduceMul, Nat.reduceSub, reduceCtorEq, Int.reduceToNat]) | (refine Br.mk ?_ ?_ <;> intro h) | (refine BrN.mk (fun h => ?_) ?_) | (refine AltVC.mk ?_ ?_)
            refine loopK.mk (q + 1) (by simp (disch := first | omega | (simp only [vlen]; first | done | omega)) only [vbg, ↓vAq, vBq, ↓reduceIte, Nat.reduceBEq, Nat.reduceEqDiff, Nat.reduceLT, Nat.reduceLeDiff, Nat.reduceAdd, Nat.reduceMul, Nat.reduceSub, reduceCtorEq, Int.reduceToNat]) (by show q + 1 ≤ _; omega) (by show _ - (q + 1) < _ - q; omega) ?_
            rw [hky2]
            (simp (disch := first | omega | (simp only [vlen]; first | done | omega)) only [Fits_u, Fits_m, Fits_nil, List.length_append, hkl3, vbg, ↓vAq, vBq, ↓reduceIte, Nat.reduceBEq, Nat.reduceEqDiff, Nat.reduceLT, Nat.reduceLeDiff, Nat.reduceAdd, Nat.reduceMul, Nat.reduceSub, reduceCtorEq, Int.reduceToNat] <;> (repeat' first | rfl | apply And.intro))
          | false =>
            have hkn2 := hkn hb
            repeat' first | ((first | refine Br.dec ?_ ?_ | refine Br.eqi ?_ ?_) <;> intro h <;> try (exfalso; omega)) | (simp (disch := first | omega | (simp only [vlen]; first | done | omega)) only [hr, hb, vbg, ↓vAq, vBq, ↓reduceIte, Nat.reduceBEq, Nat.reduceEqDiff, Nat.reduceLT, Nat.reduceLeDiff, Nat.reduceAdd, Nat.reduceMul, Nat.reduceSub, reduceCtorEq, Int.reduceToNat]) | (refine Br.mk ?_ ?_ <;> intro h) | (refine BrN.mk (fun h => ?_) ?_) | (refine AltVC.mk ?_ ?_)
            refine loopK.mk (q + 1) (by simp (disch := first | omega | (simp only [vlen]; first | done | omega)) only [vbg, ↓vAq, vBq, ↓reduceIte, Nat.reduceBEq, Nat.reduceEqDiff, Nat.reduceLT, Nat.reduceLeDiff, Nat.reduceAdd, Nat.reduceMul, Nat.reduceSub, reduceCtorEq, Int.reduceToNat]) (by show q + 1 ≤ _; omega) (by show _ - (q + 1) < _ - q; omega) ?_
            rw [hkn2]
            (simp (disch := first | omega | (simp only [vlen]; first | done | omega)) only [Fits_u, Fits_m, Fits_nil, List.length_append, vbg, ↓vAq, vBq, ↓reduceIte, Nat.reduceBEq, Nat.reduceEqDiff, Nat.reduceLT, Nat.reduceLeDiff, Nat.reduceAdd, Nat.reduceMul, Nat.reduceSub, reduceCtorEq, Int.reduceToNat] <;> (repeat' first | rfl | apply And.intro))
    · have hqe : q = g.rules.length := by omega
      have hkg : kpT g q = (kpG g).rules := by unfold kpT; rw [hqe, List.take_length]; rfl
      have ek : (kpG g).k = g.k := rfl
      have en : (kpG g).n = g.n := rfl
      have es : (kpG g).start = g.start := rfl
      obtain ⟨N, hN⟩ : ∃ N : Nat, g.n = N := ⟨g.n.toNat, by omega⟩
      have htb := tableG_spec (kpG g) w ⟨hkv.gen, hw.2⟩ N (w.length + 1) (by rw [en, hN]) rfl
      rw [hkg]
      repeat' first | ((first | refine Br.dec ?_ ?_ | refine Br.eqi ?_ ?_) <;> intro h <;> try (exfalso; omega)) | (simp (disch := first | omega | (simp only [vlen]; first | done | omega)) only [hN, graD_eq, vbg, ↓vAq, vBq, ↓reduceIte, Nat.reduceBEq, Nat.reduceEqDiff, Nat.reduceLT, Nat.reduceLeDiff, Nat.reduceAdd, Nat.reduceMul, Nat.reduceSub, reduceCtorEq, Int.reduceToNat]) | (refine Br.mk ?_ ?_ <;> intro h) | (refine BrN.mk (fun h => ?_) ?_) | (refine AltVC.mk ?_ ?_)
      refine GhoV.frz 1 ?_
      repeat' first | ((first | refine Br.dec ?_ ?_ | refine Br.eqi ?_ ?_) <;> intro h <;> try (exfalso; omega)) | (simp (disch := first | omega | (simp only [vlen]; first | done | omega)) only [hN, graD_eq, vbg, ↓vAq, vBq, ↓reduceIte, Nat.reduceBEq, Nat.reduceEqDiff, Nat.reduceLT, Nat.reduceLeDiff, Nat.reduceAdd, Nat.reduceMul, Nat.reduceSub, reduceCtorEq, Int.reduceToNat]) | (refine Br.mk ?_ ?_ <;> intro h) | (refine BrN.mk (fun h => ?_) ?_) | (refine AltVC.mk ?_ ?_)
      refine GhoV.go ?_
      repeat' first | ((first | refine Br.dec ?_ ?_ | refine Br.eqi ?_ ?_) <;> intro h <;> try (exfalso; omega)) | (simp (disch := first | omega | (simp only [vlen]; first | done | omega)) only [hN, graD_eq, vbg, ↓vAq, vBq, ↓reduceIte, Nat.reduceBEq, Nat.reduceEqDiff, Nat.reduceLT, Nat.reduceLeDiff, Nat.reduceAdd, Nat.reduceMul, Nat.reduceSub, reduceCtorEq, Int.reduceToNat]) | (refine Br.mk ?_ ?_ <;> intro h) | (refine BrN.mk (fun h => ?_) ?_) | (refine AltVC.mk ?_ ?_)
      refine CallVC.mk (by
        rw [show (graD (kpG g)) = [iv .i64 g.k, iv .i64 (N : Int), iv .i64 g.start, .sl 2 (tbl rulD (kpG g).rules)] by rw [graD_eq, ek, en, es, hN]] at htb
        exact htb) ?_
      rintro _ ⟨T, rfl, hT⟩
      have hovr : ∀ (l : List Int) (hl : l.length ≤ 4) (hx : ∀ y, y ∈ l → 0 ≤ y ∧ y < g.k + g.n) (i j : Nat) (hij : i ≤ j) (hj : j ≤ w.length), Dm.Spec Try.prog 36 [.ag [iv .i64 g.k, iv .i64 (N : Int), iv .i64 g.start, .sl 2 (tbl rulD (kpG g).rules)], .sl 1 (i64s w), cuV T N (w.length + 1), .sl 1 (i64s l), iv .i64 i, iv .i64 j] (· = .v (.bool (ovB (kpG g) w T l i j))) := fun l hl hx i j hij hj => by
        have := overG_spec (kpG g) w ⟨hkv.gen, hw.2⟩ N (by rw [en, hN]) T l hl hx i j hij hj
        rwa [show (graD (kpG g)) = [iv .i64 g.k, iv .i64 (N : Int), iv .i64 g.start, .sl 2 (tbl rulD (kpG g).rules)] by rw [graD_eq, ek, en, es, hN]] at this
      repeat' first | ((first | refine Br.dec ?_ ?_ | refine Br.eqi ?_ ?_) <;> intro h <;> try (exfalso; omega)) | (simp (disch := first | omega | (simp only [vlen]; first | done | omega)) only [hN, graD_eq, vbg, ↓vAq, vBq, ↓reduceIte, Nat.reduceBEq, Nat.reduceEqDiff, Nat.reduceLT, Nat.reduceLeDiff, Nat.reduceAdd, Nat.reduceMul, Nat.reduceSub, reduceCtorEq, Int.reduceToNat]) | (refine Br.mk ?_ ?_ <;> intro h) | (refine BrN.mk (fun h => ?_) ?_) | (refine AltVC.mk ?_ ?_)
      rw [tabD_rep]
      obtain ⟨R0, hR0⟩ : ∃ R0 : Nat → Nat → Bool, R0 = fun b i => decide (i = w.length) && (nameSet g false).testBit b := ⟨_, rfl⟩
      refine LoopVC.mk (X := Nat) (fun a => [(13, .ref 2 1 0 N), (14, iv .i64 a)]) (fun a => [(2, ⟨1, tabD N fun b => if b < a then rwR R0 (w.length + 1) b else .nl, true, decide (0 < a), .arr⟩)]) (fun a => N - a) (fun a => a ≤ N) 0 (Nat.zero_le _) ?_ ?_
      · (simp (disch := first | omega | (simp only [vlen]; first | done | omega)) only [Fits_u, Fits_m, Fits_nil, List.length_append, vbg, hN, ↓vAq, vBq, ↓reduceIte, Nat.reduceBEq, Nat.reduceEqDiff, Nat.reduceLT, Nat.reduceLeDiff, Nat.reduceAdd, Nat.reduceMul, Nat.reduceSub, reduceCtorEq, Int.reduceToNat] <;> (repeat' first | rfl | apply And.intro))
        all_goals first | rfl | skip
      · intro a ha
        by_cases haN : a < N
        · have hbit := bit_spec (nameSet g false) a (by omega) ⟨by omega, by omega⟩
          rw [decide_eq_true (show (0 : Int) ≤ a ∧ (a : Int) < 32 by omega), Bool.true_and, Int.toNat_natCast] at hbit
          have hb0 := @tbb_len (w.length + 1) (fun _ => false)
          repeat' first | ((first | refine Br.dec ?_ ?_ | refine Br.eqi ?_ ?_) <;> intro h <;> try (exfalso; omega)) | (simp (disch := first | omega | (simp only [vlen]; first | done | omega)) only [hN, vbg, ↓vAq, vBq, ↓reduceIte, Nat.reduceBEq, Nat.reduceEqDiff, Nat.reduceLT, Nat.reduceLeDiff, Nat.reduceAdd, Nat.reduceMul, Nat.reduceSub, reduceCtorEq, Int.reduceToNat]) | (refine Br.mk ?_ ?_ <;> intro h) | (refine BrN.mk (fun h => ?_) ?_) | (refine AltVC.mk ?_ ?_)
          rw [tbb_rep]
          refine CallP.eq hbit (fun _ => plain_v) ?_
          repeat' first | ((first | refine Br.dec ?_ ?_ | refine Br.eqi ?_ ?_) <;> intro h <;> try (exfalso; omega)) | (simp (disch := first | omega | (simp only [vlen]; first | done | omega)) only [hN, vbg, ↓vAq, vBq, ↓reduceIte, Nat.reduceBEq, Nat.reduceEqDiff, Nat.reduceLT, Nat.reduceLeDiff, Nat.reduceAdd, Nat.reduceMul, Nat.reduceSub, reduceCtorEq, Int.reduceToNat]) | (refine Br.mk ?_ ?_ <;> intro h) | (refine BrN.mk (fun h => ?_) ?_) | (refine AltVC.mk ?_ ?_)
          refine loopK.fold 3 2 a 0 true ?_
          repeat' first | ((first | refine Br.dec ?_ ?_ | refine Br.eqi ?_ ?_) <;> intro h <;> try (exfalso; omega)) | (simp (disch := first | omega | (simp only [vlen]; first | done | omega)) only [hN, vbg, ↓vAq, vBq, ↓reduceIte, Nat.reduceBEq, Nat.reduceEqDiff, Nat.reduceLT, Nat.reduceLeDiff, Nat.reduceAdd, Nat.reduceMul, Nat.reduceSub, reduceCtorEq, Int.reduceToNat]) | (refine Br.mk ?_ ?_ <;> intro h) | (refine BrN.mk (fun h => ?_) ?_) | (refine AltVC.mk ?_ ?_)
          refine Chk.mk ⟨Nat.le_refl _, tabD_all fun j hj => by (repeat' split) <;> first | rfl | exact clo'_nl⟩ ?_
          refine loopK.mk (a + 1) (by simp (disch := first | omega | (simp only [vlen]; first | done | omega)) only [vbg, ↓vAq, vBq, ↓reduceIte, Nat.reduceBEq, Nat.reduceEqDiff, Nat.reduceLT, Nat.reduceLeDiff, Nat.reduceAdd, Nat.reduceMul, Nat.reduceSub, reduceCtorEq, Int.reduceToNat]) (by show a + 1 ≤ N; omega) (by show N - (a + 1) < N - a; omega) ?_
          (simp (disch := first | omega | (simp only [vlen]; first | done | omega)) only [Fits_u, Fits_m, Fits_nil, List.length_append, hN, vbg, ↓vAq, vBq, ↓reduceIte, Nat.reduceBEq, Nat.reduceEqDiff, Nat.reduceLT, Nat.reduceLeDiff, Nat.reduceAdd, Nat.reduceMul, Nat.reduceSub, reduceCtorEq, Int.reduceToNat] <;> (repeat' first | rfl | apply And.intro))
          refine obTabW (fun j hj => ?_) (decide_eq_true (by omega)).symm
          by_cases e : j = a
          · subst e
            rw [if_pos rfl, if_pos (by omega), rwR_eq, hR0]
            congr 2
            refine tbb_ext fun k hk => ?_
            show _ = (decide (k = w.length) && (nameSet g false).testBit j)
            by_cases e2 : k = w.length
            · rw [if_pos e2, decide_eq_true e2, Bool.true_and]
            · rw [if_neg e2, decide_eq_false e2, Bool.false_and]
          · rw [if_neg e]; (repeat' split) <;> first | rfl | omega
        · have e1 : (tabD N fun b => if b < a then rwR R0 (w.length + 1) b else .nl) = tabD N fun b => rwR R0 (w.length + 1) b := tabD_ext fun j hj => by rw [if_pos (by omega)]
          rw [e1, decide_eq_true (show 0 < a by omega)]
          have hmkN : ∀ b : Int, mkP g b → b < N := fun b hb => by have := hb.2.1; omega
          have hsnd0 : ∀ b k, R0 b k = true → b < N → Rea (kpG g) w (mkP g) b k := fun b k hb hbN => by
            rw [hR0] at hb
            have hb : (decide (k = w.length) && (nameSet g false).testBit b) = true := hb
            rw [Bool.and_eq_true, decide_eq_true_eq] at hb
            rw [hb.1]
            exact .fin ⟨by omega, by omega, by rw [Int.toNat_natCast]; exact hb.2⟩
          have hst := hv.start
          obtain ⟨st, hste⟩ : ∃ st : Nat, g.start = st := ⟨g.start.toNat, by omega⟩
          have hnsl : ∀ b, (nameSet g false).testBit b = true → b < N := fun b hb => by
            rw [ns_bit, Bool.and_eq_true, decide_eq_true_eq] at hb; omega
          repeat' first | ((first | refine Br.dec ?_ ?_ | refine Br.eqi ?_ ?_) <;> intro h <;> try (exfalso; omega)) | (simp (disch := first | omega | (simp only [vlen]; first | done | omega)) only [hN, vbg, ↓vAq, vBq, ↓reduceIte, Nat.reduceBEq, Nat.reduceEqDiff, Nat.reduceLT, Nat.reduceLeDiff, Nat.reduceAdd, Nat.reduceMul, Nat.reduceSub, reduceCtorEq, Int.reduceToNat]) | (refine Br.mk ?_ ?_ <;> intro h) | (refine BrN.mk (fun h => ?_) ?_) | (refine AltVC.mk ?_ ?_)
          refine LoopVC.mk (X := (Nat → Nat → Bool) × Bool) (fun x => [(13, .ref 2 1 0 N), (15, .v (.bool x.2))]) (fun x => rgO N (w.length + 1) x.1) (fun x => if x.2 then 561 - cwR N (w.length + 1) x.1 else 0)
            (fun x => (∀ b k, x.1 b k = true → Rea (kpG g) w (mkP g) b k) ∧ (∀ b : Nat, b < N → mkP g b → x.1 b w.length = true) ∧ (x.2 = false → ∀ q i, q < (kpG g).rules.length → CLR (kpG g) w T x.1 q i)) (R0, true)
            ⟨fun b k hb => hsnd0 b k hb (hnsl b (by rw [hR0] at hb; have hb : (decide (k = w.length) && (nameSet g false).testBit b) = true := hb; rw [Bool.and_eq_true] at hb; exact hb.2)), fun b hb hm => by
              show R0 b w.length = true
              rw [hR0]
              show (decide (w.length = w.length) && (nameSet g false).testBit b) = true
              have := hm.2.2
              rw [Int.toNat_natCast] at this
              rw [this, decide_eq_true rfl]; rfl, fun h => by cases h⟩ ?_ ?_
          · unfold rgO
            (simp (disch := first | omega | (simp only [vlen]; first | done | omega)) only [Fits_u, Fits_m, Fits_nil, List.length_append, hN, vbg, ↓vAq, vBq, ↓reduceIte, Nat.reduceBEq, Nat.reduceEqDiff, Nat.reduceLT, Nat.reduceLeDiff, Nat.reduceAdd, Nat.reduceMul, Nat.reduceSub, reduceCtorEq, Int.reduceToNat] <;> (repeat' first | rfl | apply And.intro))
          · rintro ⟨R1, m1⟩ ⟨s1, s2, s3⟩
            simp only at s1 s2 s3 ⊢
            unfold rgO
            have hW1 := @cwR_le N (w.length + 1) R1 (by omega) (by omega)
            have hb1 := @tbb_len (w.length + 1) (fun i => R1 st i)
            cases m1 with
            | false =>
              repeat' first | ((first | refine Br.dec ?_ ?_ | refine Br.eqi ?_ ?_) <;> intro h <;> try (exfalso; omega)) | (simp (disch := first | omega | (simp only [vlen]; first | done | omega)) only [hN, hste, vbg, ↓vAq, vBq, ↓reduceIte, Nat.reduceBEq, Nat.reduceEqDiff, Nat.reduceLT, Nat.reduceLeDiff, Nat.reduceAdd, Nat.reduceMul, Nat.reduceSub, reduceCtorEq, Int.reduceToNat]) | (refine Br.mk ?_ ?_ <;> intro h) | (refine BrN.mk (fun h => ?_) ?_) | (refine AltVC.mk ?_ ?_)
              refine fin_mk ⟨_, rfl, ?_⟩
              constructor
              · intro h1
                exact s1 _ _ h1
              · intro h1
                have := rea_all hT (fun b hb => hb.1) (N := N) hmkN s2 (s3 rfl) h1
                rwa [Int.toNat_natCast] at this
            | true =>
              repeat' first | ((first | refine Br.dec ?_ ?_ | refine Br.eqi ?_ ?_) <;> intro h <;> try (exfalso; omega)) | (simp (disch := first | omega | (simp only [vlen]; first | done | omega)) only [hN, vbg, ↓vAq, vBq, ↓reduceIte, Nat.reduceBEq, Nat.reduceEqDiff, Nat.reduceLT, Nat.reduceLeDiff, Nat.reduceAdd, Nat.reduceMul, Nat.reduceSub, reduceCtorEq, Int.reduceToNat]) | (refine Br.mk ?_ ?_ <;> intro h) | (refine BrN.mk (fun h => ?_) ?_) | (refine AltVC.mk ?_ ?_)
              refine LoopVC.mk (X := (Nat → Nat → Bool) × Bool × Nat) (fun x => [(13, .ref 2 1 0 N), (15, .v (.bool x.2.1)), (102, iv .i64 x.2.2)]) (fun x => rgO N (w.length + 1) x.1) (fun x => (kpG g).rules.length - x.2.2)
                (fun x => RI (kpG g) w (mkP g) N R1 x.1 x.2.1 ∧ x.2.2 ≤ (kpG g).rules.length ∧ (x.2.1 = false → ∀ q i, q < x.2.2 → CLR (kpG g) w T x.1 q i)) (R1, false, 0) ⟨⟨s1, s2, by simp⟩, Nat.zero_le _, fun _ q i hq => absurd hq (Nat.not_lt_zero _)⟩ ?_ ?_
              · unfold rgO
                (simp (disch := first | omega | (simp only [vlen]; first | done | omega)) only [Fits_u, Fits_m, Fits_nil, List.length_append, hN, vbg, ↓vAq, vBq, ↓reduceIte, Nat.reduceBEq, Nat.reduceEqDiff, Nat.reduceLT, Nat.reduceLeDiff, Nat.reduceAdd, Nat.reduceMul, Nat.reduceSub, reduceCtorEq, Int.reduceToNat] <;> (repeat' first | rfl | apply And.intro))
              · rintro ⟨R2, m2, q⟩ ⟨k1, k2, k3⟩
                simp only at k1 k2 k3 ⊢
                unfold rgO
                have hW2 := @cwR_le N (w.length + 1) R2 (by omega) (by omega)
                by_cases hql : q < (kpG g).rules.length
                · have hmr := getD_mem' (l := (kpG g).rules) (i := q) hql
                  have hleft := hkv.left _ hmr
                  have hlong := hkv.long _ hmr
                  have hright := hkv.right _ hmr
                  obtain ⟨a, ha⟩ : ∃ a : Nat, ((kpG g).rules.getD q default).left = a := ⟨((kpG g).rules.getD q default).left.toNat, by omega⟩
                  rw [ha, en, hN] at hleft
                  rw [ek, en] at hright
                  obtain ⟨ri, hri⟩ : ∃ ri, ((kpG g).rules.getD q default).right = ri := ⟨_, rfl⟩
                  rw [hri] at hlong hright
                  have hlq : lft (kpG g) q = a := ha
                  have hrq : rgt (kpG g) q = ri := hri
                  repeat' first | ((first | refine Br.dec ?_ ?_ | refine Br.eqi ?_ ?_) <;> intro h <;> try (exfalso; omega)) | (simp (disch := first | omega | (simp only [vlen]; first | done | omega)) only [hN, ha, hri, vbg, ↓vAq, vBq, ↓reduceIte, Nat.reduceBEq, Nat.reduceEqDiff, Nat.reduceLT, Nat.reduceLeDiff, Nat.reduceAdd, Nat.reduceMul, Nat.reduceSub, reduceCtorEq, Int.reduceToNat]) | (refine Br.mk ?_ ?_ <;> intro h) | (refine BrN.mk (fun h => ?_) ?_) | (refine AltVC.mk ?_ ?_)
                  refine LoopVC.mk (X := (Nat → Nat → Bool) × Bool × Nat) (fun x => [(13, .ref 2 1 0 N), (15, .v (.bool x.2.1)), (18, iv .i64 x.2.2)]) (fun x => rgP N (w.length + 1) x.1 a ri) (fun x => w.length - x.2.2)
                    (fun x => RI (kpG g) w (mkP g) N R1 x.1 x.2.1 ∧ x.2.2 ≤ w.length ∧ (x.2.1 = false → (∀ q' i, q' < q → CLR (kpG g) w T x.1 q' i) ∧ ∀ i, i < x.2.2 → CLR (kpG g) w T x.1 q i)) (R2, m2, 0) ⟨k1, Nat.zero_le _, fun h => ⟨k3 h, fun i hi => absurd hi (Nat.not_lt_zero _)⟩⟩ ?_ ?_
                  · simp only [rgP, rgO, List.cons_append, List.nil_append]
                    (simp (disch := first | omega | (simp only [vlen]; first | done | omega)) only [Fits_u, Fits_m, Fits_nil, List.length_append, hN, vbg, ↓vAq, vBq, ↓reduceIte, Nat.reduceBEq, Nat.reduceEqDiff, Nat.reduceLT, Nat.reduceLeDiff, Nat.reduceAdd, Nat.reduceMul, Nat.reduceSub, reduceCtorEq, Int.reduceToNat] <;> (repeat' first | rfl | apply And.intro))
                  · rintro ⟨R3, m3, i⟩ ⟨l1, l2, l3⟩
                    simp only at l1 l2 l3 ⊢
                    simp only [rgP, rgO, List.cons_append, List.nil_append]
                    have hW3 := @cwR_le N (w.length + 1) R3 (by omega) (by omega)
                    have hb3 := @tbb_len (w.length + 1) (fun i => R3 a i)
                    have hf3 : (tabD N fun b => if b = a then .own false 1 (bls (tbb (w.length + 1) fun i => R3 a i)) else rwR R3 (w.length + 1) b) = tabD N fun b => rwR R3 (w.length + 1) b := tabD_ext fun b _ => by
                      by_cases e : b = a
                      · subst e; rw [if_pos rfl]; rfl
                      · rw [if_neg e]
                    by_cases hil : i < w.length
                    · cases hR3 : R3 a i with
                      | true =>
                        repeat' first | ((first | refine Br.dec ?_ ?_ | refine Br.eqi ?_ ?_) <;> intro h <;> try (exfalso; omega)) | (simp (disch := first | omega | (simp only [vlen]; first | done | omega)) only [hN, hR3, vbg, ↓vAq, vBq, ↓reduceIte, Nat.reduceBEq, Nat.reduceEqDiff, Nat.reduceLT, Nat.reduceLeDiff, Nat.reduceAdd, Nat.reduceMul, Nat.reduceSub, reduceCtorEq, Int.reduceToNat]) | (refine Br.mk ?_ ?_ <;> intro h) | (refine BrN.mk (fun h => ?_) ?_) | (refine AltVC.mk ?_ ?_)
                        refine loopK.fold 4 2 a 0 true ?_
                        repeat' first | ((first | refine Br.dec ?_ ?_ | refine Br.eqi ?_ ?_) <;> intro h <;> try (exfalso; omega)) | (simp (disch := first | omega | (simp only [vlen]; first | done | omega)) only [hN, hR3, hf3, vbg, ↓vAq, vBq, ↓reduceIte, Nat.reduceBEq, Nat.reduceEqDiff, Nat.reduceLT, Nat.reduceLeDiff, Nat.reduceAdd, Nat.reduceMul, Nat.reduceSub, reduceCtorEq, Int.reduceToNat]) | (refine Br.mk ?_ ?_ <;> intro h) | (refine BrN.mk (fun h => ?_) ?_) | (refine AltVC.mk ?_ ?_)
                        refine Chk.mk ⟨Nat.le_refl _, tabD_all fun j hj => by (repeat' split) <;> first | rfl | exact clo'_nl⟩ ?_
                        refine loopK.mk (R3, m3, i + 1) (by simp (disch := first | omega | (simp only [vlen]; first | done | omega)) only [vbg, ↓vAq, vBq, ↓reduceIte, Nat.reduceBEq, Nat.reduceEqDiff, Nat.reduceLT, Nat.reduceLeDiff, Nat.reduceAdd, Nat.reduceMul, Nat.reduceSub, reduceCtorEq, Int.reduceToNat]) ⟨l1, by show i + 1 ≤ w.length; omega, fun h => ⟨(l3 h).1, fun i' hi' => by
                          by_cases e : i' = i
                          · subst e; intro _ _; rw [hlq, Int.toNat_natCast]; exact hR3
                          · exact (l3 h).2 i' (by show i' < i; simp only at hi'; omega)⟩⟩ (by show w.length - (i + 1) < w.length - i; omega) ?_
                        (simp (disch := first | omega | (simp only [vlen]; first | done | omega)) only [Fits_u, Fits_m, Fits_nil, List.length_append, hN, hf3, vbg, ↓vAq, vBq, ↓reduceIte, Nat.reduceBEq, Nat.reduceEqDiff, Nat.reduceLT, Nat.reduceLeDiff, Nat.reduceAdd, Nat.reduceMul, Nat.reduceSub, reduceCtorEq, Int.reduceToNat] <;> (repeat' first | rfl | apply And.intro))
                      | false =>
                        repeat' first | ((first | refine Br.dec ?_ ?_ | refine Br.eqi ?_ ?_) <;> intro h <;> try (exfalso; omega)) | (simp (disch := first | omega | (simp only [vlen]; first | done | omega)) only [hN, hR3, vbg, ↓vAq, vBq, ↓reduceIte, Nat.reduceBEq, Nat.reduceEqDiff, Nat.reduceLT, Nat.reduceLeDiff, Nat.reduceAdd, Nat.reduceMul, Nat.reduceSub, reduceCtorEq, Int.reduceToNat]) | (refine Br.mk ?_ ?_ <;> intro h) | (refine BrN.mk (fun h => ?_) ?_) | (refine AltVC.mk ?_ ?_)
                        refine LoopVC.fold 4 2 a 0 true ?_
                        repeat' first | ((first | refine Br.dec ?_ ?_ | refine Br.eqi ?_ ?_) <;> intro h <;> try (exfalso; omega)) | (simp (disch := first | omega | (simp only [vlen]; first | done | omega)) only [hN, hR3, hf3, vbg, ↓vAq, vBq, ↓reduceIte, Nat.reduceBEq, Nat.reduceEqDiff, Nat.reduceLT, Nat.reduceLeDiff, Nat.reduceAdd, Nat.reduceMul, Nat.reduceSub, reduceCtorEq, Int.reduceToNat]) | (refine Br.mk ?_ ?_ <;> intro h) | (refine BrN.mk (fun h => ?_) ?_) | (refine AltVC.mk ?_ ?_)
                        refine Chk.mk ⟨Nat.le_refl _, tabD_all fun j hj => by (repeat' split) <;> first | rfl | exact clo'_nl⟩ ?_
                        refine LoopVC.mk (X := (Nat → Nat → Bool) × Bool × Nat) (fun x => [(13, .ref 2 1 0 N), (15, .v (.bool x.2.1)), (123, iv .i64 x.2.2)]) (fun x => rgP N (w.length + 1) x.1 a ri) (fun x => ri.length - x.2.2)
                          (fun x => RI (kpG g) w (mkP g) N R1 x.1 x.2.1 ∧ x.2.2 ≤ ri.length ∧ (x.1 a i = true → x.2.1 = true) ∧ (x.2.1 = false → ((∀ q' i, q' < q → CLR (kpG g) w T x.1 q' i) ∧ ∀ i', i' < i → CLR (kpG g) w T x.1 q i') ∧ ∀ k j, k < x.2.2 → i ≤ j → j ≤ w.length → hitE (kpG g) w T x.1 q k i j = false)) (R3, m3, 0) ⟨l1, Nat.zero_le _, fun h => (by have h : R3 a i = true := h; rw [hR3] at h; cases h), fun h => ⟨l3 h, fun k j hk => absurd hk (Nat.not_lt_zero _)⟩⟩ ?_ ?_
                        · simp only [rgP, rgO, List.cons_append, List.nil_append]
                          (simp (disch := first | omega | (simp only [vlen]; first | done | omega)) only [Fits_u, Fits_m, Fits_nil, List.length_append, hN, hf3, vbg, ↓vAq, vBq, ↓reduceIte, Nat.reduceBEq, Nat.reduceEqDiff, Nat.reduceLT, Nat.reduceLeDiff, Nat.reduceAdd, Nat.reduceMul, Nat.reduceSub, reduceCtorEq, Int.reduceToNat] <;> (repeat' first | rfl | apply And.intro))
                        · rintro ⟨R4, m4, k⟩ ⟨p1, p2, p3, p4⟩
                          simp only at p1 p2 p3 p4 ⊢
                          simp only [rgP, rgO, List.cons_append, List.nil_append]
                          have hW4 := @cwR_le N (w.length + 1) R4 (by omega) (by omega)
                          have hb4 := @tbb_len (w.length + 1) (fun i => R4 a i)
                          have hf4 : (tabD N fun b => if b = a then .own false 1 (bls (tbb (w.length + 1) fun i => R4 a i)) else rwR R4 (w.length + 1) b) = tabD N fun b => rwR R4 (w.length + 1) b := tabD_ext fun b _ => by
                            by_cases e : b = a
                            · subst e; rw [if_pos rfl]; rfl
                            · rw [if_neg e]
                          by_cases hkl : k < ri.length
                          · have hxm : ri.getD k 0 ∈ ri := by rw [List.getD_eq_getElem?_getD, List.getElem?_eq_getElem hkl]; exact List.getElem_mem hkl
                            have hxr := hright _ hxm
                            obtain ⟨x, hx⟩ : ∃ x, ri.getD k 0 = x := ⟨_, rfl⟩
                            rw [hx] at hxr
                            repeat' first | ((first | refine Br.dec ?_ ?_ | refine Br.eqi ?_ ?_) <;> intro h <;> try (exfalso; omega)) | (simp (disch := first | omega | (simp only [vlen]; first | done | omega)) only [hN, hx, vbg, ↓vAq, vBq, ↓reduceIte, Nat.reduceBEq, Nat.reduceEqDiff, Nat.reduceLT, Nat.reduceLeDiff, Nat.reduceAdd, Nat.reduceMul, Nat.reduceSub, reduceCtorEq, Int.reduceToNat]) | (refine Br.mk ?_ ?_ <;> intro h) | (refine BrN.mk (fun h => ?_) ?_) | (refine AltVC.mk ?_ ?_)
                            refine LoopVC.mk (X := (Nat → Nat → Bool) × Bool × Nat) (fun z => [(13, .ref 2 1 0 N), (15, .v (.bool z.2.1)), (21, iv .i64 z.2.2)]) (fun z => rgP N (w.length + 1) z.1 a ri) (fun z => w.length + 1 - z.2.2)
                              (fun z => RI (kpG g) w (mkP g) N R1 z.1 z.2.1 ∧ (i ≤ z.2.2 ∧ z.2.2 ≤ w.length + 1) ∧ (z.1 a i = true → z.2.1 = true) ∧ (z.2.1 = false → (((∀ q' i, q' < q → CLR (kpG g) w T z.1 q' i) ∧ ∀ i', i' < i → CLR (kpG g) w T z.1 q i') ∧ ∀ k' j, k' < k → i ≤ j → j ≤ w.length → hitE (kpG g) w T z.1 q k' i j = false) ∧ ∀ j, i ≤ j → j < z.2.2 → hitE (kpG g) w T z.1 q k i j = false)) (R4, m4, i) ⟨p1, ⟨Nat.le_refl _, by show i ≤ w.length + 1; omega⟩, p3, fun h => ⟨p4 h, fun j h1 h2 => absurd h1 (by show ¬ i ≤ j; simp only at h2; omega)⟩⟩ ?_ ?_
                            · simp only [rgP, rgO, List.cons_append, List.nil_append]
                              (simp (disch := first | omega | (simp only [vlen]; first | done | omega)) only [Fits_u, Fits_m, Fits_nil, List.length_append, hN, vbg, ↓vAq, vBq, ↓reduceIte, Nat.reduceBEq, Nat.reduceEqDiff, Nat.reduceLT, Nat.reduceLeDiff, Nat.reduceAdd, Nat.reduceMul, Nat.reduceSub, reduceCtorEq, Int.reduceToNat] <;> (repeat' first | rfl | apply And.intro))
                            · rintro ⟨R5, m5, j⟩ ⟨u1, ⟨u2, u2'⟩, u3, u4⟩
                              simp only at u1 u2 u2' u3 u4 ⊢
                              simp only [rgP, rgO, List.cons_append, List.nil_append]
                              have hb5 := @tbb_len (w.length + 1) (fun i => R5 a i)
                              have hW5 := @cwR_le N (w.length + 1) R5 (by omega) (by omega)
                              by_cases hjl : j ≤ w.length
                              · have hov := hovr (ri.take k) (by rw [List.length_take]; omega) (fun y hy => hright y (List.mem_of_mem_take hy)) i j u2 hjl
                                have hE : ∀ R, hitE (kpG g) w T R q k i j = (ovB (kpG g) w T (ri.take k) i j && (decide (j = w.length) || (if x < g.k then decide (j + 1 = w.length ∧ w.getD j 0 = x) else R (x - g.k).toNat j))) := fun R => by
                                  unfold hitE; rw [hrq, hx, ek]
                                have hno : hitE (kpG g) w T R5 q k i j = false → ∀ m : Bool, m = m5 → RI (kpG g) w (mkP g) N R1 R5 m5 ∧ (i ≤ j + 1 ∧ j + 1 ≤ w.length + 1) ∧ (R5 a i = true → m5 = true) ∧ (m5 = false → (((∀ q' i, q' < q → CLR (kpG g) w T R5 q' i) ∧ ∀ i', i' < i → CLR (kpG g) w T R5 q i') ∧ ∀ k' j, k' < k → i ≤ j → j ≤ w.length → hitE (kpG g) w T R5 q k' i j = false) ∧ ∀ j', i ≤ j' → j' < j + 1 → hitE (kpG g) w T R5 q k i j' = false) := fun h0 _ _ => ⟨u1, ⟨by omega, by omega⟩, u3, fun h => ⟨(u4 h).1, fun j' h1 h2 => by
                                  by_cases e : j' = j
                                  · subst e; exact h0
                                  · exact (u4 h).2 j' h1 (by omega)⟩⟩
                                have hyes : hitE (kpG g) w T R5 q k i j = true → RI (kpG g) w (mkP g) N R1 (updR R5 a i) true ∧ (i ≤ j + 1 ∧ j + 1 ≤ w.length + 1) ∧ (updR R5 a i a i = true → true = true) := fun h0 => ⟨u1.upd (by omega) (by omega) u3 (by
                                  have := hitE_rea hT u1.snd hql (by rw [hrq]; exact hkl) hil hjl h0
                                  rwa [hlq] at this), ⟨by omega, by omega⟩, fun _ => rfl⟩
                                cases ho : ovB (kpG g) w T (ri.take k) i j with
                                | false =>
                                  rw [ho] at hov
                                  have hmiss : hitE (kpG g) w T R5 q k i j = false := by rw [hE, ho]; rfl
                                  repeat' first | ((first | refine Br.dec ?_ ?_ | refine Br.eqi ?_ ?_) <;> intro h <;> try (exfalso; omega)) | (simp (disch := first | omega | (simp only [vlen]; first | done | omega)) only [hN, hx, vbg, ↓vAq, vBq, ↓reduceIte, Nat.reduceBEq, Nat.reduceEqDiff, Nat.reduceLT, Nat.reduceLeDiff, Nat.reduceAdd, Nat.reduceMul, Nat.reduceSub, reduceCtorEq, Int.reduceToNat]) | (refine Br.mk ?_ ?_ <;> intro h) | (refine BrN.mk (fun h => ?_) ?_) | (refine AltVC.mk ?_ ?_)
                                  refine CallVC.eq hov ?_
                                  repeat' first | ((first | refine Br.dec ?_ ?_ | refine Br.eqi ?_ ?_) <;> intro h <;> try (exfalso; omega)) | (simp (disch := first | omega | (simp only [vlen]; first | done | omega)) only [hN, hx, vbg, ↓vAq, vBq, ↓reduceIte, Nat.reduceBEq, Nat.reduceEqDiff, Nat.reduceLT, Nat.reduceLeDiff, Nat.reduceAdd, Nat.reduceMul, Nat.reduceSub, reduceCtorEq, Int.reduceToNat]) | (refine Br.mk ?_ ?_ <;> intro h) | (refine BrN.mk (fun h => ?_) ?_) | (refine AltVC.mk ?_ ?_)
                                  refine loopK.mk (R5, m5, j + 1) (by simp (disch := first | omega | (simp only [vlen]; first | done | omega)) only [vbg, ↓vAq, vBq, ↓reduceIte, Nat.reduceBEq, Nat.reduceEqDiff, Nat.reduceLT, Nat.reduceLeDiff, Nat.reduceAdd, Nat.reduceMul, Nat.reduceSub, reduceCtorEq, Int.reduceToNat]) (hno hmiss m5 rfl) (by show w.length + 1 - (j + 1) < w.length + 1 - j; omega) ?_
                                  (simp (disch := first | omega | (simp only [vlen]; first | done | omega)) only [Fits_u, Fits_m, Fits_nil, List.length_append, hN, vbg, ↓vAq, vBq, ↓reduceIte, Nat.reduceBEq, Nat.reduceEqDiff, Nat.reduceLT, Nat.reduceLeDiff, Nat.reduceAdd, Nat.reduceMul, Nat.reduceSub, reduceCtorEq, Int.reduceToNat] <;> (repeat' first | rfl | apply And.intro))
                                | true =>
                                  rw [ho] at hov
                                  have hE5 := hE R5
                                  rw [ho, Bool.true_and] at hE5
                                  by_cases hjn : j = w.length
                                  · have hhit : hitE (kpG g) w T R5 q k i j = true := by rw [hE5, decide_eq_true hjn]; rfl
                                    repeat' first | ((first | refine Br.dec ?_ ?_ | refine Br.eqi ?_ ?_) <;> intro h <;> try (exfalso; omega)) | (simp (disch := first | omega | (simp only [vlen]; first | done | omega)) only [hN, hx, vbg, ↓vAq, vBq, ↓reduceIte, Nat.reduceBEq, Nat.reduceEqDiff, Nat.reduceLT, Nat.reduceLeDiff, Nat.reduceAdd, Nat.reduceMul, Nat.reduceSub, reduceCtorEq, Int.reduceToNat]) | (refine Br.mk ?_ ?_ <;> intro h) | (refine BrN.mk (fun h => ?_) ?_) | (refine AltVC.mk ?_ ?_)
                                    refine CallVC.eq hov ?_
                                    repeat' first | ((first | refine Br.dec ?_ ?_ | refine Br.eqi ?_ ?_) <;> intro h <;> try (exfalso; omega)) | (simp (disch := first | omega | (simp only [vlen]; first | done | omega)) only [hN, hx, vbg, ↓vAq, vBq, ↓reduceIte, Nat.reduceBEq, Nat.reduceEqDiff, Nat.reduceLT, Nat.reduceLeDiff, Nat.reduceAdd, Nat.reduceMul, Nat.reduceSub, reduceCtorEq, Int.reduceToNat]) | (refine Br.mk ?_ ?_ <;> intro h) | (refine BrN.mk (fun h => ?_) ?_) | (refine AltVC.mk ?_ ?_)
                                    refine loopK.fold 5 2 a 0 true ?_
                                    repeat' first | ((first | refine Br.dec ?_ ?_ | refine Br.eqi ?_ ?_) <;> intro h <;> try (exfalso; omega)) | (simp (disch := first | omega | (simp only [vlen]; first | done | omega)) only [hN, vbg, ↓vAq, vBq, ↓reduceIte, Nat.reduceBEq, Nat.reduceEqDiff, Nat.reduceLT, Nat.reduceLeDiff, Nat.reduceAdd, Nat.reduceMul, Nat.reduceSub, reduceCtorEq, Int.reduceToNat]) | (refine Br.mk ?_ ?_ <;> intro h) | (refine BrN.mk (fun h => ?_) ?_) | (refine AltVC.mk ?_ ?_)
                                    refine Chk.mk ⟨Nat.le_refl _, tabD_all fun j hj => by (repeat' split) <;> first | rfl | exact clo'_nl⟩ ?_
                                    refine loopK.mk (updR R5 a i, true, j + 1) (by simp (disch := first | omega | (simp only [vlen]; first | done | omega)) only [vbg, ↓vAq, vBq, ↓reduceIte, Nat.reduceBEq, Nat.reduceEqDiff, Nat.reduceLT, Nat.reduceLeDiff, Nat.reduceAdd, Nat.reduceMul, Nat.reduceSub, reduceCtorEq, Int.reduceToNat]) ⟨(hyes hhit).1, (hyes hhit).2.1, (hyes hhit).2.2, fun h => (by cases h)⟩ (by show w.length + 1 - (j + 1) < w.length + 1 - j; omega) ?_
                                    (simp (disch := first | omega | (simp only [vlen]; first | done | omega)) only [Fits_u, Fits_m, Fits_nil, List.length_append, hN, vbg, ↓vAq, vBq, ↓reduceIte, Nat.reduceBEq, Nat.reduceEqDiff, Nat.reduceLT, Nat.reduceLeDiff, Nat.reduceAdd, Nat.reduceMul, Nat.reduceSub, reduceCtorEq, Int.reduceToNat] <;> (repeat' first | rfl | apply And.intro))
                                    refine obTabW (fun b hb => ?_) rfl
                                    by_cases e : b = a
                                    · subst e; rw [if_pos rfl, rwU]
                                    · rw [if_neg e, rwO e]
                                  · rw [decide_eq_false hjn, Bool.false_or] at hE5
                                    by_cases hxk : x < g.k
                                    · rw [if_pos hxk] at hE5
                                      by_cases hs : j + 1 = w.length ∧ w.getD j 0 = x
                                      · have hhit : hitE (kpG g) w T R5 q k i j = true := by rw [hE5]; exact decide_eq_true hs
                                        have hs2 := hs.2
                                        repeat' first | ((first | refine Br.dec ?_ ?_ | refine Br.eqi ?_ ?_) <;> intro h <;> try (exfalso; omega)) | (simp (disch := first | omega | (simp only [vlen]; first | done | omega)) only [hN, hx, vbg, ↓vAq, vBq, ↓reduceIte, Nat.reduceBEq, Nat.reduceEqDiff, Nat.reduceLT, Nat.reduceLeDiff, Nat.reduceAdd, Nat.reduceMul, Nat.reduceSub, reduceCtorEq, Int.reduceToNat]) | (refine Br.mk ?_ ?_ <;> intro h) | (refine BrN.mk (fun h => ?_) ?_) | (refine AltVC.mk ?_ ?_)
                                        refine CallVC.eq hov ?_
                                        repeat' first | ((first | refine Br.dec ?_ ?_ | refine Br.eqi ?_ ?_) <;> intro h <;> try (exfalso; omega)) | (simp (disch := first | omega | (simp only [vlen]; first | done | omega)) only [hN, hx, hs2, vbg, ↓vAq, vBq, ↓reduceIte, Nat.reduceBEq, Nat.reduceEqDiff, Nat.reduceLT, Nat.reduceLeDiff, Nat.reduceAdd, Nat.reduceMul, Nat.reduceSub, reduceCtorEq, Int.reduceToNat]) | (refine Br.mk ?_ ?_ <;> intro h) | (refine BrN.mk (fun h => ?_) ?_) | (refine AltVC.mk ?_ ?_)
                                        all_goals first
                                          | (exfalso; omega)
                                          | skip
                                        refine loopK.fold 5 2 a 0 true ?_
                                        repeat' first | ((first | refine Br.dec ?_ ?_ | refine Br.eqi ?_ ?_) <;> intro h <;> try (exfalso; omega)) | (simp (disch := first | omega | (simp only [vlen]; first | done | omega)) only [hN, vbg, ↓vAq, vBq, ↓reduceIte, Nat.reduceBEq, Nat.reduceEqDiff, Nat.reduceLT, Nat.reduceLeDiff, Nat.reduceAdd, Nat.reduceMul, Nat.reduceSub, reduceCtorEq, Int.reduceToNat]) | (refine Br.mk ?_ ?_ <;> intro h) | (refine BrN.mk (fun h => ?_) ?_) | (refine AltVC.mk ?_ ?_)
                                        refine Chk.mk ⟨Nat.le_refl _, tabD_all fun j hj => by (repeat' split) <;> first | rfl | exact clo'_nl⟩ ?_
                                        refine loopK.mk (updR R5 a i, true, j + 1) (by simp (disch := first | omega | (simp only [vlen]; first | done | omega)) only [vbg, ↓vAq, vBq, ↓reduceIte, Nat.reduceBEq, Nat.reduceEqDiff, Nat.reduceLT, Nat.reduceLeDiff, Nat.reduceAdd, Nat.reduceMul, Nat.reduceSub, reduceCtorEq, Int.reduceToNat]) ⟨(hyes hhit).1, (hyes hhit).2.1, (hyes hhit).2.2, fun h => (by cases h)⟩ (by show w.length + 1 - (j + 1) < w.length + 1 - j; omega) ?_
                                        (simp (disch := first | omega | (simp only [vlen]; first | done | omega)) only [Fits_u, Fits_m, Fits_nil, List.length_append, hN, vbg, ↓vAq, vBq, ↓reduceIte, Nat.reduceBEq, Nat.reduceEqDiff, Nat.reduceLT, Nat.reduceLeDiff, Nat.reduceAdd, Nat.reduceMul, Nat.reduceSub, reduceCtorEq, Int.reduceToNat] <;> (repeat' first | rfl | apply And.intro))
                                        refine obTabW (fun b hb => ?_) rfl
                                        by_cases e : b = a
                                        · subst e; rw [if_pos rfl, rwU]
                                        · rw [if_neg e, rwO e]
                                      · have hmiss : hitE (kpG g) w T R5 q k i j = false := by rw [hE5]; exact decide_eq_false hs
                                        repeat' first | ((first | refine Br.dec ?_ ?_ | refine Br.eqi ?_ ?_) <;> intro h <;> try (exfalso; omega)) | (simp (disch := first | omega | (simp only [vlen]; first | done | omega)) only [hN, hx, vbg, ↓vAq, vBq, ↓reduceIte, Nat.reduceBEq, Nat.reduceEqDiff, Nat.reduceLT, Nat.reduceLeDiff, Nat.reduceAdd, Nat.reduceMul, Nat.reduceSub, reduceCtorEq, Int.reduceToNat]) | (refine Br.mk ?_ ?_ <;> intro h) | (refine BrN.mk (fun h => ?_) ?_) | (refine AltVC.mk ?_ ?_)
                                        refine CallVC.eq hov ?_
                                        repeat' first | ((first | refine Br.dec ?_ ?_ | refine Br.eqi ?_ ?_) <;> intro h <;> try (exfalso; omega)) | (simp (disch := first | omega | (simp only [vlen]; first | done | omega)) only [hN, hx, vbg, ↓vAq, vBq, ↓reduceIte, Nat.reduceBEq, Nat.reduceEqDiff, Nat.reduceLT, Nat.reduceLeDiff, Nat.reduceAdd, Nat.reduceMul, Nat.reduceSub, reduceCtorEq, Int.reduceToNat]) | (refine Br.mk ?_ ?_ <;> intro h) | (refine BrN.mk (fun h => ?_) ?_) | (refine AltVC.mk ?_ ?_)
                                        all_goals first
                                          | (exfalso; exact hs ⟨by omega, by assumption⟩)
                                          | skip
                                        all_goals
                                          refine loopK.mk (R5, m5, j + 1) (by simp (disch := first | omega | (simp only [vlen]; first | done | omega)) only [vbg, ↓vAq, vBq, ↓reduceIte, Nat.reduceBEq, Nat.reduceEqDiff, Nat.reduceLT, Nat.reduceLeDiff, Nat.reduceAdd, Nat.reduceMul, Nat.reduceSub, reduceCtorEq, Int.reduceToNat]) (hno hmiss m5 rfl) (by show w.length + 1 - (j + 1) < w.length + 1 - j; omega) ?_
                                          (simp (disch := first | omega | (simp only [vlen]; first | done | omega)) only [Fits_u, Fits_m, Fits_nil, List.length_append, hN, vbg, ↓vAq, vBq, ↓reduceIte, Nat.reduceBEq, Nat.reduceEqDiff, Nat.reduceLT, Nat.reduceLeDiff, Nat.reduceAdd, Nat.reduceMul, Nat.reduceSub, reduceCtorEq, Int.reduceToNat] <;> (repeat' first | rfl | apply And.intro))
                                    · rw [if_neg hxk] at hE5
                                      obtain ⟨y, hy⟩ : ∃ y : Nat, x - g.k = y := ⟨(x - g.k).toNat, by omega⟩
                                      rw [hy, Int.toNat_natCast] at hE5
                                      have hby := @tbb_len (w.length + 1) (fun i => R5 y i)
                                      have hba := @tbb_len (w.length + 1) (fun i => R5 a i)
                                      cases hRy : R5 y j with
                                      | true =>
                                        rw [hRy] at hE5
                                        have hhit := hE5
                                        by_cases hya : y = a
                                        · subst hya
                                          repeat' first | ((first | refine Br.dec ?_ ?_ | refine Br.eqi ?_ ?_) <;> intro h <;> try (exfalso; omega)) | (simp (disch := first | omega | (simp only [vlen]; first | done | omega)) only [hN, hx, vbg, ↓vAq, vBq, ↓reduceIte, Nat.reduceBEq, Nat.reduceEqDiff, Nat.reduceLT, Nat.reduceLeDiff, Nat.reduceAdd, Nat.reduceMul, Nat.reduceSub, reduceCtorEq, Int.reduceToNat]) | (refine Br.mk ?_ ?_ <;> intro h) | (refine BrN.mk (fun h => ?_) ?_) | (refine AltVC.mk ?_ ?_)
                                          refine CallVC.eq hov ?_
                                          repeat' first | ((first | refine Br.dec ?_ ?_ | refine Br.eqi ?_ ?_) <;> intro h <;> try (exfalso; omega)) | (simp (disch := first | omega | (simp only [vlen]; first | done | omega)) only [hN, hx, hy, hRy, vbg, ↓vAq, vBq, ↓reduceIte, Nat.reduceBEq, Nat.reduceEqDiff, Nat.reduceLT, Nat.reduceLeDiff, Nat.reduceAdd, Nat.reduceMul, Nat.reduceSub, reduceCtorEq, Int.reduceToNat]) | (refine Br.mk ?_ ?_ <;> intro h) | (refine BrN.mk (fun h => ?_) ?_) | (refine AltVC.mk ?_ ?_)
                                          refine loopK.fold 5 2 y 0 true ?_
                                          repeat' first | ((first | refine Br.dec ?_ ?_ | refine Br.eqi ?_ ?_) <;> intro h <;> try (exfalso; omega)) | (simp (disch := first | omega | (simp only [vlen]; first | done | omega)) only [hN, vbg, ↓vAq, vBq, ↓reduceIte, Nat.reduceBEq, Nat.reduceEqDiff, Nat.reduceLT, Nat.reduceLeDiff, Nat.reduceAdd, Nat.reduceMul, Nat.reduceSub, reduceCtorEq, Int.reduceToNat]) | (refine Br.mk ?_ ?_ <;> intro h) | (refine BrN.mk (fun h => ?_) ?_) | (refine AltVC.mk ?_ ?_)
                                          refine Chk.mk ⟨Nat.le_refl _, tabD_all fun j hj => by (repeat' split) <;> first | rfl | exact clo'_nl⟩ ?_
                                          refine loopK.mk (updR R5 y i, true, j + 1) (by simp (disch := first | omega | (simp only [vlen]; first | done | omega)) only [vbg, ↓vAq, vBq, ↓reduceIte, Nat.reduceBEq, Nat.reduceEqDiff, Nat.reduceLT, Nat.reduceLeDiff, Nat.reduceAdd, Nat.reduceMul, Nat.reduceSub, reduceCtorEq, Int.reduceToNat]) ⟨(hyes hhit).1, (hyes hhit).2.1, (hyes hhit).2.2, fun h => (by cases h)⟩ (by show w.length + 1 - (j + 1) < w.length + 1 - j; omega) ?_
                                          (simp (disch := first | omega | (simp only [vlen]; first | done | omega)) only [Fits_u, Fits_m, Fits_nil, List.length_append, hN, vbg, ↓vAq, vBq, ↓reduceIte, Nat.reduceBEq, Nat.reduceEqDiff, Nat.reduceLT, Nat.reduceLeDiff, Nat.reduceAdd, Nat.reduceMul, Nat.reduceSub, reduceCtorEq, Int.reduceToNat] <;> (repeat' first | rfl | apply And.intro))
                                          refine obTabW (fun b hb => ?_) rfl
                                          by_cases e : b = y
                                          · subst e; rw [if_pos rfl, rwU]
                                          · rw [if_neg e, rwO e]
                                        · have hay : ¬ a = y := fun e => hya e.symm
                                          repeat' first | ((first | refine Br.dec ?_ ?_ | refine Br.eqi ?_ ?_) <;> intro h <;> try (exfalso; omega)) | (simp (disch := first | omega | (simp only [vlen]; first | done | omega)) only [hN, hx, vbg, ↓vAq, vBq, ↓reduceIte, Nat.reduceBEq, Nat.reduceEqDiff, Nat.reduceLT, Nat.reduceLeDiff, Nat.reduceAdd, Nat.reduceMul, Nat.reduceSub, reduceCtorEq, Int.reduceToNat]) | (refine Br.mk ?_ ?_ <;> intro h) | (refine BrN.mk (fun h => ?_) ?_) | (refine AltVC.mk ?_ ?_)
                                          refine CallVC.eq hov ?_
                                          repeat' first | ((first | refine Br.dec ?_ ?_ | refine Br.eqi ?_ ?_) <;> intro h <;> try (exfalso; omega)) | (simp (disch := first | omega | (simp only [vlen]; first | done | omega)) only [hN, hx, hy, hRy, hya, hay, vbg, ↓vAq, vBq, ↓reduceIte, Nat.reduceBEq, Nat.reduceEqDiff, Nat.reduceLT, Nat.reduceLeDiff, Nat.reduceAdd, Nat.reduceMul, Nat.reduceSub, reduceCtorEq, Int.reduceToNat]) | (refine Br.mk ?_ ?_ <;> intro h) | (refine BrN.mk (fun h => ?_) ?_) | (refine AltVC.mk ?_ ?_)
                                          refine loopK.fold 5 2 y 0 false ?_
                                          repeat' first | ((first | refine Br.dec ?_ ?_ | refine Br.eqi ?_ ?_) <;> intro h <;> try (exfalso; omega)) | (simp (disch := first | omega | (simp only [vlen]; first | done | omega)) only [hN, hya, hay, vbg, ↓vAq, vBq, ↓reduceIte, Nat.reduceBEq, Nat.reduceEqDiff, Nat.reduceLT, Nat.reduceLeDiff, Nat.reduceAdd, Nat.reduceMul, Nat.reduceSub, reduceCtorEq, Int.reduceToNat]) | (refine Br.mk ?_ ?_ <;> intro h) | (refine BrN.mk (fun h => ?_) ?_) | (refine AltVC.mk ?_ ?_)
                                          refine loopK.fold 6 2 a 0 true ?_
                                          repeat' first | ((first | refine Br.dec ?_ ?_ | refine Br.eqi ?_ ?_) <;> intro h <;> try (exfalso; omega)) | (simp (disch := first | omega | (simp only [vlen]; first | done | omega)) only [hN, hya, hay, vbg, ↓vAq, vBq, ↓reduceIte, Nat.reduceBEq, Nat.reduceEqDiff, Nat.reduceLT, Nat.reduceLeDiff, Nat.reduceAdd, Nat.reduceMul, Nat.reduceSub, reduceCtorEq, Int.reduceToNat]) | (refine Br.mk ?_ ?_ <;> intro h) | (refine BrN.mk (fun h => ?_) ?_) | (refine AltVC.mk ?_ ?_)
                                          refine Chk.mk ⟨Nat.le_refl _, tabD_all fun j hj => by (repeat' split) <;> first | rfl | exact clo'_nl⟩ ?_
                                          refine loopK.mk (updR R5 a i, true, j + 1) (by simp (disch := first | omega | (simp only [vlen]; first | done | omega)) only [vbg, ↓vAq, vBq, ↓reduceIte, Nat.reduceBEq, Nat.reduceEqDiff, Nat.reduceLT, Nat.reduceLeDiff, Nat.reduceAdd, Nat.reduceMul, Nat.reduceSub, reduceCtorEq, Int.reduceToNat]) ⟨(hyes hhit).1, (hyes hhit).2.1, (hyes hhit).2.2, fun h => (by cases h)⟩ (by show w.length + 1 - (j + 1) < w.length + 1 - j; omega) ?_
                                          (simp (disch := first | omega | (simp only [vlen]; first | done | omega)) only [Fits_u, Fits_m, Fits_nil, List.length_append, hN, vbg, ↓vAq, vBq, ↓reduceIte, Nat.reduceBEq, Nat.reduceEqDiff, Nat.reduceLT, Nat.reduceLeDiff, Nat.reduceAdd, Nat.reduceMul, Nat.reduceSub, reduceCtorEq, Int.reduceToNat] <;> (repeat' first | rfl | apply And.intro))
                                          refine obTabW (fun b hb => ?_) rfl
                                          by_cases e : b = a
                                          · subst e; rw [if_pos rfl, rwU]
                                          · rw [if_neg e, rwO e]
                                            by_cases e2 : b = y
                                            · subst e2; rw [if_pos rfl, rwR_eq]
                                            · rw [if_neg e2]
                                      | false =>
                                        rw [hRy] at hE5
                                        have hmiss := hE5
                                        repeat' first | ((first | refine Br.dec ?_ ?_ | refine Br.eqi ?_ ?_) <;> intro h <;> try (exfalso; omega)) | (simp (disch := first | omega | (simp only [vlen]; first | done | omega)) only [hN, hx, vbg, ↓vAq, vBq, ↓reduceIte, Nat.reduceBEq, Nat.reduceEqDiff, Nat.reduceLT, Nat.reduceLeDiff, Nat.reduceAdd, Nat.reduceMul, Nat.reduceSub, reduceCtorEq, Int.reduceToNat]) | (refine Br.mk ?_ ?_ <;> intro h) | (refine BrN.mk (fun h => ?_) ?_) | (refine AltVC.mk ?_ ?_)
                                        refine CallVC.eq hov ?_
                                        repeat' first | ((first | refine Br.dec ?_ ?_ | refine Br.eqi ?_ ?_) <;> intro h <;> try (exfalso; omega)) | (simp (disch := first | omega | (simp only [vlen]; first | done | omega)) only [hN, hx, hy, hRy, vbg, ↓vAq, vBq, ↓reduceIte, Nat.reduceBEq, Nat.reduceEqDiff, Nat.reduceLT, Nat.reduceLeDiff, Nat.reduceAdd, Nat.reduceMul, Nat.reduceSub, reduceCtorEq, Int.reduceToNat]) | (refine Br.mk ?_ ?_ <;> intro h) | (refine BrN.mk (fun h => ?_) ?_) | (refine AltVC.mk ?_ ?_)
                                        refine loopK.fold 5 2 y 0 true ?_
                                        repeat' first | ((first | refine Br.dec ?_ ?_ | refine Br.eqi ?_ ?_) <;> intro h <;> try (exfalso; omega)) | (simp (disch := first | omega | (simp only [vlen]; first | done | omega)) only [hN, vbg, ↓vAq, vBq, ↓reduceIte, Nat.reduceBEq, Nat.reduceEqDiff, Nat.reduceLT, Nat.reduceLeDiff, Nat.reduceAdd, Nat.reduceMul, Nat.reduceSub, reduceCtorEq, Int.reduceToNat]) | (refine Br.mk ?_ ?_ <;> intro h) | (refine BrN.mk (fun h => ?_) ?_) | (refine AltVC.mk ?_ ?_)
                                        refine Chk.mk ⟨Nat.le_refl _, tabD_all fun j hj => by (repeat' split) <;> first | rfl | exact clo'_nl⟩ ?_
                                        refine loopK.mk (R5, m5, j + 1) (by simp (disch := first | omega | (simp only [vlen]; first | done | omega)) only [vbg, ↓vAq, vBq, ↓reduceIte, Nat.reduceBEq, Nat.reduceEqDiff, Nat.reduceLT, Nat.reduceLeDiff, Nat.reduceAdd, Nat.reduceMul, Nat.reduceSub, reduceCtorEq, Int.reduceToNat]) (hno hmiss m5 rfl) (by show w.length + 1 - (j + 1) < w.length + 1 - j; omega) ?_
                                        (simp (disch := first | omega | (simp only [vlen]; first | done | omega)) only [Fits_u, Fits_m, Fits_nil, List.length_append, hN, vbg, ↓vAq, vBq, ↓reduceIte, Nat.reduceBEq, Nat.reduceEqDiff, Nat.reduceLT, Nat.reduceLeDiff, Nat.reduceAdd, Nat.reduceMul, Nat.reduceSub, reduceCtorEq, Int.reduceToNat] <;> (repeat' first | rfl | apply And.intro))
                                        refine obTabW (fun b hb => ?_) rfl
                                        by_cases e : b = y
                                        · subst e; rw [if_pos rfl, rwR_eq]
                                        · rw [if_neg e]
                              · repeat' first | ((first | refine Br.dec ?_ ?_ | refine Br.eqi ?_ ?_) <;> intro h <;> try (exfalso; omega)) | (simp (disch := first | omega | (simp only [vlen]; first | done | omega)) only [hN, hx, vbg, ↓vAq, vBq, ↓reduceIte, Nat.reduceBEq, Nat.reduceEqDiff, Nat.reduceLT, Nat.reduceLeDiff, Nat.reduceAdd, Nat.reduceMul, Nat.reduceSub, reduceCtorEq, Int.reduceToNat]) | (refine Br.mk ?_ ?_ <;> intro h) | (refine BrN.mk (fun h => ?_) ?_) | (refine AltVC.mk ?_ ?_)
                                refine loopK.mk (R5, m5, k + 1) (by simp (disch := first | omega | (simp only [vlen]; first | done | omega)) only [vbg, ↓vAq, vBq, ↓reduceIte, Nat.reduceBEq, Nat.reduceEqDiff, Nat.reduceLT, Nat.reduceLeDiff, Nat.reduceAdd, Nat.reduceMul, Nat.reduceSub, reduceCtorEq, Int.reduceToNat]) ⟨u1, by show k + 1 ≤ ri.length; omega, u3, fun h => ⟨(u4 h).1.1, fun k' j' h1 h2 h3 => by
                                  by_cases e : k' = k
                                  · subst e; exact (u4 h).2 j' h2 (by omega)
                                  · exact (u4 h).1.2 k' j' (by simp only at h1; omega) h2 h3⟩⟩ (by show ri.length - (k + 1) < ri.length - k; omega) ?_
                                (simp (disch := first | omega | (simp only [vlen]; first | done | omega)) only [Fits_u, Fits_m, Fits_nil, List.length_append, hN, vbg, ↓vAq, vBq, ↓reduceIte, Nat.reduceBEq, Nat.reduceEqDiff, Nat.reduceLT, Nat.reduceLeDiff, Nat.reduceAdd, Nat.reduceMul, Nat.reduceSub, reduceCtorEq, Int.reduceToNat] <;> (repeat' first | rfl | apply And.intro))
                          · have hov := hovr ri hlong hright i w.length (by omega) (Nat.le_refl _)
                            have hke : k = ri.length := by omega
                            have hcl : ∀ (R : Nat → Nat → Bool), R a i = true → CLR (kpG g) w T R q i := fun R h _ _ => by rw [hlq, Int.toNat_natCast]; exact h
                            have hnew : ∀ m : Bool, (m = false → (((∀ q' i, q' < q → CLR (kpG g) w T R4 q' i) ∧ ∀ i', i' < i → CLR (kpG g) w T R4 q i') ∧ CLR (kpG g) w T R4 q i)) → (m = false → (∀ q' i, q' < q → CLR (kpG g) w T R4 q' i) ∧ ∀ i', i' < i + 1 → CLR (kpG g) w T R4 q i') := fun m h hm => ⟨(h hm).1.1, fun i' hi' => by
                              by_cases e : i' = i
                              · subst e; exact (h hm).2
                              · exact (h hm).1.2 i' (by omega)⟩
                            cases hov2 : ovB (kpG g) w T ri i w.length with
                            | false =>
                              rw [hov2] at hov
                              repeat' first | ((first | refine Br.dec ?_ ?_ | refine Br.eqi ?_ ?_) <;> intro h <;> try (exfalso; omega)) | (simp (disch := first | omega | (simp only [vlen]; first | done | omega)) only [hN, vbg, ↓vAq, vBq, ↓reduceIte, Nat.reduceBEq, Nat.reduceEqDiff, Nat.reduceLT, Nat.reduceLeDiff, Nat.reduceAdd, Nat.reduceMul, Nat.reduceSub, reduceCtorEq, Int.reduceToNat]) | (refine Br.mk ?_ ?_ <;> intro h) | (refine BrN.mk (fun h => ?_) ?_) | (refine AltVC.mk ?_ ?_)
                              refine CallVC.eq hov ?_
                              repeat' first | ((first | refine Br.dec ?_ ?_ | refine Br.eqi ?_ ?_) <;> intro h <;> try (exfalso; omega)) | (simp (disch := first | omega | (simp only [vlen]; first | done | omega)) only [hN, vbg, ↓vAq, vBq, ↓reduceIte, Nat.reduceBEq, Nat.reduceEqDiff, Nat.reduceLT, Nat.reduceLeDiff, Nat.reduceAdd, Nat.reduceMul, Nat.reduceSub, reduceCtorEq, Int.reduceToNat]) | (refine Br.mk ?_ ?_ <;> intro h) | (refine BrN.mk (fun h => ?_) ?_) | (refine AltVC.mk ?_ ?_)
                              refine loopK.mk (R4, m4, i + 1) (by simp (disch := first | omega | (simp only [vlen]; first | done | omega)) only [vbg, ↓vAq, vBq, ↓reduceIte, Nat.reduceBEq, Nat.reduceEqDiff, Nat.reduceLT, Nat.reduceLeDiff, Nat.reduceAdd, Nat.reduceMul, Nat.reduceSub, reduceCtorEq, Int.reduceToNat]) ⟨p1, by show i + 1 ≤ w.length; omega, hnew m4 fun hm => ⟨(p4 hm).1, fun _ hc => by
                                rcases hc with ⟨k', j', c1, c2, c3, c4⟩ | hc
                                · rw [hrq] at c1
                                  rw [(p4 hm).2 k' j' (by omega) c2 c3] at c4; cases c4
                                · rw [hrq, hov2] at hc; cases hc⟩⟩ (by show w.length - (i + 1) < w.length - i; omega) ?_
                              (simp (disch := first | omega | (simp only [vlen]; first | done | omega)) only [Fits_u, Fits_m, Fits_nil, List.length_append, hN, vbg, ↓vAq, vBq, ↓reduceIte, Nat.reduceBEq, Nat.reduceEqDiff, Nat.reduceLT, Nat.reduceLeDiff, Nat.reduceAdd, Nat.reduceMul, Nat.reduceSub, reduceCtorEq, Int.reduceToNat] <;> (repeat' first | rfl | apply And.intro))
                            | true =>
                              rw [hov2] at hov
                              cases hR4 : R4 a i with
                              | true =>
                                repeat' first | ((first | refine Br.dec ?_ ?_ | refine Br.eqi ?_ ?_) <;> intro h <;> try (exfalso; omega)) | (simp (disch := first | omega | (simp only [vlen]; first | done | omega)) only [hN, vbg, ↓vAq, vBq, ↓reduceIte, Nat.reduceBEq, Nat.reduceEqDiff, Nat.reduceLT, Nat.reduceLeDiff, Nat.reduceAdd, Nat.reduceMul, Nat.reduceSub, reduceCtorEq, Int.reduceToNat]) | (refine Br.mk ?_ ?_ <;> intro h) | (refine BrN.mk (fun h => ?_) ?_) | (refine AltVC.mk ?_ ?_)
                                refine CallVC.eq hov ?_
                                repeat' first | ((first | refine Br.dec ?_ ?_ | refine Br.eqi ?_ ?_) <;> intro h <;> try (exfalso; omega)) | (simp (disch := first | omega | (simp only [vlen]; first | done | omega)) only [hN, hR4, vbg, ↓vAq, vBq, ↓reduceIte, Nat.reduceBEq, Nat.reduceEqDiff, Nat.reduceLT, Nat.reduceLeDiff, Nat.reduceAdd, Nat.reduceMul, Nat.reduceSub, reduceCtorEq, Int.reduceToNat]) | (refine Br.mk ?_ ?_ <;> intro h) | (refine BrN.mk (fun h => ?_) ?_) | (refine AltVC.mk ?_ ?_)
                                refine loopK.fold 5 2 a 0 true ?_
                                repeat' first | ((first | refine Br.dec ?_ ?_ | refine Br.eqi ?_ ?_) <;> intro h <;> try (exfalso; omega)) | (simp (disch := first | omega | (simp only [vlen]; first | done | omega)) only [hN, hf4, vbg, ↓vAq, vBq, ↓reduceIte, Nat.reduceBEq, Nat.reduceEqDiff, Nat.reduceLT, Nat.reduceLeDiff, Nat.reduceAdd, Nat.reduceMul, Nat.reduceSub, reduceCtorEq, Int.reduceToNat]) | (refine Br.mk ?_ ?_ <;> intro h) | (refine BrN.mk (fun h => ?_) ?_) | (refine AltVC.mk ?_ ?_)
                                refine Chk.mk ⟨Nat.le_refl _, tabD_all fun j hj => by (repeat' split) <;> first | rfl | exact clo'_nl⟩ ?_
                                refine loopK.mk (R4, m4, i + 1) (by simp (disch := first | omega | (simp only [vlen]; first | done | omega)) only [vbg, ↓vAq, vBq, ↓reduceIte, Nat.reduceBEq, Nat.reduceEqDiff, Nat.reduceLT, Nat.reduceLeDiff, Nat.reduceAdd, Nat.reduceMul, Nat.reduceSub, reduceCtorEq, Int.reduceToNat]) ⟨p1, by show i + 1 ≤ w.length; omega, hnew m4 fun hm => ⟨(p4 hm).1, hcl R4 hR4⟩⟩ (by show w.length - (i + 1) < w.length - i; omega) ?_
                                (simp (disch := first | omega | (simp only [vlen]; first | done | omega)) only [Fits_u, Fits_m, Fits_nil, List.length_append, hN, hf4, vbg, ↓vAq, vBq, ↓reduceIte, Nat.reduceBEq, Nat.reduceEqDiff, Nat.reduceLT, Nat.reduceLeDiff, Nat.reduceAdd, Nat.reduceMul, Nat.reduceSub, reduceCtorEq, Int.reduceToNat] <;> (repeat' first | rfl | apply And.intro))
                              | false =>
                                have hrea : Rea (kpG g) w (mkP g) a i := by
                                  have := Rea.whole (mk := mkP g) hql hil ((hT _ _ _ (by omega)).1 (by rw [hrq]; exact hov2))
                                  rwa [hlq] at this
                                repeat' first | ((first | refine Br.dec ?_ ?_ | refine Br.eqi ?_ ?_) <;> intro h <;> try (exfalso; omega)) | (simp (disch := first | omega | (simp only [vlen]; first | done | omega)) only [hN, vbg, ↓vAq, vBq, ↓reduceIte, Nat.reduceBEq, Nat.reduceEqDiff, Nat.reduceLT, Nat.reduceLeDiff, Nat.reduceAdd, Nat.reduceMul, Nat.reduceSub, reduceCtorEq, Int.reduceToNat]) | (refine Br.mk ?_ ?_ <;> intro h) | (refine BrN.mk (fun h => ?_) ?_) | (refine AltVC.mk ?_ ?_)
                                refine CallVC.eq hov ?_
                                repeat' first | ((first | refine Br.dec ?_ ?_ | refine Br.eqi ?_ ?_) <;> intro h <;> try (exfalso; omega)) | (simp (disch := first | omega | (simp only [vlen]; first | done | omega)) only [hN, hR4, vbg, ↓vAq, vBq, ↓reduceIte, Nat.reduceBEq, Nat.reduceEqDiff, Nat.reduceLT, Nat.reduceLeDiff, Nat.reduceAdd, Nat.reduceMul, Nat.reduceSub, reduceCtorEq, Int.reduceToNat]) | (refine Br.mk ?_ ?_ <;> intro h) | (refine BrN.mk (fun h => ?_) ?_) | (refine AltVC.mk ?_ ?_)
                                refine loopK.fold 5 2 a 0 true ?_
                                repeat' first | ((first | refine Br.dec ?_ ?_ | refine Br.eqi ?_ ?_) <;> intro h <;> try (exfalso; omega)) | (simp (disch := first | omega | (simp only [vlen]; first | done | omega)) only [hN, vbg, ↓vAq, vBq, ↓reduceIte, Nat.reduceBEq, Nat.reduceEqDiff, Nat.reduceLT, Nat.reduceLeDiff, Nat.reduceAdd, Nat.reduceMul, Nat.reduceSub, reduceCtorEq, Int.reduceToNat]) | (refine Br.mk ?_ ?_ <;> intro h) | (refine BrN.mk (fun h => ?_) ?_) | (refine AltVC.mk ?_ ?_)
                                refine Chk.mk ⟨Nat.le_refl _, tabD_all fun j hj => by (repeat' split) <;> first | rfl | exact clo'_nl⟩ ?_
                                refine loopK.mk (updR R4 a i, true, i + 1) (by simp (disch := first | omega | (simp only [vlen]; first | done | omega)) only [vbg, ↓vAq, vBq, ↓reduceIte, Nat.reduceBEq, Nat.reduceEqDiff, Nat.reduceLT, Nat.reduceLeDiff, Nat.reduceAdd, Nat.reduceMul, Nat.reduceSub, reduceCtorEq, Int.reduceToNat]) ⟨p1.upd (by omega) (by omega) p3 hrea, by show i + 1 ≤ w.length; omega, fun h => (by cases h)⟩ (by show w.length - (i + 1) < w.length - i; omega) ?_
                                (simp (disch := first | omega | (simp only [vlen]; first | done | omega)) only [Fits_u, Fits_m, Fits_nil, List.length_append, hN, vbg, ↓vAq, vBq, ↓reduceIte, Nat.reduceBEq, Nat.reduceEqDiff, Nat.reduceLT, Nat.reduceLeDiff, Nat.reduceAdd, Nat.reduceMul, Nat.reduceSub, reduceCtorEq, Int.reduceToNat] <;> (repeat' first | rfl | apply And.intro))
                                refine obTabW (fun b hb => ?_) rfl
                                by_cases e : b = a
                                · subst e; rw [if_pos rfl, rwU]
                                · rw [if_neg e, rwO e]
                    · repeat' first | ((first | refine Br.dec ?_ ?_ | refine Br.eqi ?_ ?_) <;> intro h <;> try (exfalso; omega)) | (simp (disch := first | omega | (simp only [vlen]; first | done | omega)) only [hN, vbg, ↓vAq, vBq, ↓reduceIte, Nat.reduceBEq, Nat.reduceEqDiff, Nat.reduceLT, Nat.reduceLeDiff, Nat.reduceAdd, Nat.reduceMul, Nat.reduceSub, reduceCtorEq, Int.reduceToNat]) | (refine Br.mk ?_ ?_ <;> intro h) | (refine BrN.mk (fun h => ?_) ?_) | (refine AltVC.mk ?_ ?_)
                      refine loopK.mk (R3, m3, q + 1) (by simp (disch := first | omega | (simp only [vlen]; first | done | omega)) only [vbg, ↓vAq, vBq, ↓reduceIte, Nat.reduceBEq, Nat.reduceEqDiff, Nat.reduceLT, Nat.reduceLeDiff, Nat.reduceAdd, Nat.reduceMul, Nat.reduceSub, reduceCtorEq, Int.reduceToNat]) ⟨l1, by show q + 1 ≤ (kpG g).rules.length; omega, fun h q' i' hq' => by
                        by_cases e : q' = q
                        · subst e
                          by_cases e2 : i' < w.length
                          · exact (l3 h).2 i' (by omega)
                          · intro h3; omega
                        · exact (l3 h).1 q' i' (by simp only at hq'; omega)⟩ (by show (kpG g).rules.length - (q + 1) < (kpG g).rules.length - q; omega) ?_
                      (simp (disch := first | omega | (simp only [vlen]; first | done | omega)) only [Fits_u, Fits_m, Fits_nil, List.length_append, hN, vbg, ↓vAq, vBq, ↓reduceIte, Nat.reduceBEq, Nat.reduceEqDiff, Nat.reduceLT, Nat.reduceLeDiff, Nat.reduceAdd, Nat.reduceMul, Nat.reduceSub, reduceCtorEq, Int.reduceToNat] <;> (repeat' first | rfl | apply And.intro))
                · have hqe2 : q = (kpG g).rules.length := by omega
                  subst hqe2
                  have hwt := k1.wt
                  repeat' first | ((first | refine Br.dec ?_ ?_ | refine Br.eqi ?_ ?_) <;> intro h <;> try (exfalso; omega)) | (simp (disch := first | omega | (simp only [vlen]; first | done | omega)) only [hN, vbg, ↓vAq, vBq, ↓reduceIte, Nat.reduceBEq, Nat.reduceEqDiff, Nat.reduceLT, Nat.reduceLeDiff, Nat.reduceAdd, Nat.reduceMul, Nat.reduceSub, reduceCtorEq, Int.reduceToNat]) | (refine Br.mk ?_ ?_ <;> intro h) | (refine BrN.mk (fun h => ?_) ?_) | (refine AltVC.mk ?_ ?_)
                  refine loopK.mk (R2, m2) (by simp (disch := first | omega | (simp only [vlen]; first | done | omega)) only [vbg, ↓vAq, vBq, ↓reduceIte, Nat.reduceBEq, Nat.reduceEqDiff, Nat.reduceLT, Nat.reduceLeDiff, Nat.reduceAdd, Nat.reduceMul, Nat.reduceSub, reduceCtorEq, Int.reduceToNat]) ⟨k1.snd, k1.ini, fun h q' i' hq' => k3 h q' i' hq'⟩ ?_ ?_
                  · cases m2 with
                    | false => simp; omega
                    | true =>
                      simp only [if_true] at hwt ⊢
                      omega
                  (simp (disch := first | omega | (simp only [vlen]; first | done | omega)) only [Fits_u, Fits_m, Fits_nil, List.length_append, hN, vbg, ↓vAq, vBq, ↓reduceIte, Nat.reduceBEq, Nat.reduceEqDiff, Nat.reduceLT, Nat.reduceLeDiff, Nat.reduceAdd, Nat.reduceMul, Nat.reduceSub, reduceCtorEq, Int.reduceToNat] <;> (repeat' first | rfl | apply And.intro))
end Go.Proofs.Ytplkkacfjepgpaa
