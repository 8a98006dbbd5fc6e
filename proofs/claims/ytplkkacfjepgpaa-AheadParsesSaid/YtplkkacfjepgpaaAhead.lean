/-
  ahead: the sets of a grammar; with which symbols signs begin.
-/
import Derived.Test.YtplkkacfjepgpaaBackw
import Derived.Test.YtplkkacfjepgpaaComes
import Derived.Test.YtplkkacfjepgpaaLend
set_option linter.unusedVariables false
set_option linter.unusedSimpArgs false
set_option linter.unnecessarySimpa false
namespace Go.Proofs.Ytplkkacfjepgpaa
open Go.Dm
set_option linter.defProp false
def wD (n : Nat) : List D := [.v (.int .u32 (n : Int))]
theorem wD_eq {n : Nat} : wD n = [.v (.int .u32 (n : Int))] := (rfl)
theorem wD_set {l : List Nat} {i n : Nat} : (tbl wD l).set i [.v (.int .u32 (n : Int))] = tbl wD (l.set i n) := by simp [tbl, wD, List.map_set]
theorem wD_rep {n : Nat} : List.replicate n [D.v (.int .u32 0)] = tbl wD (List.replicate n 0) := by simp [tbl, wD]
def setsD (g : Grammar) (F W : List Nat) (N : Nat) : List D := [iv .i64 g.k, iv .i64 g.n, iv .i64 g.start, .sl 2 (tbl rulD g.rules), .sl 1 (tbl wD F), .sl 1 (tbl wD W), iv .u32 N]
def setsR (g : Grammar) (a b na nb : Nat) (N : Nat) : List D := [iv .i64 g.k, iv .i64 g.n, iv .i64 g.start, .sl 2 (tbl rulD g.rules), .ref a 1 0 na, .ref b 1 0 nb, iv .u32 N]
theorem setsR_eq {g : Grammar} {a b na nb N : Nat} : setsR g a b na nb N = [iv .i64 g.k, iv .i64 g.n, iv .i64 g.start, .sl 2 (tbl rulD g.rules), .ref a 1 0 na, .ref b 1 0 nb, iv .u32 N] := (rfl)
def vah := And.intro @wD_eq <| And.intro @wD_set @setsR_eq
abbrev aObs (g : Grammar) (F W : List Nat) (N : Nat) : List Ob := [⟨7, [setsR g 1 2 F.length W.length N], false, false, .fix⟩, ⟨1, tbl wD F, true, false, .arr⟩, ⟨1, tbl wD W, true, false, .arr⟩]
def beg (g : Grammar) (F : List Nat) (N : Nat) : List Int → Nat
  | [] => 0
  | x :: l => if x < g.k then 2 ^ x.toNat else F.getD (x - g.k).toNat default ||| (if N.testBit (x - g.k).toNat then beg g F N l else 0)
def emp (g : Grammar) (N : Nat) : List Int → Bool
  | [] => true
  | x :: l => if x < g.k then false else N.testBit (x - g.k).toNat && emp g N l
theorem beg_cons {g : Grammar} {F : List Nat} {N : Nat} {x : Int} {l : List Int} : beg g F N (x :: l) = if x < g.k then 2 ^ x.toNat else F.getD (x - g.k).toNat default ||| (if N.testBit (x - g.k).toNat then beg g F N l else 0) := by rw [beg]
theorem emp_cons {g : Grammar} {N : Nat} {x : Int} {l : List Int} : emp g N (x :: l) = if x < g.k then false else N.testBit (x - g.k).toNat && emp g N l := by rw [emp]
theorem beg_nil {g : Grammar} {F : List Nat} {N : Nat} : beg g F N [] = 0 := by rw [beg]
theorem emp_nil {g : Grammar} {N : Nat} : emp g N [] = true := by rw [emp]
theorem drop_cons {l : List Int} {i : Nat} (h : i < l.length) : l.drop i = l.getD i 0 :: l.drop (i + 1) := by
  rw [List.drop_eq_getElem_cons h]; simp [List.getD, h]
def Sm (m : Nat) (F : List Nat) : Prop := ∀ x, x ∈ F → x < 2 ^ m
theorem Sm.get {m : Nat} {F : List Nat} (h : Sm m F) (i : Nat) : F.getD i default < 2 ^ m := by
  by_cases hi : i < F.length
  · exact h _ (getD_mem' hi)
  · rw [List.getD_eq_getElem?_getD, List.getElem?_eq_none (by omega)]; exact Nat.pow_pos (by omega)
theorem beg_lt {g : Grammar} {F : List Nat} {N m : Nat} (hF : Sm m F) (hm : g.k ≤ m) : ∀ {l : List Int}, (∀ y, y ∈ l → 0 ≤ y) → beg g F N l < 2 ^ m
  | [], _ => Nat.pow_pos (by omega)
  | x :: l, h => by
    have hx := h x (by simp)
    unfold beg
    split
    · exact Nat.pow_lt_pow_right (by omega) (by omega)
    · refine Nat.or_lt_two_pow (hF.get _) ?_
      split
      · exact beg_lt hF hm fun y hy => h y (by simp [hy])
      · exact Nat.pow_pos (by omega)
theorem p16 {x m : Nat} (h : x < 2 ^ m) (hm : m ≤ 4) : (x : Int) ≤ 15 := by
  have : 2 ^ m ≤ 2 ^ 4 := Nat.pow_le_pow_right (by omega) hm
  omega
set_option maxRecDepth 10000 in
set_option maxHeartbeats 4000000 in
theorem begins_spec (g : Grammar) (hv : Valid g) (F W : List Nat) (N : Nat) (hF : Sm 3 F) (hlF : F.length = g.n.toNat) (hN : N < 2 ^ g.n.toNat) (l : List Int) (hl : l.length ≤ 1000) (hs : ∀ y, y ∈ l → 0 ≤ y ∧ y < g.k + g.n) : Dm.Spec Try.prog 70 [.ip (setsD g F W N) 0, .sl 1 (i64s l)] (· = .tu [iv .u32 (beg g F N l), .v (.bool (emp g N l))]) := by
  refine spec_of_vc mixed Try.func70 c70 (by rw [show Try.f70.ntmps = _ from Try.ntmps70]; simp) ?_
  unfold m70 r70
  have hk := hv.k
  have hn := hv.n
  have hp : 2 ^ g.n.toNat ≤ 32 := Nat.le_trans (Nat.pow_le_pow_right (show 0 < 2 by omega) (show g.n.toNat ≤ 5 by omega)) (by decide)
  unfold setsD
  repeat' first | ((first | refine Br.dec ?_ ?_ | refine Br.eqi ?_ ?_) <;> intro h <;> try (exfalso; omega)) | (simp (disch := (first | omega | (simp only [vlen]; first | done | omega))) only [vah, ↓vAq, vBq, ↓reduceIte, Nat.reduceBEq, Nat.reduceEqDiff, Nat.reduceLT, Nat.reduceLeDiff, Nat.reduceAdd, Nat.reduceMul, Nat.reduceSub, reduceCtorEq, Int.reduceToNat]) | (refine Br.mk ?_ ?_ <;> intro h) | (refine BrN.mk (fun h => ?_) ?_) | (refine AltVC.mk ?_ ?_)
  refine LoopVC.mk (X := Nat × Nat) (fun x => [(6, iv .u32 x.1), (11, iv .i64 x.2)]) (fun _ => []) (fun x => l.length - x.2) (fun x => x.2 ≤ l.length ∧ x.1 < 2 ^ 3 ∧ beg g F N l = x.1 ||| beg g F N (l.drop x.2) ∧ emp g N l = emp g N (l.drop x.2)) (0, 0) ⟨by simp, by simp, by simp, by simp⟩ ?_ ?_
  · (simp (disch := (first | omega | (simp only [vlen]; first | done | omega))) only [Fits_u, Fits_m, Fits_nil, List.length_append, ↓vAq, vBq, ↓reduceIte, Nat.reduceBEq, Nat.reduceEqDiff, Nat.reduceLT, Nat.reduceLeDiff, Nat.reduceAdd, Nat.reduceMul, Nat.reduceSub, reduceCtorEq, Int.reduceToNat] <;> (repeat' first | rfl | apply And.intro))
  · rintro ⟨S, i⟩ ⟨h1, h2, h3, h4⟩
    simp only at h1 h2 h3 h4
    have hS := p16 h2 (by omega)
    by_cases hi : i < l.length
    · have hx := hs _ (getD_mem (d := 0) hi)
      rw [drop_cons hi] at h3 h4
      have hxn : 0 ≤ l.getD i 0 - g.k → (l.getD i 0 - g.k).toNat < F.length := fun h => by omega
      have hFx := hF.get (l.getD i 0 - g.k).toNat
      have hF15 := p16 hFx (by omega)
      have hN32 : (N : Int) ≤ 4294967295 := by omega
      have hsp := has_spec N (l.getD i 0 - g.k).toNat hN32 (by omega)
      rw [beg_cons] at h3
      rw [emp_cons] at h4
      repeat' first | ((first | refine Br.dec ?_ ?_ | refine Br.eqi ?_ ?_) <;> intro h <;> try (exfalso; omega)) | (simp (disch := (first | omega | (simp only [vlen]; first | done | omega))) only [vah, ↓vAq, vBq, ↓reduceIte, Nat.reduceBEq, Nat.reduceEqDiff, Nat.reduceLT, Nat.reduceLeDiff, Nat.reduceAdd, Nat.reduceMul, Nat.reduceSub, reduceCtorEq, Int.reduceToNat]) | (refine Br.mk ?_ ?_ <;> intro h) | (refine BrN.mk (fun h => ?_) ?_) | (refine AltVC.mk ?_ ?_)
      · have hpx : 2 ^ (l.getD i 0).toNat < 2 ^ 3 := Nat.pow_lt_pow_right (by omega) (by omega)
        have hp15 := p16 hpx (by omega)
        rw [shlN (by omega), orN (by omega) (by omega)]
        rw [if_pos (by assumption)] at h3 h4
        repeat' first | ((first | refine Br.dec ?_ ?_ | refine Br.eqi ?_ ?_) <;> intro h <;> try (exfalso; omega)) | (simp (disch := (first | omega | (simp only [vlen]; first | done | omega))) only [vah, ↓vAq, vBq, ↓reduceIte, Nat.reduceBEq, Nat.reduceEqDiff, Nat.reduceLT, Nat.reduceLeDiff, Nat.reduceAdd, Nat.reduceMul, Nat.reduceSub, reduceCtorEq, Int.reduceToNat]) | (refine Br.mk ?_ ?_ <;> intro h) | (refine BrN.mk (fun h => ?_) ?_) | (refine AltVC.mk ?_ ?_)
        exact fin_mk (by rw [h3, h4])
      · rw [orN (by omega) (by omega)]
        rw [if_neg (by assumption)] at h3 h4
        rw [Int.toNat_of_nonneg (by omega)] at hsp
        repeat' first | ((first | refine Br.dec ?_ ?_ | refine Br.eqi ?_ ?_) <;> intro h <;> try (exfalso; omega)) | (simp (disch := (first | omega | (simp only [vlen]; first | done | omega))) only [vah, ↓vAq, vBq, ↓reduceIte, Nat.reduceBEq, Nat.reduceEqDiff, Nat.reduceLT, Nat.reduceLeDiff, Nat.reduceAdd, Nat.reduceMul, Nat.reduceSub, reduceCtorEq, Int.reduceToNat]) | (refine Br.mk ?_ ?_ <;> intro h) | (refine BrN.mk (fun h => ?_) ?_) | (refine AltVC.mk ?_ ?_)
        refine CallVC.eq hsp ?_
        repeat' first | ((first | refine Br.dec ?_ ?_ | refine Br.eqi ?_ ?_) <;> intro h <;> try (exfalso; omega)) | (simp (disch := (first | omega | (simp only [vlen]; first | done | omega))) only [vah, ↓vAq, vBq, ↓reduceIte, Nat.reduceBEq, Nat.reduceEqDiff, Nat.reduceLT, Nat.reduceLeDiff, Nat.reduceAdd, Nat.reduceMul, Nat.reduceSub, reduceCtorEq, Int.reduceToNat]) | (refine Br.mk ?_ ?_ <;> intro h) | (refine BrN.mk (fun h => ?_) ?_) | (refine AltVC.mk ?_ ?_)
        · have hb : N.testBit (l.getD i 0 - g.k).toNat = true := by assumption
          rw [hb, if_pos rfl] at h3
          rw [hb, Bool.true_and] at h4
          refine loopK.mk (S ||| F.getD (l.getD i 0 - g.k).toNat default, i + 1) (by simp (disch := (first | omega | (simp only [vlen]; first | done | omega))) only [↓vAq, vBq, ↓reduceIte, Nat.reduceBEq, Nat.reduceEqDiff, Nat.reduceLT, Nat.reduceLeDiff, Nat.reduceAdd, Nat.reduceMul, Nat.reduceSub, reduceCtorEq, Int.reduceToNat]) ⟨by simp only; omega, Nat.or_lt_two_pow h2 hFx, by simp only; rw [h3, Nat.or_assoc], h4⟩ (by simp only; omega) (by (simp (disch := (first | omega | (simp only [vlen]; first | done | omega))) only [Fits_u, Fits_m, Fits_nil, List.length_append, ↓vAq, vBq, ↓reduceIte, Nat.reduceBEq, Nat.reduceEqDiff, Nat.reduceLT, Nat.reduceLeDiff, Nat.reduceAdd, Nat.reduceMul, Nat.reduceSub, reduceCtorEq, Int.reduceToNat] <;> (repeat' first | rfl | apply And.intro)))
        · have hb : N.testBit (l.getD i 0 - g.k).toNat = false := by assumption
          rw [hb, if_neg (by simp), Nat.or_zero] at h3
          rw [hb, Bool.false_and] at h4
          exact fin_mk (by rw [h3, h4])
    · have hd : l.drop i = [] := List.drop_eq_nil_of_le (by omega)
      rw [hd] at h3 h4
      rw [beg_nil] at h3
      rw [emp_nil] at h4
      repeat' first | ((first | refine Br.dec ?_ ?_ | refine Br.eqi ?_ ?_) <;> intro h <;> try (exfalso; omega)) | (simp (disch := (first | omega | (simp only [vlen]; first | done | omega))) only [vah, ↓vAq, vBq, ↓reduceIte, Nat.reduceBEq, Nat.reduceEqDiff, Nat.reduceLT, Nat.reduceLeDiff, Nat.reduceAdd, Nat.reduceMul, Nat.reduceSub, reduceCtorEq, Int.reduceToNat]) | (refine Br.mk ?_ ?_ <;> intro h) | (refine BrN.mk (fun h => ?_) ?_) | (refine AltVC.mk ?_ ?_)
      exact fin_mk (by rw [h3, h4, Nat.or_zero])
set_option maxRecDepth 10000 in
set_option maxHeartbeats 4000000 in
theorem begH_spec (g : Grammar) (hv : Valid g) (F W : List Nat) (N : Nat) (hF : Sm 3 F) (hlF : F.length = g.n.toNat) (hN : N < 2 ^ g.n.toNat) (l : List Int) (hl : l.length ≤ 1000) (hs : ∀ y, y ∈ l → 0 ≤ y ∧ y < g.k + g.n) : Dm.SpecH Try.prog 70 [.ptr 0 7 0 0, .sl 1 (i64s l)] (aObs g F W N) (fun d o => d = .tu [iv .u32 (beg g F N l), .v (.bool (emp g N l))] ∧ o = (aObs g F W N).map some) := by
  refine specH_of_vc mixed Try.func70 c70 (by rw [show Try.f70.ntmps = _ from Try.ntmps70]; simp) ?_
  unfold m70 r70
  have hk := hv.k
  have hn := hv.n
  have hp : 2 ^ g.n.toNat ≤ 32 := Nat.le_trans (Nat.pow_le_pow_right (show 0 < 2 by omega) (show g.n.toNat ≤ 5 by omega)) (by decide)
  unfold aObs setsR
  repeat' first | ((first | refine Br.dec ?_ ?_ | refine Br.eqi ?_ ?_) <;> intro h <;> try (exfalso; omega)) | (simp (disch := (first | omega | (simp only [vlen]; first | done | omega))) only [vah, ↓vAq, vBq, ↓reduceIte, Nat.reduceBEq, Nat.reduceEqDiff, Nat.reduceLT, Nat.reduceLeDiff, Nat.reduceAdd, Nat.reduceMul, Nat.reduceSub, reduceCtorEq, Int.reduceToNat]) | (refine Br.mk ?_ ?_ <;> intro h) | (refine BrN.mk (fun h => ?_) ?_) | (refine AltVC.mk ?_ ?_)
  refine LoopVC.mk (X := Nat × Nat) (fun x => [(6, iv .u32 x.1), (11, iv .i64 x.2)]) (fun _ => [(0, ⟨7, [[iv .i64 g.k, iv .i64 g.n, iv .i64 g.start, .sl 2 (tbl rulD g.rules), .ref 1 1 0 F.length, .ref 2 1 0 W.length, iv .u32 N]], false, false, .fix⟩), (1, ⟨1, tbl wD F, true, false, .arr⟩), (2, ⟨1, tbl wD W, true, false, .arr⟩)]) (fun x => l.length - x.2) (fun x => x.2 ≤ l.length ∧ x.1 < 2 ^ 3 ∧ beg g F N l = x.1 ||| beg g F N (l.drop x.2) ∧ emp g N l = emp g N (l.drop x.2)) (0, 0) ⟨by simp, by simp, by simp, by simp⟩ ?_ ?_
  · (simp (disch := (first | omega | (simp only [vlen]; first | done | omega))) only [Fits_u, Fits_m, Fits_nil, List.length_append, ↓vAq, vBq, ↓reduceIte, Nat.reduceBEq, Nat.reduceEqDiff, Nat.reduceLT, Nat.reduceLeDiff, Nat.reduceAdd, Nat.reduceMul, Nat.reduceSub, reduceCtorEq, Int.reduceToNat] <;> (repeat' first | rfl | apply And.intro))
  · rintro ⟨S, i⟩ ⟨h1, h2, h3, h4⟩
    simp only at h1 h2 h3 h4
    have hS := p16 h2 (by omega)
    by_cases hi : i < l.length
    · have hx := hs _ (getD_mem (d := 0) hi)
      rw [drop_cons hi] at h3 h4
      have hxn : 0 ≤ l.getD i 0 - g.k → (l.getD i 0 - g.k).toNat < F.length := fun h => by omega
      have hFx := hF.get (l.getD i 0 - g.k).toNat
      have hF15 := p16 hFx (by omega)
      have hN32 : (N : Int) ≤ 4294967295 := by omega
      have hsp := has_spec N (l.getD i 0 - g.k).toNat hN32 (by omega)
      rw [beg_cons] at h3
      rw [emp_cons] at h4
      repeat' first | ((first | refine Br.dec ?_ ?_ | refine Br.eqi ?_ ?_) <;> intro h <;> try (exfalso; omega)) | (simp (disch := (first | omega | (simp only [vlen]; first | done | omega))) only [vah, ↓vAq, vBq, ↓reduceIte, Nat.reduceBEq, Nat.reduceEqDiff, Nat.reduceLT, Nat.reduceLeDiff, Nat.reduceAdd, Nat.reduceMul, Nat.reduceSub, reduceCtorEq, Int.reduceToNat]) | (refine Br.mk ?_ ?_ <;> intro h) | (refine BrN.mk (fun h => ?_) ?_) | (refine AltVC.mk ?_ ?_)
      · have hpx : 2 ^ (l.getD i 0).toNat < 2 ^ 3 := Nat.pow_lt_pow_right (by omega) (by omega)
        have hp15 := p16 hpx (by omega)
        rw [shlN (by omega), orN (by omega) (by omega)]
        rw [if_pos (by assumption)] at h3 h4
        repeat' first | ((first | refine Br.dec ?_ ?_ | refine Br.eqi ?_ ?_) <;> intro h <;> try (exfalso; omega)) | (simp (disch := (first | omega | (simp only [vlen]; first | done | omega))) only [vah, ↓vAq, vBq, ↓reduceIte, Nat.reduceBEq, Nat.reduceEqDiff, Nat.reduceLT, Nat.reduceLeDiff, Nat.reduceAdd, Nat.reduceMul, Nat.reduceSub, reduceCtorEq, Int.reduceToNat]) | (refine Br.mk ?_ ?_ <;> intro h) | (refine BrN.mk (fun h => ?_) ?_) | (refine AltVC.mk ?_ ?_)
        exact finH_mk ((aObs g F W N).map some) (by simp) (by repeat' first | ((first | refine Br.dec ?_ ?_ | refine Br.eqi ?_ ?_) <;> intro h <;> try (exfalso; omega)) | (simp (disch := (first | omega | (simp only [vlen]; first | done | omega))) only [vah, ↓vAq, vBq, ↓reduceIte, Nat.reduceBEq, Nat.reduceEqDiff, Nat.reduceLT, Nat.reduceLeDiff, Nat.reduceAdd, Nat.reduceMul, Nat.reduceSub, reduceCtorEq, Int.reduceToNat]) | (refine Br.mk ?_ ?_ <;> intro h) | (refine BrN.mk (fun h => ?_) ?_) | (refine AltVC.mk ?_ ?_)) (by repeat' first | ((first | refine Br.dec ?_ ?_ | refine Br.eqi ?_ ?_) <;> intro h <;> try (exfalso; omega)) | (simp (disch := (first | omega | (simp only [vlen]; first | done | omega))) only [vah, ↓vAq, vBq, ↓reduceIte, Nat.reduceBEq, Nat.reduceEqDiff, Nat.reduceLT, Nat.reduceLeDiff, Nat.reduceAdd, Nat.reduceMul, Nat.reduceSub, reduceCtorEq, Int.reduceToNat]) | (refine Br.mk ?_ ?_ <;> intro h) | (refine BrN.mk (fun h => ?_) ?_) | (refine AltVC.mk ?_ ?_)) ⟨by rw [h3, h4]; repeat' first | ((first | refine Br.dec ?_ ?_ | refine Br.eqi ?_ ?_) <;> intro h <;> try (exfalso; omega)) | (simp (disch := (first | omega | (simp only [vlen]; first | done | omega))) only [vah, ↓vAq, vBq, ↓reduceIte, Nat.reduceBEq, Nat.reduceEqDiff, Nat.reduceLT, Nat.reduceLeDiff, Nat.reduceAdd, Nat.reduceMul, Nat.reduceSub, reduceCtorEq, Int.reduceToNat]) | (refine Br.mk ?_ ?_ <;> intro h) | (refine BrN.mk (fun h => ?_) ?_) | (refine AltVC.mk ?_ ?_), rfl⟩
      · rw [orN (by omega) (by omega)]
        rw [if_neg (by assumption)] at h3 h4
        rw [Int.toNat_of_nonneg (by omega)] at hsp
        repeat' first | ((first | refine Br.dec ?_ ?_ | refine Br.eqi ?_ ?_) <;> intro h <;> try (exfalso; omega)) | (simp (disch := (first | omega | (simp only [vlen]; first | done | omega))) only [vah, ↓vAq, vBq, ↓reduceIte, Nat.reduceBEq, Nat.reduceEqDiff, Nat.reduceLT, Nat.reduceLeDiff, Nat.reduceAdd, Nat.reduceMul, Nat.reduceSub, reduceCtorEq, Int.reduceToNat]) | (refine Br.mk ?_ ?_ <;> intro h) | (refine BrN.mk (fun h => ?_) ?_) | (refine AltVC.mk ?_ ?_)
        refine CallVC.eq hsp ?_
        repeat' first | ((first | refine Br.dec ?_ ?_ | refine Br.eqi ?_ ?_) <;> intro h <;> try (exfalso; omega)) | (simp (disch := (first | omega | (simp only [vlen]; first | done | omega))) only [vah, ↓vAq, vBq, ↓reduceIte, Nat.reduceBEq, Nat.reduceEqDiff, Nat.reduceLT, Nat.reduceLeDiff, Nat.reduceAdd, Nat.reduceMul, Nat.reduceSub, reduceCtorEq, Int.reduceToNat]) | (refine Br.mk ?_ ?_ <;> intro h) | (refine BrN.mk (fun h => ?_) ?_) | (refine AltVC.mk ?_ ?_)
        · have hb : N.testBit (l.getD i 0 - g.k).toNat = true := by assumption
          rw [hb, if_pos rfl] at h3
          rw [hb, Bool.true_and] at h4
          refine loopK.mk (S ||| F.getD (l.getD i 0 - g.k).toNat default, i + 1) (by simp (disch := (first | omega | (simp only [vlen]; first | done | omega))) only [↓vAq, vBq, ↓reduceIte, Nat.reduceBEq, Nat.reduceEqDiff, Nat.reduceLT, Nat.reduceLeDiff, Nat.reduceAdd, Nat.reduceMul, Nat.reduceSub, reduceCtorEq, Int.reduceToNat]) ⟨by simp only; omega, Nat.or_lt_two_pow h2 hFx, by simp only; rw [h3, Nat.or_assoc], h4⟩ (by simp only; omega) (by (simp (disch := (first | omega | (simp only [vlen]; first | done | omega))) only [Fits_u, Fits_m, Fits_nil, List.length_append, ↓vAq, vBq, ↓reduceIte, Nat.reduceBEq, Nat.reduceEqDiff, Nat.reduceLT, Nat.reduceLeDiff, Nat.reduceAdd, Nat.reduceMul, Nat.reduceSub, reduceCtorEq, Int.reduceToNat] <;> (repeat' first | rfl | apply And.intro)))
        · have hb : N.testBit (l.getD i 0 - g.k).toNat = false := by assumption
          rw [hb, if_neg (by simp), Nat.or_zero] at h3
          rw [hb, Bool.false_and] at h4
          exact finH_mk ((aObs g F W N).map some) (by simp) (by repeat' first | ((first | refine Br.dec ?_ ?_ | refine Br.eqi ?_ ?_) <;> intro h <;> try (exfalso; omega)) | (simp (disch := (first | omega | (simp only [vlen]; first | done | omega))) only [vah, ↓vAq, vBq, ↓reduceIte, Nat.reduceBEq, Nat.reduceEqDiff, Nat.reduceLT, Nat.reduceLeDiff, Nat.reduceAdd, Nat.reduceMul, Nat.reduceSub, reduceCtorEq, Int.reduceToNat]) | (refine Br.mk ?_ ?_ <;> intro h) | (refine BrN.mk (fun h => ?_) ?_) | (refine AltVC.mk ?_ ?_)) (by repeat' first | ((first | refine Br.dec ?_ ?_ | refine Br.eqi ?_ ?_) <;> intro h <;> try (exfalso; omega)) | (simp (disch := (first | omega | (simp only [vlen]; first | done | omega))) only [vah, ↓vAq, vBq, ↓reduceIte, Nat.reduceBEq, Nat.reduceEqDiff, Nat.reduceLT, Nat.reduceLeDiff, Nat.reduceAdd, Nat.reduceMul, Nat.reduceSub, reduceCtorEq, Int.reduceToNat]) | (refine Br.mk ?_ ?_ <;> intro h) | (refine BrN.mk (fun h => ?_) ?_) | (refine AltVC.mk ?_ ?_)) ⟨by rw [h3, h4]; repeat' first | ((first | refine Br.dec ?_ ?_ | refine Br.eqi ?_ ?_) <;> intro h <;> try (exfalso; omega)) | (simp (disch := (first | omega | (simp only [vlen]; first | done | omega))) only [vah, ↓vAq, vBq, ↓reduceIte, Nat.reduceBEq, Nat.reduceEqDiff, Nat.reduceLT, Nat.reduceLeDiff, Nat.reduceAdd, Nat.reduceMul, Nat.reduceSub, reduceCtorEq, Int.reduceToNat]) | (refine Br.mk ?_ ?_ <;> intro h) | (refine BrN.mk (fun h => ?_) ?_) | (refine AltVC.mk ?_ ?_), rfl⟩
    · have hd : l.drop i = [] := List.drop_eq_nil_of_le (by omega)
      rw [hd] at h3 h4
      rw [beg_nil] at h3
      rw [emp_nil] at h4
      repeat' first | ((first | refine Br.dec ?_ ?_ | refine Br.eqi ?_ ?_) <;> intro h <;> try (exfalso; omega)) | (simp (disch := (first | omega | (simp only [vlen]; first | done | omega))) only [vah, ↓vAq, vBq, ↓reduceIte, Nat.reduceBEq, Nat.reduceEqDiff, Nat.reduceLT, Nat.reduceLeDiff, Nat.reduceAdd, Nat.reduceMul, Nat.reduceSub, reduceCtorEq, Int.reduceToNat]) | (refine Br.mk ?_ ?_ <;> intro h) | (refine BrN.mk (fun h => ?_) ?_) | (refine AltVC.mk ?_ ?_)
      exact finH_mk ((aObs g F W N).map some) (by simp) (by repeat' first | ((first | refine Br.dec ?_ ?_ | refine Br.eqi ?_ ?_) <;> intro h <;> try (exfalso; omega)) | (simp (disch := (first | omega | (simp only [vlen]; first | done | omega))) only [vah, ↓vAq, vBq, ↓reduceIte, Nat.reduceBEq, Nat.reduceEqDiff, Nat.reduceLT, Nat.reduceLeDiff, Nat.reduceAdd, Nat.reduceMul, Nat.reduceSub, reduceCtorEq, Int.reduceToNat]) | (refine Br.mk ?_ ?_ <;> intro h) | (refine BrN.mk (fun h => ?_) ?_) | (refine AltVC.mk ?_ ?_)) (by repeat' first | ((first | refine Br.dec ?_ ?_ | refine Br.eqi ?_ ?_) <;> intro h <;> try (exfalso; omega)) | (simp (disch := (first | omega | (simp only [vlen]; first | done | omega))) only [vah, ↓vAq, vBq, ↓reduceIte, Nat.reduceBEq, Nat.reduceEqDiff, Nat.reduceLT, Nat.reduceLeDiff, Nat.reduceAdd, Nat.reduceMul, Nat.reduceSub, reduceCtorEq, Int.reduceToNat]) | (refine Br.mk ?_ ?_ <;> intro h) | (refine BrN.mk (fun h => ?_) ?_) | (refine AltVC.mk ?_ ?_)) ⟨by rw [h3, h4, Nat.or_zero]; repeat' first | ((first | refine Br.dec ?_ ?_ | refine Br.eqi ?_ ?_) <;> intro h <;> try (exfalso; omega)) | (simp (disch := (first | omega | (simp only [vlen]; first | done | omega))) only [vah, ↓vAq, vBq, ↓reduceIte, Nat.reduceBEq, Nat.reduceEqDiff, Nat.reduceLT, Nat.reduceLeDiff, Nat.reduceAdd, Nat.reduceMul, Nat.reduceSub, reduceCtorEq, Int.reduceToNat]) | (refine Br.mk ?_ ?_ <;> intro h) | (refine BrN.mk (fun h => ?_) ?_) | (refine AltVC.mk ?_ ?_), rfl⟩
end Go.Proofs.Ytplkkacfjepgpaa
