/-
  Sentences: what takes a word behind a symbol; the lists that after.After makes.
-/
import Derived.Test.YtmhpfgklfpgniaaHollow
import Derived.Test.YtmhpfgklfpgniaaLend
namespace Go.Dm
set_option linter.unusedSimpArgs false
set_option linter.unusedVariables false
/-- Words behind a symbol. -/
def dvL (s : Int) (L : Lg) : Lg := fun w => L (s :: w)
theorem dv_cat {s : Int} {A B : Lg} {w : List Int} : dvL s (catL A B) w ↔ catL (dvL s A) B w ∨ (A [] ∧ dvL s B w) := by
  constructor
  · rintro ⟨a, b, h1, h2, h3⟩
    cases a with
    | nil => exact .inr ⟨h1, by show B (s :: w); rw [h3]; exact h2⟩
    | cons x a =>
      simp only [List.cons_append, List.cons.injEq] at h3
      obtain ⟨rfl, rfl⟩ := h3
      exact .inl ⟨a, b, h1, h2, rfl⟩
  · rintro (⟨a, b, h1, h2, rfl⟩ | ⟨h1, h2⟩)
    · exact ⟨s :: a, b, h1, h2, rfl⟩
    · exact ⟨[], s :: w, h1, h2, rfl⟩
theorem dv_star {s : Int} {A : Lg} {w : List Int} : dvL s (Star A) w ↔ catL (dvL s A) (Star A) w := by
  constructor
  · intro h
    rcases star_front h with h | ⟨a, b, h1, h2, h3, h4⟩
    · cases h
    · cases a with
      | nil => exact absurd rfl h1
      | cons x a =>
        simp only [List.cons_append, List.cons.injEq] at h4
        obtain ⟨rfl, rfl⟩ := h4
        exact ⟨a, b, h2, h3, rfl⟩
  · rintro ⟨a, b, h1, h2, rfl⟩
    show Star A ((s :: a) ++ b)
    exact star_app (star_one h1) h2
/-- A list is the other one and more. -/
def Pre (l r : List Node) : Prop := ∃ x, r = l ++ x
theorem Pre.refl {l : List Node} : Pre l l := ⟨[], by simp⟩
theorem Pre.trans {a b c : List Node} (h : Pre a b) (k : Pre b c) : Pre a c := by
  obtain ⟨x, rfl⟩ := h; obtain ⟨y, rfl⟩ := k; exact ⟨x ++ y, by simp⟩
theorem Pre.snoc {a b : List Node} {x : Node} (h : Pre a b) : Pre a (b ++ [x]) := h.trans ⟨[x], rfl⟩
theorem Pre.len {a b : List Node} (h : Pre a b) : a.length ≤ b.length := by obtain ⟨x, rfl⟩ := h; simp
theorem Pre.lang {a b : List Node} (h : Pre a b) {k : Nat} (hk : k < a.length) : lang b k = lang a k := by obtain ⟨x, rfl⟩ := h; exact lang_pre hk
theorem ok_snoc {k : Int} {l : List Node} {x : Node} (h : NodesOk k l) (hx : NodeOk k l.length x) : NodesOk k (l ++ [x]) := by
  intro i hi
  rw [List.length_append, List.length_singleton] at hi
  by_cases e : i < l.length
  · rw [show (l ++ [x]).getD i default = l.getD i default by simp [List.getD, List.getElem?_append_left e]]; exact h i e
  · have e : i = l.length := by omega
    subst e
    rw [show (l ++ [x]).getD l.length default = x by simp [List.getD]]; exact hx
/-- d takes what k takes behind s. -/
def Dv (l : List Node) (s : Int) (out : List Node) (k d : Nat) : Prop := d < out.length ∧ lang out d = dvL s (lang l k)
theorem Dv.pre {l out out' : List Node} {s : Int} {k d : Nat} (h : Dv l s out k d) (hp : Pre out out') : Dv l s out' k d := ⟨Nat.lt_of_lt_of_le h.1 hp.len, by rw [hp.lang h.1]; exact h.2⟩
/-- What is known. -/
structure DI (K : Int) (l : List Node) (s : Int) (kn : List (Nat × Nat)) (out : List Node) : Prop where
  pre : Pre l out
  ok : NodesOk K out
  ks : ∀ p, p ∈ kn → p.1 < l.length ∧ Dv l s out p.1 p.2
  nd : (kn.map Prod.fst).Nodup
theorem DI.add {K : Int} {l out : List Node} {s : Int} {kn : List (Nat × Nat)} {x : Node} (h : DI K l s kn out) (hx : NodeOk K out.length x) : DI K l s kn (out ++ [x]) :=
  ⟨h.pre.snoc, ok_snoc h.ok hx, fun p hp => ⟨(h.ks p hp).1, (h.ks p hp).2.pre ⟨[x], rfl⟩⟩, h.nd⟩
theorem DI.put {K : Int} {l out : List Node} {s : Int} {kn : List (Nat × Nat)} {i d : Nat} (h : DI K l s kn out) (hi : i < l.length) (hn : i ∉ kn.map Prod.fst) (hd : Dv l s out i d) : DI K l s (kn ++ [(i, d)]) out :=
  ⟨h.pre, h.ok, fun p hp => by
    rcases List.mem_append.mp hp with hp | hp
    · exact h.ks p hp
    · rw [List.mem_singleton] at hp; subst hp; exact ⟨hi, hd⟩, by
    rw [List.map_append, List.map_singleton, List.nodup_append]
    exact ⟨h.nd, by simp, fun a ha b hb e => by rw [List.mem_singleton] at hb; subst hb; subst e; exact hn ha⟩⟩
theorem nodup_len : ∀ (n : Nat) (l : List Nat), l.Nodup → (∀ x, x ∈ l → x < n) → l.length ≤ n
  | 0, l, _, h => by
    cases l with
    | nil => simp
    | cons x l => have := h x (by simp); omega
  | n + 1, l, hd, h => by
    by_cases e : n ∈ l
    · have := nodup_len n (l.erase n) (hd.erase n) fun x hx => by
        have h1 := (hd.mem_erase_iff).1 hx
        have := h x h1.2
        have := h1.1
        omega
      rw [List.length_erase_of_mem e] at this
      omega
    · have := nodup_len n l hd fun x hx => by
        have h1 := h x hx
        have : x ≠ n := fun h => e (h ▸ hx)
        omega
      omega
theorem DI.le {K : Int} {l out : List Node} {s : Int} {kn : List (Nat × Nat)} (h : DI K l s kn out) : kn.length ≤ l.length := by
  have h1 := nodup_len l.length (kn.map Prod.fst) h.nd fun a ha => by
    obtain ⟨p, hp, rfl⟩ := List.mem_map.mp ha
    exact (h.ks p hp).1
  simpa using h1
section
variable {K : Int} {l out : List Node} {s : Int} {k : Nat}
theorem getD_snoc {x : Node} : (out ++ [x]).getD out.length default = x := by simp [List.getD]
theorem len_snoc {x : Node} : out.length < (out ++ [x]).length := by simp
theorem dv_1 (h : k < l.length) (e : (l.getD k default).kind = 1 ∨ (l.getD k default).kind = 2) (hp : Pre l out) {a b : Int} : Dv l s (out ++ [⟨1, a, b⟩]) k out.length := by
  refine ⟨len_snoc, ?_⟩
  rw [lang_1 len_snoc (by rw [getD_snoc])]
  funext w
  refine propext ⟨False.elim, fun h2 => ?_⟩
  rcases e with e | e
  · unfold dvL at h2; rw [lang_1 h e] at h2; exact h2
  · unfold dvL at h2; rw [lang_2 h e] at h2; cases h2
theorem dv_3y (h : k < l.length) (e : (l.getD k default).kind = 3) (ha : (l.getD k default).a = s) {a b : Int} : Dv l s (out ++ [⟨2, a, b⟩]) k out.length := by
  refine ⟨len_snoc, ?_⟩
  rw [lang_2 len_snoc (by rw [getD_snoc])]
  funext w
  unfold dvL
  rw [lang_3 h e, ha]
  exact propext ⟨fun h => by show _ = _; rw [h], fun h => by show w = []; have : s :: w = [s] := h; simpa using this⟩
theorem dv_3n (h : k < l.length) (e : (l.getD k default).kind = 3) (ha : ¬ (l.getD k default).a = s) {a b : Int} : Dv l s (out ++ [⟨1, a, b⟩]) k out.length := by
  refine ⟨len_snoc, ?_⟩
  rw [lang_1 len_snoc (by rw [getD_snoc])]
  funext w
  refine propext ⟨False.elim, fun h2 => ?_⟩
  unfold dvL at h2
  rw [lang_3 h e] at h2
  have : s :: w = [(l.getD k default).a] := h2
  simp only [List.cons.injEq] at this
  exact ha this.1.symm
theorem or_node (hv : NodesOk K out) {x y : Nat} (hx : x < out.length) (hy : y < out.length) : lang (out ++ [⟨5, x, y⟩]) out.length = orL (lang out x) (lang out y) := by
  have hv2 : NodesOk K (out ++ [⟨5, x, y⟩]) := ok_snoc hv ⟨by show (1 : Int) ≤ 5; omega, by show (5 : Int) ≤ 6; omega, fun h => absurd h (by show ¬ (5 : Int) = 3; omega), fun _ => by show (0 : Int) ≤ x ∧ (x : Int) < out.length; omega, fun _ => by show (0 : Int) ≤ y ∧ (y : Int) < out.length; omega⟩
  rw [lang_5 hv2 len_snoc (by rw [getD_snoc]), getD_snoc, Int.toNat_natCast, Int.toNat_natCast, lang_pre hx, lang_pre hy]
theorem cat_node (hv : NodesOk K out) {x y : Nat} (hx : x < out.length) (hy : y < out.length) : lang (out ++ [⟨4, x, y⟩]) out.length = catL (lang out x) (lang out y) := by
  have hv2 : NodesOk K (out ++ [⟨4, x, y⟩]) := ok_snoc hv ⟨by show (1 : Int) ≤ 4; omega, by show (4 : Int) ≤ 6; omega, fun h => absurd h (by show ¬ (4 : Int) = 3; omega), fun _ => by show (0 : Int) ≤ x ∧ (x : Int) < out.length; omega, fun _ => by show (0 : Int) ≤ y ∧ (y : Int) < out.length; omega⟩
  rw [lang_4 hv2 len_snoc (by rw [getD_snoc]), getD_snoc, Int.toNat_natCast, Int.toNat_natCast, lang_pre hx, lang_pre hy]
theorem ok_5 {n x y : Nat} (hx : x < n) (hy : y < n) : NodeOk K n ⟨5, x, y⟩ := ⟨by show (1 : Int) ≤ 5; omega, by show (5 : Int) ≤ 6; omega, fun h => absurd h (by show ¬ (5 : Int) = 3; omega), fun _ => by show (0 : Int) ≤ x ∧ (x : Int) < n; omega, fun _ => by show (0 : Int) ≤ y ∧ (y : Int) < n; omega⟩
theorem ok_4 {n x y : Nat} (hx : x < n) (hy : y < n) : NodeOk K n ⟨4, x, y⟩ := ⟨by show (1 : Int) ≤ 4; omega, by show (4 : Int) ≤ 6; omega, fun h => absurd h (by show ¬ (4 : Int) = 3; omega), fun _ => by show (0 : Int) ≤ x ∧ (x : Int) < n; omega, fun _ => by show (0 : Int) ≤ y ∧ (y : Int) < n; omega⟩
theorem ok_12 {n : Nat} {c : Int} (hc : c = 1 ∨ c = 2) : NodeOk K n ⟨c, 0, 0⟩ := ⟨by show 1 ≤ c; omega, by show c ≤ 6; omega, fun h => absurd h (by show ¬ c = 3; omega), fun h => absurd h (by show ¬ 4 ≤ c; omega), fun h => absurd h (by show ¬ (c = 4 ∨ c = 5); omega)⟩
theorem dv_5 (hl : NodesOk K l) (h : k < l.length) (e : (l.getD k default).kind = 5) (hv : NodesOk K out) {x y : Nat} (hx : Dv l s out (l.getD k default).a.toNat x) (hy : Dv l s out (l.getD k default).b.toNat y) : Dv l s (out ++ [⟨5, x, y⟩]) k out.length := by
  refine ⟨len_snoc, ?_⟩
  rw [or_node hv hx.1 hy.1, hx.2, hy.2]
  funext w
  show _ = lang l k (s :: w)
  rw [lang_5 hl h e]; rfl
theorem dv_6 (hl : NodesOk K l) (h : k < l.length) (e : (l.getD k default).kind = 6) (hv : NodesOk K out) (hp : Pre l out) {x : Nat} (hx : Dv l s out (l.getD k default).a.toNat x) : Dv l s (out ++ [⟨4, x, k⟩]) k out.length := by
  refine ⟨len_snoc, ?_⟩
  rw [cat_node hv hx.1 (Nat.lt_of_lt_of_le h hp.len), hx.2, hp.lang h]
  funext w
  rw [lang_6 hl h e]
  exact propext dv_star.symm
theorem dv_4n (hl : NodesOk K l) (h : k < l.length) (e : (l.getD k default).kind = 4) (hv : NodesOk K out) (hp : Pre l out) {x : Nat} (hx : Dv l s out (l.getD k default).a.toNat x) (he : ¬ lang l (l.getD k default).a.toNat []) (hb : (l.getD k default).b.toNat < l.length) : Dv l s (out ++ [⟨4, x, (l.getD k default).b.toNat⟩]) k out.length := by
  refine ⟨len_snoc, ?_⟩
  rw [cat_node hv hx.1 (Nat.lt_of_lt_of_le hb hp.len), hx.2, hp.lang hb]
  funext w
  rw [lang_4 hl h e]
  exact propext ⟨fun h => dv_cat.mpr (.inl h), fun h => (dv_cat.mp h).resolve_right fun h2 => he h2.1⟩
/-- With the empty word: c is what dv_4n makes, y what is behind the other one. -/
theorem dv_4y (hl : NodesOk K l) (h : k < l.length) (e : (l.getD k default).kind = 4) (hv : NodesOk K out) {c y : Nat} (hc : c < out.length) (hcl : lang out c = catL (dvL s (lang l (l.getD k default).a.toNat)) (lang l (l.getD k default).b.toNat)) (hy : Dv l s out (l.getD k default).b.toNat y) (he : lang l (l.getD k default).a.toNat []) : Dv l s (out ++ [⟨5, c, y⟩]) k out.length := by
  refine ⟨len_snoc, ?_⟩
  rw [or_node hv hc hy.1, hy.2, hcl]
  funext w
  rw [lang_4 hl h e]
  exact propext ⟨fun h => dv_cat.mpr (h.imp id fun h => ⟨he, h⟩), fun h => (dv_cat.mp h).imp id fun h => h.2⟩
end
end Go.Dm
