/-
  bytes.Compare, as a contract on descriptions.
-/
import Derived.Test.YtdcdldfleeilnaaEqual
import Derived.Lib.Bytealg
namespace Go.Proofs.Ytdcdldfleeilnaa
open Go.Dm

/-- Which of two words comes first. -/
def bcmp : List UInt8 → List UInt8 → Int
  | [], [] => 0
  | [], _ :: _ => -1
  | _ :: _, [] => 1
  | x :: a, y :: b => if x = y then bcmp a b else if x < y then -1 else 1

theorem bang_get (x : List UInt8) (i : Nat) : (⟨x.toArray⟩ : ByteArray)[i]! = x.getD i 0 := by
  by_cases h : i < x.length
  · rw [getElem!_pos (⟨x.toArray⟩ : ByteArray) i (by simpa [ByteArray.size] using h)]
    simp [List.getD, h]
    rfl
  · rw [getElem!_neg (⟨x.toArray⟩ : ByteArray) i (by simpa [ByteArray.size] using h)]
    simp [List.getD, List.getElem?_eq_none (Nat.le_of_not_lt h)]
    rfl
theorem cmp_eq (x y : List UInt8) : Extern.BytealgCompare.cmp ⟨x.toArray⟩ ⟨y.toArray⟩ = bcmp x y := by
  have key : ∀ (a b : List UInt8) (k : Nat), x.drop k = a → y.drop k = b → k ≤ x.length → k ≤ y.length →
      (match ((List.range (min a.length b.length)).map (· + k)).find? (fun i => x.getD i 0 != y.getD i 0) with
      | some i => if x.getD i 0 < y.getD i 0 then (-1 : Int) else 1
      | none => if x.length < y.length then -1 else if x.length > y.length then 1 else 0) = bcmp a b := by
    intro a
    induction a with
    | nil =>
      intro b k h1 h2 h3 h4
      have l1 := congrArg List.length h1
      have l2 := congrArg List.length h2
      simp only [List.length_drop, List.length_nil] at l1 l2
      cases b with
      | nil =>
        simp only [List.length_nil, Nat.min_self, List.range_zero, List.map_nil, List.find?_nil, bcmp]
        simp only [List.length_nil] at l2
        rw [if_neg (by omega), if_neg (by omega)]
      | cons c b =>
        simp only [List.length_cons] at l2
        simp only [List.length_nil, Nat.zero_min, List.range_zero, List.map_nil, List.find?_nil, bcmp]
        rw [if_pos (by omega)]
    | cons c a ih =>
      intro b k h1 h2 h3 h4
      have l1 := congrArg List.length h1
      have l2 := congrArg List.length h2
      simp only [List.length_drop, List.length_cons] at l1 l2
      cases b with
      | nil =>
        simp only [List.length_nil] at l2
        simp only [List.length_nil, Nat.min_zero, List.range_zero, List.map_nil, List.find?_nil, bcmp]
        rw [if_neg (by omega), if_pos (by omega)]
      | cons e b =>
        simp only [List.length_cons] at l2
        have hx : x.getD k 0 = c := by
          have := congrArg (fun l => l.getD 0 0) h1
          simpa [List.getD] using this
        have hy : y.getD k 0 = e := by
          have := congrArg (fun l => l.getD 0 0) h2
          simpa [List.getD] using this
        have d1 : x.drop (k + 1) = a := by
          have := congrArg (List.drop 1) h1
          simpa [List.drop_drop] using this
        have d2 : y.drop (k + 1) = b := by
          have := congrArg (List.drop 1) h2
          simpa [List.drop_drop] using this
        have em : min (c :: a).length (e :: b).length = min a.length b.length + 1 := by simp only [List.length_cons]; omega
        rw [em, List.range_succ_eq_map, List.map_cons, List.find?_cons]
        simp only [Nat.zero_add, hx, hy, bcmp]
        by_cases hce : c = e
        · subst hce
          simp only [bne_self_eq_false, if_true]
          rw [← ih b (k + 1) d1 d2 (by omega) (by omega)]
          have : ((List.range (min a.length b.length)).map Nat.succ).map (· + k) = (List.range (min a.length b.length)).map (· + (k + 1)) := by
            rw [List.map_map]; congr 1; funext i; simp only [Function.comp]; omega
          rw [this]
        · have : (c != e) = true := by simpa using hce
          simp only [this, if_neg hce, hx, hy]
  have := key x y 0 rfl rfl (Nat.zero_le _) (Nat.zero_le _)
  rw [← this]
  unfold Extern.BytealgCompare.cmp
  simp only [bang_get, Nat.add_zero, List.map_id']
  rfl

section
variable {P : Program} {w : World} {A : Nat → Prop}
theorem run_loadBytes (b : Nat) : ∀ (a : List UInt8) (off : Nat) (acc : ByteArray), (∀ i, i < a.length → w.cell? ⟨b, off + i, none⟩ = some (.int .u8 ((a.getD i 0).toNat : Int))) →
    (Extern.Bytes.loadBytes ⟨b, off, none⟩ a.length acc).run P w = .ok ⟨acc.data ++ a.toArray⟩ w
  | [], off, acc, _ => by simp [Extern.Bytes.loadBytes]
  | x :: a, off, acc, h => by
    have h0 := h 0 (by simp)
    simp only [Nat.add_zero, List.getD_cons_zero] at h0
    simp only [List.length_cons, Extern.Bytes.loadBytes, Sem.run_bind, run_load, h0, Result.andThen_ok, addr_add]
    rw [run_loadBytes b a (off + 1) _ (fun i hi => by
      have := h (i + 1) (by simpa using hi)
      simp only [List.getD_cons_succ] at this
      rw [← this]; congr 2; omega)]
    congr 1
    apply ByteArray.ext
    apply Array.ext'
    simp [ByteArray.push]
theorem bytesOf_bytes {a : List UInt8} {v : Value} (h : CR w A (.sl 1 (Go.Dm.u8s a)) v) : (Extern.Bytes.bytesOf v).run P w = .ok ⟨a.toArray⟩ w := by
  generalize hd : D.sl 1 (Go.Dm.u8s a) = d at h
  cases h with
  | sl0 sz b c =>
    injection hd with h1 h2
    have ha : a = [] := by
      cases a with
      | nil => rfl
      | cons x l => simp [Go.Dm.u8s] at h2
    subst ha
    cases b <;> simp [Extern.Bytes.bytesOf, Extern.Bytes.loadBytes] <;> rfl
  | sl sz es b off n c us hA hn hcap hsz hc hr =>
    injection hd with h1 h2
    subst h1
    subst h2
    rw [u8s_len] at hn
    subst hn
    have := run_loadBytes (P := P) (w := w) b a off .empty (fun i hi => by
      have hi' : i < (Go.Dm.u8s a).length := by rw [u8s_len]; omega
      have h3 := (hc i 0 hi' (by omega)).1
      have h4 := hr i 0 hi' (by omega)
      rw [u8s_get (by omega)] at h4
      simp only [List.getD_cons_zero] at h4
      have e1 : us i 0 = .int .u8 ((a.getD i 0).toNat : Int) := by
        generalize us i 0 = u at h4
        cases h4; rfl
      rw [Nat.mul_one, Nat.add_zero, e1] at h3
      exact h3)
    simp only [Extern.Bytes.bytesOf]
    rw [this]
    simp
  | v | nl | ag | tu | ip | clo | junk => cases hd
end

theorem run_compare (v1 v2 : Value) (w : World) (x y : ByteArray) (h1 : (Extern.Bytes.bytesOf v1).run Try.prog w = .ok x w) (h2 : (Extern.Bytes.bytesOf v2).run Try.prog w = .ok y w) :
    (callFunc 39 #[v1, v2]).run Try.prog w = .ok (.value (.int .i64 (Extern.BytealgCompare.cmp x y))) w := by
  rw [run_callFunc_extern Try.func39 (by kernel_rfl) (by kernel_rfl) (by kernel_rfl) (show Extern.find Try.f39 = some Extern.BytealgCompare.compare by kernel_rfl)]
  have e : (Extern.BytealgCompare.compare #[v1, v2]).run Try.prog w = .ok (.int .i64 (Extern.BytealgCompare.cmp x y)) w := by
    change Sem.run Try.prog (do
      let a ← Extern.Bytes.bytesOf v1
      let b ← Extern.Bytes.bytesOf v2
      pure (goInt (Extern.BytealgCompare.cmp a b))) w = _
    simp [h1, h2, goInt]
  rw [e]
  rfl

set_option maxHeartbeats 1000000 in
theorem bytes_Compare (v1 v2 : Value) (w : World) (x y : ByteArray) (h1 : (Extern.Bytes.bytesOf v1).run Try.prog w = .ok x w) (h2 : (Extern.Bytes.bytesOf v2).run Try.prog w = .ok y w) :
    Calls Try.prog 32 #[v1, v2] w fun e w' => e = .returned (.int .i64 (Extern.BytealgCompare.cmp x y)) ∧ w' = w := by
  have hc := run_compare v1 v2 w x y h1 h2
  go_enter Try.func32, Try.ntmps32
  go_wp2
  go_ret
  exact ⟨rfl, rfl⟩

theorem compare_spec (a b : List UInt8) : Dm.Spec Try.prog 32 [.sl 1 (Go.Dm.u8s a), .sl 1 (Go.Dm.u8s b)] (· = .v (.int .i64 (bcmp a b))) := by
  refine ⟨⟨_, Try.func32, by kernel_rfl, by kernel_rfl⟩, fun w A vs low hsz hcr => ?_⟩
  have e : vs = #[vs.getD 0 undef, vs.getD 1 undef] := by
    apply Array.ext
    · simpa using hsz
    · intro i h1 h2
      have : i < 2 := by simpa using h2
      match i, this with
      | 0, _ => simp [h1]
      | 1, _ => simp [h1]
  have h0 := hcr 0 (by simp)
  have h1 := hcr 1 (by simp)
  rw [e]
  refine (bytes_Compare _ _ w _ _ (bytesOf_bytes h0) (bytesOf_bytes h1)).mono ?_
  rintro e' w' ⟨rfl, rfl⟩
  refine ⟨_, _, rfl, rfl, Go.RowKit.Below.refl _ _, ?_⟩
  rw [cmp_eq]
  exact .v _
end Go.Proofs.Ytdcdldfleeilnaa
