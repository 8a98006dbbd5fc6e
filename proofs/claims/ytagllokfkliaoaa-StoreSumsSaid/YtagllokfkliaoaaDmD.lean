/-
  A logic for Go functions over plain data, part D: lists of plain data as descriptions, and the laws by which conditions are evaluated.
-/
import Derived.Test.YtagllokfkliaoaaDmC
namespace Go.Dm

theorem ite_tt {α : Type} {a b : α} : (if true = true then a else b) = a := (rfl)

/-- Integer cell of kind k. -/
abbrev iv (k : IntKind) (n : Int) : D := .v (.int k n)
def u8s (l : List UInt8) : List (List D) := l.map fun b => [.v (.int .u8 (b.toNat : Int))]
def i64s (l : List Int) : List (List D) := l.map fun n => [.v (.int .i64 n)]
def u32s (l : List Int) : List (List D) := l.map fun n => [.v (.int .u32 n)]
def bls (l : List Bool) : List (List D) := l.map fun b => [.v (.bool b)]
/-- Rows. -/
def rows {α : Type} (f : α → List (List D)) (l : List α) : List (List D) := l.map fun x => [.sl 1 (f x)]

theorem u8s_len {l : List UInt8} : (u8s l).length = l.length := by simp [u8s]
theorem i64s_len {l : List Int} : (i64s l).length = l.length := by simp [i64s]
theorem bls_len {l : List Bool} : (bls l).length = l.length := by simp [bls]
theorem rows_len {α : Type} {f : α → List (List D)} {l : List α} : (rows f l).length = l.length := by simp [rows]
theorem map_getD {α β : Type} (f : α → β) (l : List α) (i : Nat) (x : β) (y : α) (h : i < l.length) : (l.map f).getD i x = f (l.getD i y) := by
  simp [List.getD, h]
theorem u8s_get {l : List UInt8} {i : Nat} (h : i < l.length) : (u8s l).getD i [] = [.v (.int .u8 ((l.getD i 0).toNat : Int))] := map_getD _ l i [] 0 h
theorem i64s_get {l : List Int} {i : Nat} (h : i < l.length) : (i64s l).getD i [] = [.v (.int .i64 (l.getD i 0))] := map_getD _ l i [] 0 h
theorem bls_get {l : List Bool} {i : Nat} (h : i < l.length) : (bls l).getD i [] = [.v (.bool (l.getD i false))] := map_getD _ l i [] false h
theorem rows_get {α : Type} [Inhabited α] {f : α → List (List D)} {l : List α} {i : Nat} (h : i < l.length) : (rows f l).getD i [] = [.sl 1 (f (l.getD i default))] := map_getD _ l i [] default h
theorem i64s_set {l : List Int} {i : Nat} {n : Int} : (i64s l).set i [.v (.int .i64 n)] = i64s (l.set i n) := by simp [i64s, List.map_set]
theorem bls_set {l : List Bool} {i : Nat} {b : Bool} : (bls l).set i [.v (.bool b)] = bls (l.set i b) := by simp [bls, List.map_set]
theorem i64s_rep {n : Nat} {x : Int} : List.replicate n [D.v (.int .i64 x)] = i64s (List.replicate n x) := by simp [i64s]
theorem bls_rep {n : Nat} {x : Bool} : List.replicate n [D.v (.bool x)] = bls (List.replicate n x) := by simp [bls]
theorem i64s_app {l : List Int} {n : Int} : i64s l ++ [[D.v (.int .i64 n)]] = i64s (l ++ [n]) := by simp [i64s]
theorem u8s_app {l l' : List UInt8} : u8s l ++ u8s l' = u8s (l ++ l') := by simp [u8s]
theorem i64s_app2 {l l' : List Int} : i64s l ++ i64s l' = i64s (l ++ l') := by simp [i64s]
theorem bls_app {l l' : List Bool} : bls l ++ bls l' = bls (l ++ l') := by simp [bls]
theorem u8s_take {l : List UInt8} {n : Nat} : (u8s l).take n = u8s (l.take n) := by simp [u8s, List.map_take]
theorem i64s_take {l : List Int} {n : Nat} : (i64s l).take n = i64s (l.take n) := by simp [i64s, List.map_take]
theorem bls_take {l : List Bool} {n : Nat} : (bls l).take n = bls (l.take n) := by simp [bls, List.map_take]
theorem u8s_drop {l : List UInt8} {n : Nat} : (u8s l).drop n = u8s (l.drop n) := by simp [u8s, List.map_drop]
theorem i64s_drop {l : List Int} {n : Nat} : (i64s l).drop n = i64s (l.drop n) := by simp [i64s, List.map_drop]
theorem bls_drop {l : List Bool} {n : Nat} : (bls l).drop n = bls (l.drop n) := by simp [bls, List.map_drop]
theorem i64s_nil : i64s [] = [] := (rfl)
theorem bls_nil : bls [] = [] := (rfl)
theorem u8s_nil : u8s [] = [] := (rfl)

theorem wrap64_id {n : Int} (h : -9223372036854775808 ≤ n ∧ n ≤ 9223372036854775807) : IntKind.i64.wrap n = n := IntWalk.i64_in _ h
theorem wrapu8_id {n : Int} (h : 0 ≤ n ∧ n ≤ 255) : IntKind.u8.wrap n = n := by simp [IntKind.wrap, IntKind.bits, IntKind.signed]; omega
theorem wrapu32_id {n : Int} (h : 0 ≤ n ∧ n ≤ 4294967295) : IntKind.u32.wrap n = n := by simp [IntKind.wrap, IntKind.bits, IntKind.signed]; omega

theorem ChkD_true {α : Type} {k : α → Prop} {x : α} : ChkD True x k = k x := by simp [ChkD]
theorem Chk_true {α : Type} {f : α → Prop} {x : α} : Chk True f x = f x := by simp [Chk]
theorem wrapu8_mod {n : Int} : IntKind.u8.wrap n = n % 256 := by simp [IntKind.wrap, IntKind.bits, IntKind.signed]
theorem shr8 {n : Int} : n.fdiv (2 ^ (min (Int.toNat 8) IntKind.i64.bits)) = n / 256 := by
  have e : (2 ^ (min (Int.toNat 8) IntKind.i64.bits) : Int) = 256 := by decide
  rw [e]
  exact Int.fdiv_eq_ediv_of_nonneg n (by omega)
theorem shr8' {n : Int} : n.fdiv (2 ^ (min 8 IntKind.i64.bits)) = n / 256 := shr8
theorem tmod_nn {a b : Int} (h : 0 ≤ a) : a.tmod b = a % b := Int.tmod_eq_emod_of_nonneg h
theorem tdiv_nn {a b : Int} (h : 0 ≤ a) : a.tdiv b = a / b := Int.tdiv_eq_ediv_of_nonneg h

section
variable {s : S} {d τ t n N : Nat} {x : D} {ob : Ob} {mk : Nat → D}
theorem g_t : s.g (.t n) = s.ρ n := (rfl)
theorem g_k {x : Value} : s.g (.k x) = .v x := (rfl)
theorem g_nl : s.g .nl = .nl := (rfl)
theorem g_f {f : FuncId} : s.g (.f f) = .clo f [] := (rfl)
theorem put_ρ : (s.put (some d) x).ρ t = if t = d then x else s.ρ t := (rfl)
theorem put_M : (s.put (some d) x).M t = s.M t := (rfl)
theorem put_N : (s.put (some d) x).N = s.N := (rfl)
theorem put_none : s.put none x = s := (rfl)
theorem setM_ρ : (s.setM τ ob).ρ t = s.ρ t := (rfl)
theorem setM_M : (s.setM τ ob).M t = if t = τ then some ob else s.M t := (rfl)
theorem setM_N : (s.setM τ ob).N = s.N := (rfl)
theorem setN_ρ : (s.setN N).ρ t = s.ρ t := (rfl)
theorem setN_M : (s.setN N).M t = s.M t := (rfl)
theorem setN_N : (s.setN N).N = N := (rfl)
theorem kill_ρ : (s.kill τ).ρ t = (s.ρ t).kill τ := (rfl)
theorem kill_M : (s.kill τ).M t = (s.M t).map (Ob.kill τ) := (rfl)
theorem kill_N : (s.kill τ).N = s.N := (rfl)
theorem trim_ρ : (s.trim n).ρ t = (s.ρ t).trim n := (rfl)
theorem trim_M : (s.trim n).M t = if t < n then (s.M t).map (Ob.trim n) else none := (rfl)
theorem trim_N : (s.trim n).N = n := (rfl)
theorem head_ρ {asg : List Nat} {ups : List (Nat × D)} {ms : List (Nat × Ob)} : (s.head asg ups ms).ρ t = headD (look t ups) (asg.contains t) s t := (rfl)
theorem headD_some {d : D} {c : Bool} : headD (some d) c s t = d := (rfl)
theorem headD_t : headD none true s t = .junk := (rfl)
theorem headD_f : headD none false s t = (s.ρ t).keep := (rfl)
theorem keep_v {x : Value} : (D.v x).keep = .v x := (rfl)
theorem keep_nl : D.nl.keep = .nl := (rfl)
theorem keep_sl {sz : Nat} {es : List (List D)} : (D.sl sz es).keep = .sl sz es := (rfl)
theorem keep_ip {e : List D} {o : Nat} : (D.ip e o).keep = .ip e o := (rfl)
theorem keep_ag {ds : List D} : (D.ag ds).keep = .ag (ds.map D.keepA) := (rfl)
theorem keep_tu {ds : List D} : (D.tu ds).keep = .tu (ds.map D.keepA) := (rfl)
theorem keep_clo {f : FuncId} : (D.clo f []).keep = .clo f [] := (rfl)
theorem keep_ref {τ sz off n : Nat} : (D.ref τ sz off n).keep = .junk := (rfl)
theorem keep_ptr {τ sz i o : Nat} : (D.ptr τ sz i o).keep = .junk := (rfl)
theorem keep_junk : D.junk.keep = .junk := (rfl)
theorem keepA_v {x : Value} : (D.v x).keepA = .v x := (rfl)
theorem keepA_nl : D.nl.keepA = .nl := (rfl)
theorem keepA_sl {sz : Nat} {es : List (List D)} : (D.sl sz es).keepA = .sl sz es := (rfl)
theorem keepA_ip {e : List D} {o : Nat} : (D.ip e o).keepA = .ip e o := (rfl)
theorem keepA_ref {τ sz off n : Nat} : (D.ref τ sz off n).keepA = .junk := (rfl)
theorem keepA_ptr {τ sz i o : Nat} : (D.ptr τ sz i o).keepA = .junk := (rfl)
theorem head_M {asg : List Nat} {ups : List (Nat × D)} {ms : List (Nat × Ob)} : (s.head asg ups ms).M t = look t ms := (rfl)
theorem head_N {asg : List Nat} {ups : List (Nat × D)} {ms : List (Nat × Ob)} : (s.head asg ups ms).N = s.N := (rfl)
theorem init_ρ {ds : List D} : (S.init ds).ρ t = ds.getD t .junk := (rfl)
theorem init_M {ds : List D} : (S.init ds).M t = none := (rfl)
theorem init_N {ds : List D} : (S.init ds).N = 0 := (rfl)
end

theorem look_nil {α : Type} {t : Nat} : look (α := α) t [] = none := (rfl)
theorem look_cons {α : Type} {t i : Nat} {d : α} {r : List (Nat × α)} : look t ((i, d) :: r) = if t = i then some d else look t r := (rfl)

theorem obkill_flat {τ sz : Nat} {es : List (List D)} : Ob.kill τ ⟨sz, es, true⟩ = ⟨sz, es, true⟩ := (rfl)
theorem obtrim_flat {n sz : Nat} {es : List (List D)} : Ob.trim n ⟨sz, es, true⟩ = ⟨sz, es, true⟩ := (rfl)
theorem obkill_open {τ sz : Nat} {es : List (List D)} : Ob.kill τ ⟨sz, es, false⟩ = ⟨sz, es.map fun e => e.map (D.kill τ), false⟩ := (rfl)
theorem obtrim_open {n sz : Nat} {es : List (List D)} : Ob.trim n ⟨sz, es, false⟩ = ⟨sz, es.map fun e => e.map (D.trim n), false⟩ := (rfl)

section
variable {τ n : Nat}
theorem kill_v {x : Value} : (D.v x).kill τ = .v x := (rfl)
theorem kill_nl : D.nl.kill τ = .nl := (rfl)
theorem kill_sl {sz : Nat} {es : List (List D)} : (D.sl sz es).kill τ = .sl sz es := (rfl)
theorem kill_ip {e : List D} {o : Nat} : (D.ip e o).kill τ = .ip e o := (rfl)
theorem kill_junk : D.junk.kill τ = .junk := (rfl)
theorem kill_ref {σ sz off m : Nat} : (D.ref σ sz off m).kill τ = if σ = τ then .junk else .ref σ sz off m := (rfl)
theorem kill_ptr {σ sz i o : Nat} : (D.ptr σ sz i o).kill τ = if σ = τ then .junk else .ptr σ sz i o := (rfl)
theorem kill_ag {ds : List D} : (D.ag ds).kill τ = .ag (ds.map (D.killA τ)) := (rfl)
theorem kill_tu {ds : List D} : (D.tu ds).kill τ = .tu (ds.map (D.killA τ)) := (rfl)
theorem kill_clo {f : FuncId} {ds : List D} : (D.clo f ds).kill τ = .clo f (ds.map (D.killA τ)) := (rfl)
theorem killA_v {x : Value} : (D.v x).killA τ = .v x := (rfl)
theorem killA_nl : D.nl.killA τ = .nl := (rfl)
theorem killA_sl {sz : Nat} {es : List (List D)} : (D.sl sz es).killA τ = .sl sz es := (rfl)
theorem killA_ref {σ sz off m : Nat} : (D.ref σ sz off m).killA τ = if σ = τ then .junk else .ref σ sz off m := (rfl)
theorem killA_ptr {σ sz i o : Nat} : (D.ptr σ sz i o).killA τ = if σ = τ then .junk else .ptr σ sz i o := (rfl)
theorem trim_v {x : Value} : (D.v x).trim n = .v x := (rfl)
theorem trim_nl : D.nl.trim n = .nl := (rfl)
theorem trim_sl {sz : Nat} {es : List (List D)} : (D.sl sz es).trim n = .sl sz es := (rfl)
theorem trim_ip {e : List D} {o : Nat} : (D.ip e o).trim n = .ip e o := (rfl)
theorem trim_junk : D.junk.trim n = .junk := (rfl)
theorem trim_ref {σ sz off m : Nat} : (D.ref σ sz off m).trim n = if σ < n then .ref σ sz off m else .junk := (rfl)
theorem trim_ptr {σ sz i o : Nat} : (D.ptr σ sz i o).trim n = if σ < n then .ptr σ sz i o else .junk := (rfl)
theorem trim_ag {ds : List D} : (D.ag ds).trim n = .ag (ds.map (D.trimA n)) := (rfl)
theorem trim_tu {ds : List D} : (D.tu ds).trim n = .tu (ds.map (D.trimA n)) := (rfl)
theorem trim_clo {f : FuncId} {ds : List D} : (D.clo f ds).trim n = .clo f (ds.map (D.trimA n)) := (rfl)
theorem trimA_v {x : Value} : (D.v x).trimA n = .v x := (rfl)
theorem trimA_nl : D.nl.trimA n = .nl := (rfl)
theorem trimA_sl {sz : Nat} {es : List (List D)} : (D.sl sz es).trimA n = .sl sz es := (rfl)
theorem trimA_ref {σ sz off m : Nat} : (D.ref σ sz off m).trimA n = if σ < n then .ref σ sz off m else .junk := (rfl)
theorem trimA_ptr {σ sz i o : Nat} : (D.ptr σ sz i o).trimA n = if σ < n then .ptr σ sz i o else .junk := (rfl)
end

section
variable {P : Program} {s : S} {K : S → Prop} {d : Option Nat}
theorem putK_eq {x : D} : putK d s K x = K (s.put d x) := (rfl)
theorem skipK_eq : skipK d K s = K (s.put d .junk) := (rfl)
theorem vcOps_nil : vcOps P [] K s = K s := (rfl)
theorem vcOps_cons {i : MI} {r : List Op1} : vcOps P (⟨none, d, i⟩ :: r) K s = vcI P i d (vcOps P r K) s := (rfl)
theorem vcOps_gd {i : MI} {g : Nat} {b : Bool} {r : List Op1} : vcOps P (⟨some (g, b), d, i⟩ :: r) K s = kGd (s.ρ g) g b (vcI P i d (vcOps P r K)) (skipK d (vcOps P r K)) s := (rfl)
theorem vcI_mov {x : O} : vcI P (.mov x) d K s = kD (s.g x) (putK d s K) := (rfl)
theorem vcI_pick {c a b : O} : vcI P (.pick c a b) d K s = kPick (s.g c) (s.g a) (s.g b) (putK d s K) := (rfl)
theorem vcI_len {x : O} : vcI P (.len x) d K s = kLen (s.g x) (putK d s K) := (rfl)
theorem vcI_idx {x i : O} {sz : Nat} : vcI P (.idx x i sz) d K s = kIdx (s.g x) (s.g i) sz (putK d s K) := (rfl)
theorem vcI_idxa {x i : O} {sz n : Nat} : vcI P (.idxa x i sz n) d K s = kIdxa (s.g x) (s.g i) sz n (putK d s K) := (rfl)
theorem vcI_idxv {x i : O} {sz n : Nat} {agg : Bool} : vcI P (.idxv x i sz n agg) d K s = kIdxv (s.g x) (s.g i) sz n agg (putK d s K) := (rfl)
theorem vcI_fld {x : O} {off : Nat} : vcI P (.fld x off) d K s = kFld (s.g x) off (putK d s K) := (rfl)
theorem vcI_ld1 {x : O} : vcI P (.ld1 x) d K s = kLd s (s.g x) (putK d s K) := (rfl)
theorem vcI_ldn {x : O} {n : Nat} : vcI P (.ldn x n) d K s = kLdn s (s.g x) n (putK d s K) := (rfl)
theorem vcI_bin {op : BinOp} {x y : O} : vcI P (.bin op x y) d K s = kBin op (s.g x) (s.g y) (putK d s K) := (rfl)
theorem vcI_eqb {neg : Bool} {x y : O} : vcI P (.eqb neg x y) d K s = kEqb neg (s.g x) (s.g y) (putK d s K) := (rfl)
theorem vcI_not {x : O} : vcI P (.not x) d K s = kNot (s.g x) (putK d s K) := (rfl)
theorem vcI_neg {x : O} : vcI P (.neg x) d K s = kNeg (s.g x) (putK d s K) := (rfl)
theorem vcI_cvi {q : IntKind} {x : O} : vcI P (.cvi q x) d K s = kCvi q (s.g x) (putK d s K) := (rfl)
theorem vcI_ext {x : O} {i : Nat} : vcI P (.ext x i) d K s = kExt (s.g x) i (putK d s K) := (rfl)
theorem vcI_getf {x : O} {off n : Nat} {agg : Bool} : vcI P (.getf x off n agg) d K s = kGetf (s.g x) off n agg (putK d s K) := (rfl)
theorem vcI_sub {x : O} {lo hi : Option O} {sz : Nat} : vcI P (.sub x lo hi sz) d K s = kSub (s.g x) (s.lo lo) (s.hi (s.g x) hi) sz (putK d s K) := (rfl)
theorem lo_some {o : O} : s.lo (some o) = s.g o := (rfl)
theorem lo_none : s.lo none = .v (.int .i64 0) := (rfl)
theorem hi_some {x : D} {o : O} : s.hi x (some o) = s.g o := (rfl)
theorem hi_none {x : D} : s.hi x none = lenDD x := (rfl)
theorem vcI_mkf {f : FuncId} {ds : List O} : vcI P (.mkf f ds) d K s = kD (.clo f (ds.map s.g)) (putK d s K) := (rfl)
theorem vcI_min {x y : O} : vcI P (.min x y) d K s = kMin false (s.g x) (s.g y) (putK d s K) := (rfl)
theorem vcI_max {x y : O} : vcI P (.max x y) d K s = kMin true (s.g x) (s.g y) (putK d s K) := (rfl)
theorem vcI_bld {zero : List D} {parts : List (Nat × Nat × O)} : vcI P (.bld zero parts) d K s = kBld s (putK d s K) parts zero := (rfl)
theorem kBld_nil {cells : List D} {k : D → Prop} : kBld s k [] cells = k (.ag cells) := (rfl)
theorem kBld_cons {cells : List D} {off n : Nat} {o : O} {r : List (Nat × Nat × O)} {k : D → Prop} : kBld s k ((off, n, o) :: r) cells = kBldS off n cells (kBld s k r) (s.g o).cells := (rfl)
theorem kBldS_1 {cells : List D} {off : Nat} {d : D} {go : List D → Prop} : kBldS off 1 cells go [d] = ChkD (off + 1 ≤ cells.length ∧ d.one = true) (cells.set off d) go := by
  unfold kBldS ChkD
  by_cases h : off + 1 ≤ cells.length
  · simp [h, splice, List.set_eq_take_append_cons_drop, show off < cells.length by omega]
  · simp [h]
theorem kBldS_n {cells : List D} {off n : Nat} {ds : List D} {go : List D → Prop} : kBldS off n cells go ds = ChkD (ds.length = n ∧ off + n ≤ cells.length ∧ ds.all D.one = true) (splice cells off ds) go := (rfl)
theorem vcI_nil {sz : Nat} : vcI P (.nil sz) d K s = K (s.newt d ⟨sz, [], true⟩ fun τ => .ref τ sz 0 0) := (rfl)
theorem vcI_new {zero : List D} : vcI P (.new zero) d K s = K (s.newt d ⟨zero.length, [zero], true⟩ fun τ => .ptr τ zero.length 0 0) := (rfl)
theorem vcI_box {x : O} {n : Nat} : vcI P (.box x n) d K s = kD [(s.g x).cells] (kRows s d n false K) := (rfl)
theorem vcI_mk {len : O} {sz : Nat} {zero : List D} {bytes : Nat} : vcI P (.mk len sz zero bytes) d K s = kMk s d sz zero bytes K (s.g len) := (rfl)
theorem vcI_bsl {sz : Nat} {es : List O} : vcI P (.bsl sz es) d K s = kD (es.map fun o => (s.g o).cells) (kRows s d sz true K) := (rfl)
theorem kRows_ref {n : Nat} {xs : List (List D)} : kRows s d n true K xs = Chk (xs.all (fun e => e.length == n && e.all D.one) = true) K (s.newt d ⟨n, xs, xs.all (fun e => e.all D.cl)⟩ fun τ => .ref τ n 0 xs.length) := (rfl)
theorem kRows_ptr {n : Nat} {xs : List (List D)} : kRows s d n false K xs = Chk (xs.all (fun e => e.length == n && e.all D.one) = true) K (s.newt d ⟨n, xs, xs.all (fun e => e.all D.cl)⟩ fun τ => .ptr τ n 0 0) := (rfl)
theorem vcI_st1 {x y : O} : vcI P (.st1 x y) d K s = kSt s d K (s.g x) (s.g y) := (rfl)
theorem vcI_stn {x y : O} {n : Nat} : vcI P (.stn x y n) d K s = kStn s d n K (s.g x) (s.g y) := (rfl)
theorem vcI_app {x y : O} {sz bytes : Nat} : vcI P (.app x y sz bytes) d K s = kApp s d sz bytes K (s.g x) (s.view (s.g y)) := (rfl)
theorem vcI_call {f : FuncId} {args : List O} : vcI P (.call f args) d K s = CallVC P f (args.map fun o => s.view (s.g o)) (args.any fun o => (s.g o).owned) (putK d s K) := (rfl)
theorem vcI_callq {f : FuncId} {args : List O} : vcI P (.callq f args) d K s = CallQ P f (args.map fun o => s.view (s.g o)) (putK d s K) := (rfl)
theorem newt_eq {ob : Ob} {x : Nat → D} : s.newt d ob x = ((s.setM s.N ob).setN (s.N + 1)).put d (x s.N) := (rfl)
end

theorem view_v {s : S} {x : Value} : s.view (.v x) = .v x := (rfl)
theorem view_nl {s : S} : s.view .nl = .nl := (rfl)
theorem view_sl {s : S} {sz : Nat} {es : List (List D)} : s.view (.sl sz es) = .sl sz es := (rfl)
theorem view_ip {s : S} {e : List D} {o : Nat} : s.view (.ip e o) = .ip e o := (rfl)
theorem view_junk {s : S} : s.view .junk = .junk := (rfl)
theorem view_clo {s : S} {f : FuncId} : s.view (.clo f []) = .clo f [] := (rfl)
theorem view_ref {s : S} {τ sz off n : Nat} : s.view (.ref τ sz off n) = viewO (s.M τ) sz off n := (rfl)
theorem viewO_some {sz off n : Nat} {es : List (List D)} (h : off + n ≤ es.length) : viewO (some ⟨sz, es, true⟩) sz off n = .sl sz ((es.drop off).take n) := by simp [viewO, h]
theorem viewO_all {sz n : Nat} {es : List (List D)} (h : n = es.length) : viewO (some ⟨sz, es, true⟩) sz 0 n = .sl sz es := by simp [viewO, h]
theorem view_ag {s : S} {ds : List D} : s.view (.ag ds) = .ag (ds.map s.viewA) := (rfl)
section
variable {s : S}
theorem viewA_v {x : Value} : s.viewA (.v x) = .v x := (rfl)
theorem viewA_nl : s.viewA .nl = .nl := (rfl)
theorem viewA_sl {sz : Nat} {es : List (List D)} : s.viewA (.sl sz es) = .sl sz es := (rfl)
theorem viewA_ref {τ sz off n : Nat} : s.viewA (.ref τ sz off n) = viewO (s.M τ) sz off n := (rfl)
end

theorem map_if_true {es : List (List D)} {τ : Nat} : (es.map fun e => if true = true then e else e.map (D.kill τ)) = es := by simp
theorem take_all {α : Type} {l : List α} {n : Nat} (h : n = l.length) : l.take n = l := by simp [h]

section
variable {P : Program} {s : S} {st : List Fr}
theorem vc_skip : vc P .skip st s = rs P .nrm st s := by rw [vc]
theorem vc_reg {q : Nat} {ops : List Op1} : vc P (.reg q ops) st s = vcOps P ops (rs P .nrm st) s := by rw [vc]
theorem vc_seq {a b : MC} : vc P (.seq a b) st s = vc P a (.s b :: st) s := by rw [vc]
theorem vc_cond {c : O} {x y : MC} : vc P (.cond c x y) st s = kCond (s.g c) (vc P x st) (vc P y st) s := by rw [vc]
theorem vc_blk {id : Nat} {c : MC} : vc P (.blk id c) st s = vc P c (.b id :: st) s := by rw [vc]
theorem vc_loop {asg : List Nat} {c : MC} : vc P (.loop asg c) st s = LoopVC P asg c st s := by rw [vc]; rfl
theorem vc_exit {id : Nat} : vc P (.exit id) st s = rs P (.exit id) st s := by rw [vc]
theorem vc_ret : vc P .ret st s = rs P .ret st s := by rw [vc]
theorem rs_f {e : Ex} {F : Ex → S → Prop} : rs P e (.f F :: st) s = F e s := by cases e <;> rw [rs]
theorem rs_sn {c : MC} : rs P .nrm (.s c :: st) s = vc P c st s := by rw [rs]
theorem rs_se {c : MC} {i : Nat} : rs P (.exit i) (.s c :: st) s = rs P (.exit i) st s := by rw [rs]
theorem rs_sr {c : MC} : rs P .ret (.s c :: st) s = rs P .ret st s := by rw [rs]
theorem rs_bn {id : Nat} : rs P .nrm (.b id :: st) s = rs P .nrm st s := by rw [rs]
theorem rs_be {i id : Nat} : rs P (.exit i) (.b id :: st) s = if i = id then rs P .nrm st s else rs P (.exit i) st s := by rw [rs]
theorem rs_br {id : Nat} : rs P .ret (.b id :: st) s = rs P .ret st s := by rw [rs]
theorem rs_ln {J : S → Prop} : rs P .nrm (.l J :: st) s = J s := by rw [rs]
theorem rs_le {i : Nat} {J : S → Prop} : rs P (.exit i) (.l J :: st) s = rs P (.exit i) st s := by rw [rs]
theorem rs_lr {J : S → Prop} : rs P .ret (.l J :: st) s = rs P .ret st s := by rw [rs]
theorem finQ_nrm {rs : List RO} {R : D → Prop} : finQ rs R .nrm s = kRes s R rs [] := (rfl)
theorem finQ_ret {rs : List RO} {R : D → Prop} : finQ rs R .ret s = kRes s R rs [] := (rfl)
theorem kRes_nil {R : D → Prop} {acc : List D} : kRes s R [] acc = kD (resD acc) (Fin R) := (rfl)
theorem kRes_t {R : D → Prop} {n : Nat} {r : List RO} {acc : List D} : kRes s R (.t n :: r) acc = kD (s.view (s.ρ n)) (resN s R r acc) := (rfl)
theorem kRes_cell {R : D → Prop} {n sz : Nat} {agg : Bool} {r : List RO} {acc : List D} : kRes s R (.cell n sz agg :: r) acc = kCell s sz agg (resN s R r acc) (s.ρ n) := (rfl)
theorem resN_eq {R : D → Prop} {r : List RO} {acc : List D} {x : D} : resN s R r acc x = kRes s R r (acc ++ [x]) := (rfl)
theorem kCell_ptr {τ z i o sz : Nat} {agg : Bool} {k : D → Prop} : kCell s sz agg k (.ptr τ z i o) = kM (s.M τ) (kCellO s z i o sz agg k) := (rfl)
theorem kCellO_agg {z z' i o sz : Nat} {es : List (List D)} {fl : Bool} {k : D → Prop} : kCellO s z i o sz true k ⟨z', es, fl⟩ = Chk (z' = z ∧ i < es.length ∧ o + sz ≤ z ∧ 0 < sz) (kD (s.view (.ag (((es.getD i []).drop o).take sz)))) k := by simp [kCellO]
theorem kCellO_one {z z' i o : Nat} {es : List (List D)} {fl : Bool} {k : D → Prop} : kCellO s z i o 1 false k ⟨z', es, fl⟩ = Chk (z' = z ∧ i < es.length ∧ o + 1 ≤ z) (kD (s.view ((es.getD i []).getD o .junk))) k := by simp [kCellO]
end
theorem resD_one {d : D} : resD [d] = d := (rfl)
theorem resD_two {d e : D} {r : List D} : resD (d :: e :: r) = .tu (d :: e :: r) := (rfl)
theorem resD_nil : resD [] = .tu [] := (rfl)

section
theorem Le_refl (d : D) : d.Le d := fun _ _ _ h => h
theorem Le_junk (d : D) : d.Le .junk := fun _ _ x _ => .junk x
theorem Le_nl (sz : Nat) : D.nl.Le (.sl sz []) := fun _ _ _ h => by cases h; exact .sl0 sz none 0
theorem Fin.mk {d : D} {R : D → Prop} (h : R d) : Fin R d := ⟨d, Le_refl d, h⟩
theorem Fin.le {d d' : D} {R : D → Prop} (h : d.Le d') (k : R d') : Fin R d := ⟨d', h, k⟩
theorem fin_mk {d : D} {R : D → Prop} (h : R d) : Fin R d := ⟨d, Le_refl d, h⟩
theorem fin_le {d d' : D} {R : D → Prop} (h : d.Le d') (k : R d') : Fin R d := ⟨d', h, k⟩
theorem Les.refl : ∀ l : List D, Les l l
  | [] => .nil
  | d :: l => .cons (Le_refl d) (Les.refl l)
theorem CallVC.mk {P : Program} {f : FuncId} {ds : List D} {k : D → Prop} {R : D → Prop} (h : Spec P f ds R) (hk : ∀ d, R d → k d) : CallVC P f ds false k :=
  ⟨ds, R, Les.refl ds, h, fun d hd => ⟨by simp, hk d hd⟩⟩
theorem CallVC.eq {P : Program} {f : FuncId} {ds : List D} {k : D → Prop} {r : D} (h : Spec P f ds (· = r)) (hk : k r) : CallVC P f ds false k :=
  CallVC.mk h fun _ e => e ▸ hk
theorem CallVC.eqo {P : Program} {f : FuncId} {ds : List D} {k : D → Prop} {r : D} (h : Spec P f ds (· = r)) (hp : r.plain = true) (hk : k r) : CallVC P f ds true k :=
  ⟨ds, _, Les.refl ds, h, fun _ e => by subst e; exact ⟨fun _ => hp, hk⟩⟩
theorem CallQ.eq {P : Program} {f : FuncId} {ds : List D} {k : D → Prop} {x : Value} (h : Spec P f ds (· = .v x)) (hk : k (.v x)) : CallQ P f ds k := ⟨ds, x, Les.refl ds, h, hk⟩
theorem LoopVC.mk {P : Program} {asg : List Nat} {c : MC} {st : List Fr} {s : S} {X : Type} (ups : X → List (Nat × D)) (ms : X → List (Nat × Ob)) (μ : X → Nat) (Inv : X → Prop) (x0 : X)
    (h0 : Inv x0) (hf : Fits s (ups x0) (ms x0))
    (hr : ∀ x, Inv x → vc P c (.l (loopK ups ms μ Inv s.N x) :: st) (s.head asg (ups x) (ms x))) : LoopVC P asg c st s :=
  ⟨X, ups, ms, μ, Inv, x0, h0, hf, hr⟩
theorem loopK.mk {X : Type} {ups : X → List (Nat × D)} {ms : X → List (Nat × Ob)} {μ : X → Nat} {Inv : X → Prop} {n : Nat} {x : X} {s : S} (x' : X) (hn : n ≤ s.N) (h : Inv x') (hm : μ x' < μ x) (hf : Fits (s.trim n) (ups x') (ms x')) :
    loopK ups ms μ Inv n x s := ⟨hn, x', h, hm, hf⟩
theorem Fits.mk {s : S} {ups : List (Nat × D)} {ms : List (Nat × Ob)} (h : ∀ p, p ∈ ups → s.ρ p.1 = p.2) (k : ∀ p, p ∈ ms → s.M p.1 = some p.2) : Fits s ups ms := ⟨h, k⟩
end
theorem Fits_nil {s : S} : Fits s [] [] = True := by simp [Fits]
theorem Fits_u {s : S} {t : Nat} {d : D} {r : List (Nat × D)} {ms : List (Nat × Ob)} : Fits s ((t, d) :: r) ms = (s.ρ t = d ∧ Fits s r ms) := by simp [Fits, and_assoc]
theorem Fits_m {s : S} {t : Nat} {ob : Ob} {ms : List (Nat × Ob)} : Fits s [] ((t, ob) :: ms) = (s.M t = some ob ∧ Fits s [] ms) := by simp [Fits]

end Go.Dm
