/-
  How the arguments' types are opened as descriptions. Printed by program.
-/
import Derived.Test.YtllkafockafdcaaDmZ
import Derived.Test.YtllkafockafdcaaDmY
import Derived.Test.YtllkafockafdcaaProg
import Derived.KernelRfl
namespace Go.Proofs.Ytllkafockafdcaa
open Go.ChangeShapes Go.WideShapes Go.ChangeAt Go.RowKit Go.Dm
theorem Try.own : ownKnob Try.prog.godebug = none := by kernel_rfl
theorem Try.laidOut : laidOutB Try.prog = true := by kernel_rfl
theorem Try.o_u8 : Opens Try.prog 5 1 (fun n : UInt8 => [.v (.int .u8 (n.toNat : Int))]) (fun _ => True) :=
  Opens.u8 Try.underlying5 (by kernel_rfl)
theorem Try.o_int : Opens Try.prog 3 1 (fun n : Int => [.v (.int .i64 n)]) ok64 :=
  Opens.i64 Try.underlying3 (by kernel_rfl)
theorem Try.o_int64 : Opens Try.prog 2 1 (fun n : Int => [.v (.int .i64 n)]) ok64 :=
  Opens.i64 Try.underlying2 (by kernel_rfl)
theorem Try.o_u32 : Opens Try.prog 81 1 (fun n : Int => [.v (.int .u32 n)]) ok32 :=
  Opens.u32 Try.underlying81 (by kernel_rfl)
theorem Try.o_bool : Opens Try.prog 4 1 (fun b : Bool => [.v (.bool b)]) (fun _ => True) :=
  Opens.bool Try.underlying4 (by kernel_rfl)
theorem Try.o_ints : Opens Try.prog 23 1 (fun l => [.sl 1 (i64s l)]) (okL ok64) :=
  Opens.slice Try.underlying23 (by kernel_rfl) Try.o_int (by omega)
theorem Try.o_bools : Opens Try.prog 22 1 (fun l => [.sl 1 (bls l)]) (okL (fun _ => True)) :=
  Opens.slice Try.underlying22 (by kernel_rfl) Try.o_bool (by omega)
theorem Try.o_mat : Opens Try.prog 70 1 (fun l => [.sl 1 (rows i64s l)]) (okL (okL ok64)) :=
  Opens.slice Try.underlying70 (by kernel_rfl) Try.o_ints (by omega)
theorem Try.o_opr : Opens Try.prog 58 2 oprD Opr.ok :=
  (Opens.struct (sz := 2) Try.underlying58 (by kernel_rfl) (OpensFs.cons rfl Try.o_int (OpensFs.cons rfl Try.o_bool (OpensFs.nil _))) (fun _ => rfl)).map (fun _ => rfl) fun ⟨x0, x1, ⟨⟩⟩ h => ⟨⟨x0, x1⟩, h.1, rfl⟩
theorem Try.o_oprs : Opens Try.prog 39 1 (fun l => [.sl 2 (tbl oprD l)]) (okL Opr.ok) :=
  Opens.slice Try.underlying39 (by kernel_rfl) Try.o_opr (by omega)
end Go.Proofs.Ytllkafockafdcaa
