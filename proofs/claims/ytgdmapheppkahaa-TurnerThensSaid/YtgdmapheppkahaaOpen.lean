/-
  How the arguments' types are opened as descriptions. Printed by program.
-/
import Derived.Test.YtgdmapheppkahaaDmZ
import Derived.Test.YtgdmapheppkahaaDmY
import Derived.Test.YtgdmapheppkahaaProg
import Derived.KernelRfl
namespace Go.Proofs.Ytgdmapheppkahaa
open Go.ChangeShapes Go.WideShapes Go.ChangeAt Go.RowKit Go.Dm
theorem Try.own : ownKnob Try.prog.godebug = none := by kernel_rfl
theorem Try.laidOut : laidOutB Try.prog = true := by kernel_rfl
theorem Try.o_u8 : Opens Try.prog 5 1 (fun n : UInt8 => [.v (.int .u8 (n.toNat : Int))]) (fun _ => True) :=
  Opens.u8 Try.underlying5 (by kernel_rfl)
theorem Try.o_int : Opens Try.prog 3 1 (fun n : Int => [.v (.int .i64 n)]) ok64 :=
  Opens.i64 Try.underlying3 (by kernel_rfl)
theorem Try.o_int64 : Opens Try.prog 2 1 (fun n : Int => [.v (.int .i64 n)]) ok64 :=
  Opens.i64 Try.underlying2 (by kernel_rfl)
theorem Try.o_u32 : Opens Try.prog 23 1 (fun n : Int => [.v (.int .u32 n)]) ok32 :=
  Opens.u32 Try.underlying23 (by kernel_rfl)
theorem Try.o_bool : Opens Try.prog 4 1 (fun b : Bool => [.v (.bool b)]) (fun _ => True) :=
  Opens.bool Try.underlying4 (by kernel_rfl)
theorem Try.o_ints : Opens Try.prog 33 1 (fun l => [.sl 1 (i64s l)]) (okL ok64) :=
  Opens.slice Try.underlying33 (by kernel_rfl) Try.o_int (by omega)
theorem Try.o_mat : Opens Try.prog 22 1 (fun l => [.sl 1 (rows i64s l)]) (okL (okL ok64)) :=
  Opens.slice Try.underlying22 (by kernel_rfl) Try.o_ints (by omega)
theorem Try.o_cube : Opens Try.prog 57 1 (fun l => [.sl 1 (rows (rows i64s) l)]) (okL (okL (okL ok64))) :=
  Opens.slice Try.underlying57 (by kernel_rfl) Try.o_mat (by omega)
theorem Try.o_mac : Opens Try.prog 25 5 macD Machine.ok :=
  (Opens.struct (sz := 5) Try.underlying25 (by kernel_rfl) (OpensFs.cons rfl Try.o_int (OpensFs.cons rfl Try.o_int (OpensFs.cons rfl Try.o_mat (OpensFs.cons rfl Try.o_int (OpensFs.cons rfl Try.o_u32 (OpensFs.nil _)))))) (fun _ => rfl)).map (fun _ => rfl) fun ⟨x0, x1, x2, x3, x4, ⟨⟩⟩ h => ⟨⟨x0, x1, x2, x3, x4⟩, ⟨h.1, h.2.1, h.2.2.1, h.2.2.2.1, h.2.2.2.2.1⟩, rfl⟩
theorem Try.o_tur : Opens Try.prog 59 6 turD Turner.ok :=
  (Opens.struct (sz := 6) Try.underlying59 (by kernel_rfl) (OpensFs.cons rfl Try.o_int (OpensFs.cons rfl Try.o_int (OpensFs.cons rfl Try.o_int (OpensFs.cons rfl Try.o_mat (OpensFs.cons rfl Try.o_cube (OpensFs.cons rfl Try.o_int (OpensFs.nil _))))))) (fun _ => rfl)).map (fun _ => rfl) fun ⟨x0, x1, x2, x3, x4, x5, ⟨⟩⟩ h => ⟨⟨x0, x1, x2, x3, x4, x5⟩, ⟨h.1, h.2.1, h.2.2.1, h.2.2.2.1, h.2.2.2.2.1, h.2.2.2.2.2.1⟩, rfl⟩
end Go.Proofs.Ytgdmapheppkahaa
