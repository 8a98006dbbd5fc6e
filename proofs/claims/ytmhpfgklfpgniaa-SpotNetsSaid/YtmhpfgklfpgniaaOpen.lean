/-
  How the arguments' types are opened as descriptions. Printed by program.
-/
import Derived.Test.YtmhpfgklfpgniaaDmZ
import Derived.Test.YtmhpfgklfpgniaaDmY
import Derived.Test.YtmhpfgklfpgniaaProg
import Derived.KernelRfl
namespace Go.Proofs.Ytmhpfgklfpgniaa
open Go.ChangeShapes Go.WideShapes Go.ChangeAt Go.RowKit Go.Dm
theorem Try.own : ownKnob Try.prog.godebug = none := by kernel_rfl
theorem Try.laidOut : laidOutB Try.prog = true := by kernel_rfl
theorem Try.o_u8 : Opens Try.prog 5 1 (fun n : UInt8 => [.v (.int .u8 (n.toNat : Int))]) (fun _ => True) :=
  Opens.u8 Try.underlying5 (by kernel_rfl)
theorem Try.o_int : Opens Try.prog 3 1 (fun n : Int => [.v (.int .i64 n)]) ok64 :=
  Opens.i64 Try.underlying3 (by kernel_rfl)
theorem Try.o_int64 : Opens Try.prog 2 1 (fun n : Int => [.v (.int .i64 n)]) ok64 :=
  Opens.i64 Try.underlying2 (by kernel_rfl)
theorem Try.o_u32 : Opens Try.prog 42 1 (fun n : Int => [.v (.int .u32 n)]) ok32 :=
  Opens.u32 Try.underlying42 (by kernel_rfl)
theorem Try.o_bool : Opens Try.prog 4 1 (fun b : Bool => [.v (.bool b)]) (fun _ => True) :=
  Opens.bool Try.underlying4 (by kernel_rfl)
theorem Try.o_ints : Opens Try.prog 26 1 (fun l => [.sl 1 (i64s l)]) (okL ok64) :=
  Opens.slice Try.underlying26 (by kernel_rfl) Try.o_int (by omega)
theorem Try.o_bools : Opens Try.prog 70 1 (fun l => [.sl 1 (bls l)]) (okL (fun _ => True)) :=
  Opens.slice Try.underlying70 (by kernel_rfl) Try.o_bool (by omega)
theorem Try.o_mat : Opens Try.prog 53 1 (fun l => [.sl 1 (rows i64s l)]) (okL (okL ok64)) :=
  Opens.slice Try.underlying53 (by kernel_rfl) Try.o_ints (by omega)
theorem Try.o_arc : Opens Try.prog 50 3 arcD Arc.ok :=
  (Opens.struct (sz := 3) Try.underlying50 (by kernel_rfl) (OpensFs.cons rfl Try.o_int (OpensFs.cons rfl Try.o_int (OpensFs.cons rfl Try.o_int (OpensFs.nil _)))) (fun _ => rfl)).map (fun _ => rfl) fun ⟨x0, x1, x2, ⟨⟩⟩ h => ⟨⟨x0, x1, x2⟩, ⟨h.1, h.2.1, h.2.2.1⟩, rfl⟩
theorem Try.o_arcs : Opens Try.prog 41 1 (fun l => [.sl 3 (tbl arcD l)]) (okL Arc.ok) :=
  Opens.slice Try.underlying41 (by kernel_rfl) Try.o_arc (by omega)
theorem Try.o_net : Opens Try.prog 44 5 netD Net.ok :=
  (Opens.struct (sz := 5) Try.underlying44 (by kernel_rfl) (OpensFs.cons rfl Try.o_int (OpensFs.cons rfl Try.o_int (OpensFs.cons rfl Try.o_arcs (OpensFs.cons rfl Try.o_u32 (OpensFs.cons rfl Try.o_u32 (OpensFs.nil _)))))) (fun _ => rfl)).map (fun _ => rfl) fun ⟨x0, x1, x2, x3, x4, ⟨⟩⟩ h => ⟨⟨x0, x1, x2, x3, x4⟩, ⟨h.1, h.2.1, h.2.2.1, h.2.2.2.1, h.2.2.2.2.1⟩, rfl⟩
theorem Try.o_mac : Opens Try.prog 55 5 macD Machine.ok :=
  (Opens.struct (sz := 5) Try.underlying55 (by kernel_rfl) (OpensFs.cons rfl Try.o_int (OpensFs.cons rfl Try.o_int (OpensFs.cons rfl Try.o_mat (OpensFs.cons rfl Try.o_int (OpensFs.cons rfl Try.o_u32 (OpensFs.nil _)))))) (fun _ => rfl)).map (fun _ => rfl) fun ⟨x0, x1, x2, x3, x4, ⟨⟩⟩ h => ⟨⟨x0, x1, x2, x3, x4⟩, ⟨h.1, h.2.1, h.2.2.1, h.2.2.2.1, h.2.2.2.2.1⟩, rfl⟩
theorem Try.o_nod : Opens Try.prog 66 3 nodD Node.ok :=
  (Opens.struct (sz := 3) Try.underlying66 (by kernel_rfl) (OpensFs.cons rfl Try.o_int (OpensFs.cons rfl Try.o_int (OpensFs.cons rfl Try.o_int (OpensFs.nil _)))) (fun _ => rfl)).map (fun _ => rfl) fun ⟨x0, x1, x2, ⟨⟩⟩ h => ⟨⟨x0, x1, x2⟩, ⟨h.1, h.2.1, h.2.2.1⟩, rfl⟩
theorem Try.o_nods : Opens Try.prog 22 1 (fun l => [.sl 3 (tbl nodD l)]) (okL Node.ok) :=
  Opens.slice Try.underlying22 (by kernel_rfl) Try.o_nod (by omega)
end Go.Proofs.Ytmhpfgklfpgniaa
