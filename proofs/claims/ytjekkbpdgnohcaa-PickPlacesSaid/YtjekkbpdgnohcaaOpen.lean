/-
  How the arguments' types are opened as descriptions. Printed by program.
-/
import Derived.Test.YtjekkbpdgnohcaaDmZ
import Derived.Test.YtjekkbpdgnohcaaDmY
import Derived.Test.YtjekkbpdgnohcaaProg
import Derived.KernelRfl
namespace Go.Proofs.Ytjekkbpdgnohcaa
open Go.ChangeShapes Go.WideShapes Go.ChangeAt Go.RowKit Go.Dm
theorem Try.own : ownKnob Try.prog.godebug = none := by kernel_rfl
theorem Try.laidOut : laidOutB Try.prog = true := by kernel_rfl
theorem Try.o_int : Opens Try.prog 3 1 (fun n : Int => [.v (.int .i64 n)]) ok64 :=
  Opens.i64 Try.underlying3 (by kernel_rfl)
theorem Try.o_ints : Opens Try.prog 28 1 (fun l => [.sl 1 (i64s l)]) (okL ok64) :=
  Opens.slice Try.underlying28 (by kernel_rfl) Try.o_int (by omega)
theorem Try.o_rul : Opens Try.prog 30 2 rulD Rule.ok :=
  (Opens.struct (sz := 2) Try.underlying30 (by kernel_rfl) (OpensFs.cons rfl Try.o_int (OpensFs.cons rfl Try.o_ints (OpensFs.nil _))) (fun _ => rfl)).map (fun _ => rfl) fun ⟨x0, x1, ⟨⟩⟩ h => ⟨⟨x0, x1⟩, ⟨h.1, h.2.1⟩, rfl⟩
theorem Try.o_ruls : Opens Try.prog 38 1 (fun l => [.sl 2 (tbl rulD l)]) (okL Rule.ok) :=
  Opens.slice Try.underlying38 (by kernel_rfl) Try.o_rul (by omega)
theorem Try.o_gra : Opens Try.prog 40 4 graD Grammar.ok :=
  (Opens.struct (sz := 4) Try.underlying40 (by kernel_rfl) (OpensFs.cons rfl Try.o_int (OpensFs.cons rfl Try.o_int (OpensFs.cons rfl Try.o_int (OpensFs.cons rfl Try.o_ruls (OpensFs.nil _))))) (fun _ => rfl)).map (fun _ => rfl) fun ⟨x0, x1, x2, x3, ⟨⟩⟩ h => ⟨⟨x0, x1, x2, x3⟩, ⟨h.1, h.2.1, h.2.2.1, h.2.2.2.1⟩, rfl⟩
end Go.Proofs.Ytjekkbpdgnohcaa
