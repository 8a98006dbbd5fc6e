/-
  How the arguments' types are opened as descriptions. Printed by program.
-/
import Derived.Test.YtdcdldfleeilnaaDmZ
import Derived.Test.YtdcdldfleeilnaaDmY
import Derived.Test.YtdcdldfleeilnaaProg
import Derived.KernelRfl
namespace Go.Proofs.Ytdcdldfleeilnaa
open Go.ChangeShapes Go.WideShapes Go.ChangeAt Go.RowKit Go.Dm
theorem Try.own : ownKnob Try.prog.godebug = none := by kernel_rfl
theorem Try.laidOut : laidOutB Try.prog = true := by kernel_rfl
theorem Try.o_u8 : Opens Try.prog 5 1 (fun n : UInt8 => [.v (.int .u8 (n.toNat : Int))]) (fun _ => True) :=
  Opens.u8 Try.underlying5 (by kernel_rfl)
theorem Try.o_int : Opens Try.prog 3 1 (fun n : Int => [.v (.int .i64 n)]) ok64 :=
  Opens.i64 Try.underlying3 (by kernel_rfl)
theorem Try.o_int64 : Opens Try.prog 2 1 (fun n : Int => [.v (.int .i64 n)]) ok64 :=
  Opens.i64 Try.underlying2 (by kernel_rfl)
theorem Try.o_u32 : Opens Try.prog 75 1 (fun n : Int => [.v (.int .u32 n)]) ok32 :=
  Opens.u32 Try.underlying75 (by kernel_rfl)
theorem Try.o_bool : Opens Try.prog 4 1 (fun b : Bool => [.v (.bool b)]) (fun _ => True) :=
  Opens.bool Try.underlying4 (by kernel_rfl)
theorem Try.o_u8s : Opens Try.prog 22 1 (fun l => [.sl 1 (u8s l)]) (okL (fun _ => True)) :=
  Opens.slice Try.underlying22 (by kernel_rfl) Try.o_u8 (by omega)
theorem Try.o_ints : Opens Try.prog 23 1 (fun l => [.sl 1 (i64s l)]) (okL ok64) :=
  Opens.slice Try.underlying23 (by kernel_rfl) Try.o_int (by omega)
theorem Try.o_words : Opens Try.prog 34 1 (fun l => [.sl 1 (rows u8s l)]) (okL (okL (fun _ => True))) :=
  Opens.slice Try.underlying34 (by kernel_rfl) Try.o_u8s (by omega)
end Go.Proofs.Ytdcdldfleeilnaa
