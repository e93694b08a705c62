/- A world that holds the library's tables: for the rows' witnesses. -/
import Derived.Test.YtgamebffdcpjaaaGreatDoorP1
namespace Go.Proofs.YtgamebffdcpjaaaGreatDoor
open Go.ChangeShapes Go.WideShapes Go.ChangeAt Go.RowKit Go.Lib
set_option maxRecDepth 1000000

def numsOf {H : Type} : DataW H → Array Value
  | .agg ds => (ds.flatMap fun d => match d with
    | .lit (.int k z) => [Value.int k z]
    | .agg es => es.filterMap fun e => match e with
      | .lit (.int k z) => some (Value.int k z)
      | _ => none
    | _ => []).toArray
  | _ => #[]

/-- The settled world, the tables and the two errors laid. -/
noncomputable def laidWorld (os : Os) : World :=
  let N := (World.settled Tryz.prog os).heap.size
  let w0 := World.holding Tryz.prog os ⟨#[.cells #[.string ⟨#[105, 110, 118, 97, 108, 105, 100, 32, 115, 121, 110, 116, 97, 120]⟩] 253, .cells #[.string ⟨#[118, 97, 108, 117, 101, 32, 111, 117, 116, 32, 111, 102, 32, 114, 97, 110, 103, 101]⟩] 253], #[], []⟩
  let put (h : Array Obj) (g : Nat) (cs : Array Value) : Array Obj := h.modify g fun
    | .cells _ t frozen => .cells cs t frozen
    | o => o
  let h0 := put (put w0.heap 4 #[.iface 251 (.pointer (some ⟨N, 0, none⟩))]) 5 #[.iface 251 (.pointer (some ⟨N + 1, 0, none⟩))]
  let h1 := put h0 1 (numsOf (H := Unit) Rows.laid_internal_strconv_uint64pow10)
  let h2 := put h1 2 (numsOf (H := Unit) Rows.laid_unicode_utf8_first)
  let h3 := put h2 3 (numsOf (H := Unit) Rows.laid_unicode_utf8_acceptRanges)
  let h4 := put h3 6 (numsOf (H := Unit) Rows.laid_math_bits_deBruijn32tab)
  let h5 := put h4 7 (numsOf (H := Unit) Rows.laid_math_bits_deBruijn64tab)
  { w0 with heap := h5 }

noncomputable abbrev N0 : Nat := (World.settled Tryz.prog default).heap.size
theorem laid_in (os : Os) (args : Array Value) : LaidIn Tryz.prog ((laidWorld os).forCall (fun _ _ => 0) ⟨#[], args, []⟩).memory Rows.bareTellsRow.laid [6, 7, 1, 3, 5, N0 + 1, 4, N0, 2] :=
  LaidIn.of_run [6, 7, 1, 3, 5, N0 + 1, 4, N0, 2] 8 (by kernel_rfl) (by kernel_rfl) (by kernel_rfl) (by kernel_rfl)
end Go.Proofs.YtgamebffdcpjaaaGreatDoor
