/- What the rows' list of variables gives, and a world that holds them. -/
import Derived.Test.YtgphkgmhcmffnaaGreatDoorCards
import Derived.Test.YtgphkgmhcmffnaaGreatDoorTie
import Derived.ProofKit
import Derived.OpenShut
import Derived.ShutString
import Derived.Deep.DeepHandedRow
import Derived.Deep.DeepWitnessRowRef
import Derived.Lib.ItoaNum
import Derived.Lib.LaidTab
import Derived.LaidSub
import Derived.Test.YtgphkgmhcmffnaaGreatDoorJD
namespace Go.Proofs.YtgphkgmhcmffnaaGreatDoor
open Go.ChangeShapes Go.WideShapes Go.ChangeAt Go.RowKit

theorem own : ownKnob Tryz.prog.godebug = none := by kernel_rfl
/-- So many blocks has the settled world. -/
noncomputable def low : Nat := (World.holding Tryz.prog default ⟨#[], #[], []⟩).heap.size
def cellsOfTab (k : IntKind) (zs : List Int) : Array Value := (zs.map fun z => Value.int k z).toArray
def put (h : Array Obj) (g : Nat) (cs : Array Value) : Array Obj := h.modify g fun
  | .cells _ t frozen => .cells cs t frozen
  | o => o
/-- the settled world, two blocks more for the texts of the two errors, and each variable as its initialiser lays it -/
noncomputable def laidWorld (os : Os) : World :=
  let w0 := World.holding Tryz.prog os ⟨#[.cells #[.string ⟨#[118, 97, 108, 117, 101, 32, 111, 117, 116, 32, 111, 102, 32, 114, 97, 110, 103, 101]⟩] 153, .cells #[.string ⟨#[105, 110, 118, 97, 108, 105, 100, 32, 115, 121, 110, 116, 97, 120]⟩] 153], #[], []⟩
  let h1 := put w0.heap 0 (cellsOfTab .u64 Lib.pow10Tab)
  let h2 := put h1 1 (cellsOfTab .u8 [0, 1, 28, 2, 29, 14, 24, 3, 30, 22, 20, 15, 25, 17, 4, 8, 31, 27, 13, 23, 21, 19, 16, 7, 26, 12, 18, 6, 11, 5, 10, 9])
  let h3 := put h2 2 (cellsOfTab .u8 [0, 1, 56, 2, 57, 49, 28, 3, 61, 58, 42, 50, 38, 29, 17, 4, 62, 47, 59, 36, 45, 43, 51, 22, 53, 39, 33, 30, 24, 18, 12, 5, 63, 55, 48, 27, 60, 41, 37, 16, 46, 35, 44, 21, 52, 32, 23, 11, 54, 26, 40, 15, 34, 20, 31, 10, 25, 14, 19, 9, 13, 8, 7, 6])
  let h4 := put h3 4 #[.iface 151 (.pointer (some ⟨low, 0, none⟩))]
  let h5 := put h4 3 #[.iface 151 (.pointer (some ⟨low + 1, 0, none⟩))]
  { w0 with heap := h5 }
end Go.Proofs.YtgphkgmhcmffnaaGreatDoor
/- What the rows' list of variables gives: the table of powers of ten. -/
namespace Go.Proofs.YtgphkgmhcmffnaaGreatDoor
open Go.ChangeShapes Go.WideShapes Go.ChangeAt Go.RowKit

theorem gPow : Tryz.prog.globalNamed "internal/strconv.uint64pow10" = some 0 := by kernel_rfl
theorem gPowType : (Tryz.prog.globals[0]?).map (·.type) = some 128 := by kernel_rfl
theorem cellsPow : Tryz.prog.cellsOf 128 = 20 := by kernel_rfl
theorem cellsU64 : Tryz.prog.cellsOf 105 = 1 := by kernel_rfl
theorem pow_data : (Rows.laid_internal_strconv_uint64pow10 : DataW Unit) = Lib.tabData .u64 Lib.pow10Tab := by kernel_rfl
theorem table {W : World} {l : List (String × DataW Unit)} (hl : l.filter (fun x => x.1 == "internal/strconv.uint64pow10") = [("internal/strconv.uint64pow10", Rows.laid_internal_strconv_uint64pow10)]) (h : laidMet Tryz.prog l W) : Tab W := by
  have h1 := h.filter (fun x => x.1 == "internal/strconv.uint64pow10")
  rw [hl, pow_data] at h1
  exact Lib.tabIs_of_head (rest := []) gPow gPowType Tryz.underlying128 Tryz.underlying105 cellsU64 cellsPow h1

end Go.Proofs.YtgphkgmhcmffnaaGreatDoor
