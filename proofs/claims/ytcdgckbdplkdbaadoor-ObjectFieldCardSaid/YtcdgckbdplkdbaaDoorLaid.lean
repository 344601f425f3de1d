/- What the rows' list of variables gives: the table of powers of ten. -/
import Derived.Test.YtcdgckbdplkdbaaDoorLaidW
import Derived.Test.YtcdgckbdplkdbaaDoorItoa
namespace Go.Proofs.YtcdgckbdplkdbaaDoor
open Go.ChangeShapes Go.WideShapes Go.ChangeAt Go.RowKit

theorem gPow : Tryd.prog.globalNamed "internal/strconv.uint64pow10" = some 1 := by kernel_rfl
theorem gPowType : (Tryd.prog.globals[1]?).map (·.type) = some 100 := by kernel_rfl
theorem cellsPow : Tryd.prog.cellsOf 100 = 20 := by kernel_rfl
theorem cellsU64 : Tryd.prog.cellsOf 72 = 1 := by kernel_rfl
theorem pow_data : (Rows.laid_internal_strconv_uint64pow10 : DataW Unit) = Lib.tabData .u64 Lib.pow10Tab := by kernel_rfl
theorem table {W : World} {l : List (String × DataW Unit)} (hl : l.filter (fun x => x.1 == "internal/strconv.uint64pow10") = [("internal/strconv.uint64pow10", Rows.laid_internal_strconv_uint64pow10)]) (h : laidMet Tryd.prog l W) : Tab W := by
  have h1 := h.filter (fun x => x.1 == "internal/strconv.uint64pow10")
  rw [hl, pow_data] at h1
  exact Lib.tabIs_of_head (rest := []) gPow gPowType Tryd.underlying100 Tryd.underlying72 cellsU64 cellsPow h1

end Go.Proofs.YtcdgckbdplkdbaaDoor
