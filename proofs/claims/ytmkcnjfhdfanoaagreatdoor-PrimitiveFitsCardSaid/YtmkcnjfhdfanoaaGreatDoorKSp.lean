/- Guard of the reference, on trees. -/
import Derived.Test.YtmkcnjfhdfanoaaGreatDoorKN
namespace Go.Proofs.YtmkcnjfhdfanoaaGreatDoor
open Go.RowKit

theorem p_rGd0 {x : Tr} (_hx : Arg x) {y : Tr} (_hy : Arg y) {z : Tr} (_hz : Arg z) : Puk 25 [syA lispB [105, 102], rowA [x, y, z]] (boA (Tr.gd 0 x y)) := by
  cases hNx : x.isN with
  | true =>
    cases hTx : x.isT with
    | true =>
      cases hNy : y.isN with
      | true =>
        cases hTy : y.isT with
        | true =>
          exact pwalk (an := [.av (.tup [inA 3, boA true]), .no, .no, .no, .no, yT, .no, yT, .no, .no, .no, yT, .no, yT, .no, .no, .no, .av (boA z.isN), .no, .av (boA z.isT), .no, .no, .no, .no, .no, .no, .no, .no, .no, .no, .no, .no, .no, .no, .no, .no, .no, .no, .no]) (ls := []) (ps := [Puk 16 [(syA lispB [105, 102])] (.tup [(inA 3), (boA true)]), Bn .eql 3 (.tmp 38) (.const (vi 1)) (vi x.ob.kind) (vi 1) bT, Bn .eql 3 (.tmp 47) (.const (vi 3)) (vi x.ob.kind) (vi 3) bT, Bn .eql 3 (.tmp 38) (.const (vi 1)) (vi y.ob.kind) (vi 1) bT, Bn .eql 3 (.tmp 47) (.const (vi 3)) (vi y.ob.kind) (vi 3) bT, Bn .eql 3 (.tmp 38) (.const (vi 1)) (vi z.ob.kind) (vi 1) (Value.bool z.isN), Bn .eql 3 (.tmp 47) (.const (vi 3)) (vi z.ob.kind) (vi 3) (Value.bool z.isT)]) Tryz.func25 (by kernel_rfl) (by kernel_rfl) ⟨p_rAr0, bin_ieq ((isN_k x).trans hNx), bin_ieq ((isT_k x).trans hTx), bin_ieq ((isN_k y).trans hNy), bin_ieq ((isT_k y).trans hTy), bin_ieq (isN_k z), bin_ieq (isT_k z), trivial⟩
        | false =>
          exact pwalk (an := [.av (.tup [inA 3, boA true]), .no, .no, .no, .no, yT, .no, yT, .no, .no, .no, yT, .no, yF, .no, .no, .no, .av (boA z.isN), .no, .no, .no, .no, .no, .no, .no, .no, .no, .no, .no, .no, .no, .no, .no, .no, .no, .no, .no]) (ls := []) (ps := [Puk 16 [(syA lispB [105, 102])] (.tup [(inA 3), (boA true)]), Bn .eql 3 (.tmp 38) (.const (vi 1)) (vi x.ob.kind) (vi 1) bT, Bn .eql 3 (.tmp 47) (.const (vi 3)) (vi x.ob.kind) (vi 3) bT, Bn .eql 3 (.tmp 38) (.const (vi 1)) (vi y.ob.kind) (vi 1) bT, Bn .eql 3 (.tmp 47) (.const (vi 3)) (vi y.ob.kind) (vi 3) bF, Bn .eql 3 (.tmp 38) (.const (vi 1)) (vi z.ob.kind) (vi 1) (Value.bool z.isN)]) Tryz.func25 (by kernel_rfl) (by kernel_rfl) ⟨p_rAr0, bin_ieq ((isN_k x).trans hNx), bin_ieq ((isT_k x).trans hTx), bin_ieq ((isN_k y).trans hNy), bin_ieq ((isT_k y).trans hTy), bin_ieq (isN_k z), trivial⟩
      | false =>
        cases hTy : y.isT with
        | true =>
          exact pwalk (an := [.av (.tup [inA 3, boA true]), .no, .no, .no, .no, yT, .no, yT, .no, .no, .no, yF, .no, yT, .no, .no, .no, .av (boA z.isT), .no, .no, .no, .no, .no, .no, .no, .no, .no, .no, .no, .no, .no, .no, .no, .no, .no, .no, .no]) (ls := []) (ps := [Puk 16 [(syA lispB [105, 102])] (.tup [(inA 3), (boA true)]), Bn .eql 3 (.tmp 38) (.const (vi 1)) (vi x.ob.kind) (vi 1) bT, Bn .eql 3 (.tmp 47) (.const (vi 3)) (vi x.ob.kind) (vi 3) bT, Bn .eql 3 (.tmp 38) (.const (vi 1)) (vi y.ob.kind) (vi 1) bF, Bn .eql 3 (.tmp 47) (.const (vi 3)) (vi y.ob.kind) (vi 3) bT, Bn .eql 3 (.tmp 47) (.const (vi 3)) (vi z.ob.kind) (vi 3) (Value.bool z.isT)]) Tryz.func25 (by kernel_rfl) (by kernel_rfl) ⟨p_rAr0, bin_ieq ((isN_k x).trans hNx), bin_ieq ((isT_k x).trans hTx), bin_ieq ((isN_k y).trans hNy), bin_ieq ((isT_k y).trans hTy), bin_ieq (isT_k z), trivial⟩
        | false =>
          exact pwalk (an := [.av (.tup [inA 3, boA true]), .no, .no, .no, .no, yT, .no, yT, .no, .no, .no, yF, .no, yF, .no, .no, .no, .no, .no, .no, .no, .no, .no, .no, .no, .no, .no, .no, .no, .no, .no, .no, .no, .no, .no]) (ls := []) (ps := [Puk 16 [(syA lispB [105, 102])] (.tup [(inA 3), (boA true)]), Bn .eql 3 (.tmp 38) (.const (vi 1)) (vi x.ob.kind) (vi 1) bT, Bn .eql 3 (.tmp 47) (.const (vi 3)) (vi x.ob.kind) (vi 3) bT, Bn .eql 3 (.tmp 38) (.const (vi 1)) (vi y.ob.kind) (vi 1) bF, Bn .eql 3 (.tmp 47) (.const (vi 3)) (vi y.ob.kind) (vi 3) bF]) Tryz.func25 (by kernel_rfl) (by kernel_rfl) ⟨p_rAr0, bin_ieq ((isN_k x).trans hNx), bin_ieq ((isT_k x).trans hTx), bin_ieq ((isN_k y).trans hNy), bin_ieq ((isT_k y).trans hTy), trivial⟩
    | false =>
      cases hNy : y.isN with
      | true =>
        cases hTy : y.isT with
        | true =>
          exact pwalk (an := [.av (.tup [inA 3, boA true]), .no, .no, .no, .no, yT, .no, yF, .no, .no, .no, yT, .no, .no, .no, .av (boA z.isN), .no, .no, .no, .no, .no, .no, .no, .no, .no, .no, .no, .no, .no, .no, .no, .no, .no, .no, .no]) (ls := []) (ps := [Puk 16 [(syA lispB [105, 102])] (.tup [(inA 3), (boA true)]), Bn .eql 3 (.tmp 38) (.const (vi 1)) (vi x.ob.kind) (vi 1) bT, Bn .eql 3 (.tmp 47) (.const (vi 3)) (vi x.ob.kind) (vi 3) bF, Bn .eql 3 (.tmp 38) (.const (vi 1)) (vi y.ob.kind) (vi 1) bT, Bn .eql 3 (.tmp 38) (.const (vi 1)) (vi z.ob.kind) (vi 1) (Value.bool z.isN)]) Tryz.func25 (by kernel_rfl) (by kernel_rfl) ⟨p_rAr0, bin_ieq ((isN_k x).trans hNx), bin_ieq ((isT_k x).trans hTx), bin_ieq ((isN_k y).trans hNy), bin_ieq (isN_k z), trivial⟩
        | false =>
          exact pwalk (an := [.av (.tup [inA 3, boA true]), .no, .no, .no, .no, yT, .no, yF, .no, .no, .no, yT, .no, .no, .no, .av (boA z.isN), .no, .no, .no, .no, .no, .no, .no, .no, .no, .no, .no, .no, .no, .no, .no, .no, .no, .no, .no]) (ls := []) (ps := [Puk 16 [(syA lispB [105, 102])] (.tup [(inA 3), (boA true)]), Bn .eql 3 (.tmp 38) (.const (vi 1)) (vi x.ob.kind) (vi 1) bT, Bn .eql 3 (.tmp 47) (.const (vi 3)) (vi x.ob.kind) (vi 3) bF, Bn .eql 3 (.tmp 38) (.const (vi 1)) (vi y.ob.kind) (vi 1) bT, Bn .eql 3 (.tmp 38) (.const (vi 1)) (vi z.ob.kind) (vi 1) (Value.bool z.isN)]) Tryz.func25 (by kernel_rfl) (by kernel_rfl) ⟨p_rAr0, bin_ieq ((isN_k x).trans hNx), bin_ieq ((isT_k x).trans hTx), bin_ieq ((isN_k y).trans hNy), bin_ieq (isN_k z), trivial⟩
      | false =>
        cases hTy : y.isT with
        | true =>
          exact pwalk (an := [.av (.tup [inA 3, boA true]), .no, .no, .no, .no, yT, .no, yF, .no, .no, .no, yF, .no, .no, .no, .no, .no, .no, .no, .no, .no, .no, .no, .no, .no, .no, .no, .no, .no, .no, .no, .no, .no]) (ls := []) (ps := [Puk 16 [(syA lispB [105, 102])] (.tup [(inA 3), (boA true)]), Bn .eql 3 (.tmp 38) (.const (vi 1)) (vi x.ob.kind) (vi 1) bT, Bn .eql 3 (.tmp 47) (.const (vi 3)) (vi x.ob.kind) (vi 3) bF, Bn .eql 3 (.tmp 38) (.const (vi 1)) (vi y.ob.kind) (vi 1) bF]) Tryz.func25 (by kernel_rfl) (by kernel_rfl) ⟨p_rAr0, bin_ieq ((isN_k x).trans hNx), bin_ieq ((isT_k x).trans hTx), bin_ieq ((isN_k y).trans hNy), trivial⟩
        | false =>
          exact pwalk (an := [.av (.tup [inA 3, boA true]), .no, .no, .no, .no, yT, .no, yF, .no, .no, .no, yF, .no, .no, .no, .no, .no, .no, .no, .no, .no, .no, .no, .no, .no, .no, .no, .no, .no, .no, .no, .no, .no]) (ls := []) (ps := [Puk 16 [(syA lispB [105, 102])] (.tup [(inA 3), (boA true)]), Bn .eql 3 (.tmp 38) (.const (vi 1)) (vi x.ob.kind) (vi 1) bT, Bn .eql 3 (.tmp 47) (.const (vi 3)) (vi x.ob.kind) (vi 3) bF, Bn .eql 3 (.tmp 38) (.const (vi 1)) (vi y.ob.kind) (vi 1) bF]) Tryz.func25 (by kernel_rfl) (by kernel_rfl) ⟨p_rAr0, bin_ieq ((isN_k x).trans hNx), bin_ieq ((isT_k x).trans hTx), bin_ieq ((isN_k y).trans hNy), trivial⟩
  | false =>
    cases hTx : x.isT with
    | true =>
      cases hNy : y.isN with
      | true =>
        cases hTy : y.isT with
        | true =>
          exact pwalk (an := [.av (.tup [inA 3, boA true]), .no, .no, .no, .no, yF, .no, yT, .no, .no, .no, yT, .no, .no, .no, .av (boA z.isT), .no, .no, .no, .no, .no, .no, .no, .no, .no, .no, .no, .no, .no, .no, .no, .no, .no, .no, .no]) (ls := []) (ps := [Puk 16 [(syA lispB [105, 102])] (.tup [(inA 3), (boA true)]), Bn .eql 3 (.tmp 38) (.const (vi 1)) (vi x.ob.kind) (vi 1) bF, Bn .eql 3 (.tmp 47) (.const (vi 3)) (vi x.ob.kind) (vi 3) bT, Bn .eql 3 (.tmp 47) (.const (vi 3)) (vi y.ob.kind) (vi 3) bT, Bn .eql 3 (.tmp 47) (.const (vi 3)) (vi z.ob.kind) (vi 3) (Value.bool z.isT)]) Tryz.func25 (by kernel_rfl) (by kernel_rfl) ⟨p_rAr0, bin_ieq ((isN_k x).trans hNx), bin_ieq ((isT_k x).trans hTx), bin_ieq ((isT_k y).trans hTy), bin_ieq (isT_k z), trivial⟩
        | false =>
          exact pwalk (an := [.av (.tup [inA 3, boA true]), .no, .no, .no, .no, yF, .no, yT, .no, .no, .no, yF, .no, .no, .no, .no, .no, .no, .no, .no, .no, .no, .no, .no, .no, .no, .no, .no, .no, .no, .no, .no, .no]) (ls := []) (ps := [Puk 16 [(syA lispB [105, 102])] (.tup [(inA 3), (boA true)]), Bn .eql 3 (.tmp 38) (.const (vi 1)) (vi x.ob.kind) (vi 1) bF, Bn .eql 3 (.tmp 47) (.const (vi 3)) (vi x.ob.kind) (vi 3) bT, Bn .eql 3 (.tmp 47) (.const (vi 3)) (vi y.ob.kind) (vi 3) bF]) Tryz.func25 (by kernel_rfl) (by kernel_rfl) ⟨p_rAr0, bin_ieq ((isN_k x).trans hNx), bin_ieq ((isT_k x).trans hTx), bin_ieq ((isT_k y).trans hTy), trivial⟩
      | false =>
        cases hTy : y.isT with
        | true =>
          exact pwalk (an := [.av (.tup [inA 3, boA true]), .no, .no, .no, .no, yF, .no, yT, .no, .no, .no, yT, .no, .no, .no, .av (boA z.isT), .no, .no, .no, .no, .no, .no, .no, .no, .no, .no, .no, .no, .no, .no, .no, .no, .no, .no, .no]) (ls := []) (ps := [Puk 16 [(syA lispB [105, 102])] (.tup [(inA 3), (boA true)]), Bn .eql 3 (.tmp 38) (.const (vi 1)) (vi x.ob.kind) (vi 1) bF, Bn .eql 3 (.tmp 47) (.const (vi 3)) (vi x.ob.kind) (vi 3) bT, Bn .eql 3 (.tmp 47) (.const (vi 3)) (vi y.ob.kind) (vi 3) bT, Bn .eql 3 (.tmp 47) (.const (vi 3)) (vi z.ob.kind) (vi 3) (Value.bool z.isT)]) Tryz.func25 (by kernel_rfl) (by kernel_rfl) ⟨p_rAr0, bin_ieq ((isN_k x).trans hNx), bin_ieq ((isT_k x).trans hTx), bin_ieq ((isT_k y).trans hTy), bin_ieq (isT_k z), trivial⟩
        | false =>
          exact pwalk (an := [.av (.tup [inA 3, boA true]), .no, .no, .no, .no, yF, .no, yT, .no, .no, .no, yF, .no, .no, .no, .no, .no, .no, .no, .no, .no, .no, .no, .no, .no, .no, .no, .no, .no, .no, .no, .no, .no]) (ls := []) (ps := [Puk 16 [(syA lispB [105, 102])] (.tup [(inA 3), (boA true)]), Bn .eql 3 (.tmp 38) (.const (vi 1)) (vi x.ob.kind) (vi 1) bF, Bn .eql 3 (.tmp 47) (.const (vi 3)) (vi x.ob.kind) (vi 3) bT, Bn .eql 3 (.tmp 47) (.const (vi 3)) (vi y.ob.kind) (vi 3) bF]) Tryz.func25 (by kernel_rfl) (by kernel_rfl) ⟨p_rAr0, bin_ieq ((isN_k x).trans hNx), bin_ieq ((isT_k x).trans hTx), bin_ieq ((isT_k y).trans hTy), trivial⟩
    | false =>
      cases hNy : y.isN with
      | true =>
        cases hTy : y.isT with
        | true =>
          exact pwalk (an := [.av (.tup [inA 3, boA true]), .no, .no, .no, .no, yF, .no, yF, .no, .no, .no, .no, .no, .no, .no, .no, .no, .no, .no, .no, .no, .no, .no, .no, .no, .no, .no, .no, .no, .no, .no]) (ls := []) (ps := [Puk 16 [(syA lispB [105, 102])] (.tup [(inA 3), (boA true)]), Bn .eql 3 (.tmp 38) (.const (vi 1)) (vi x.ob.kind) (vi 1) bF, Bn .eql 3 (.tmp 47) (.const (vi 3)) (vi x.ob.kind) (vi 3) bF]) Tryz.func25 (by kernel_rfl) (by kernel_rfl) ⟨p_rAr0, bin_ieq ((isN_k x).trans hNx), bin_ieq ((isT_k x).trans hTx), trivial⟩
        | false =>
          exact pwalk (an := [.av (.tup [inA 3, boA true]), .no, .no, .no, .no, yF, .no, yF, .no, .no, .no, .no, .no, .no, .no, .no, .no, .no, .no, .no, .no, .no, .no, .no, .no, .no, .no, .no, .no, .no, .no]) (ls := []) (ps := [Puk 16 [(syA lispB [105, 102])] (.tup [(inA 3), (boA true)]), Bn .eql 3 (.tmp 38) (.const (vi 1)) (vi x.ob.kind) (vi 1) bF, Bn .eql 3 (.tmp 47) (.const (vi 3)) (vi x.ob.kind) (vi 3) bF]) Tryz.func25 (by kernel_rfl) (by kernel_rfl) ⟨p_rAr0, bin_ieq ((isN_k x).trans hNx), bin_ieq ((isT_k x).trans hTx), trivial⟩
      | false =>
        cases hTy : y.isT with
        | true =>
          exact pwalk (an := [.av (.tup [inA 3, boA true]), .no, .no, .no, .no, yF, .no, yF, .no, .no, .no, .no, .no, .no, .no, .no, .no, .no, .no, .no, .no, .no, .no, .no, .no, .no, .no, .no, .no, .no, .no]) (ls := []) (ps := [Puk 16 [(syA lispB [105, 102])] (.tup [(inA 3), (boA true)]), Bn .eql 3 (.tmp 38) (.const (vi 1)) (vi x.ob.kind) (vi 1) bF, Bn .eql 3 (.tmp 47) (.const (vi 3)) (vi x.ob.kind) (vi 3) bF]) Tryz.func25 (by kernel_rfl) (by kernel_rfl) ⟨p_rAr0, bin_ieq ((isN_k x).trans hNx), bin_ieq ((isT_k x).trans hTx), trivial⟩
        | false =>
          exact pwalk (an := [.av (.tup [inA 3, boA true]), .no, .no, .no, .no, yF, .no, yF, .no, .no, .no, .no, .no, .no, .no, .no, .no, .no, .no, .no, .no, .no, .no, .no, .no, .no, .no, .no, .no, .no, .no]) (ls := []) (ps := [Puk 16 [(syA lispB [105, 102])] (.tup [(inA 3), (boA true)]), Bn .eql 3 (.tmp 38) (.const (vi 1)) (vi x.ob.kind) (vi 1) bF, Bn .eql 3 (.tmp 47) (.const (vi 3)) (vi x.ob.kind) (vi 3) bF]) Tryz.func25 (by kernel_rfl) (by kernel_rfl) ⟨p_rAr0, bin_ieq ((isN_k x).trans hNx), bin_ieq ((isT_k x).trans hTx), trivial⟩
theorem p_rGd1 {x : Tr} (_hx : Arg x) {y : Tr} (_hy : Arg y) : Puk 25 [syA lispB [101, 113, 117, 97, 108], rowA [x, y]] (boA (Tr.gd 1 x y)) := by
  cases hNx : x.isN with
  | true =>
    cases hTx : x.isT with
    | true =>
      exact pwalk (an := [.av (.tup [inA 2, boA true]), .no, .no, .no, .no, yT, .no, yT, .no, .no, .no, .av (boA y.isN), .no, .av (boA y.isT), .no, .no, .no, .no, .no, .no, .no, .no, .no, .no, .no, .no, .no, .no, .no, .no, .no, .no, .no]) (ls := []) (ps := [Puk 16 [(syA lispB [101, 113, 117, 97, 108])] (.tup [(inA 2), (boA true)]), Bn .eql 3 (.tmp 38) (.const (vi 1)) (vi x.ob.kind) (vi 1) bT, Bn .eql 3 (.tmp 47) (.const (vi 3)) (vi x.ob.kind) (vi 3) bT, Bn .eql 3 (.tmp 38) (.const (vi 1)) (vi y.ob.kind) (vi 1) (Value.bool y.isN), Bn .eql 3 (.tmp 47) (.const (vi 3)) (vi y.ob.kind) (vi 3) (Value.bool y.isT)]) Tryz.func25 (by kernel_rfl) (by kernel_rfl) ⟨p_rAr1, bin_ieq ((isN_k x).trans hNx), bin_ieq ((isT_k x).trans hTx), bin_ieq (isN_k y), bin_ieq (isT_k y), trivial⟩
    | false =>
      exact pwalk (an := [.av (.tup [inA 2, boA true]), .no, .no, .no, .no, yT, .no, yF, .no, .no, .no, .av (boA y.isN), .no, .no, .no, .no, .no, .no, .no, .no, .no, .no, .no, .no, .no, .no, .no, .no, .no, .no, .no]) (ls := []) (ps := [Puk 16 [(syA lispB [101, 113, 117, 97, 108])] (.tup [(inA 2), (boA true)]), Bn .eql 3 (.tmp 38) (.const (vi 1)) (vi x.ob.kind) (vi 1) bT, Bn .eql 3 (.tmp 47) (.const (vi 3)) (vi x.ob.kind) (vi 3) bF, Bn .eql 3 (.tmp 38) (.const (vi 1)) (vi y.ob.kind) (vi 1) (Value.bool y.isN)]) Tryz.func25 (by kernel_rfl) (by kernel_rfl) ⟨p_rAr1, bin_ieq ((isN_k x).trans hNx), bin_ieq ((isT_k x).trans hTx), bin_ieq (isN_k y), trivial⟩
  | false =>
    cases hTx : x.isT with
    | true =>
      exact pwalk (an := [.av (.tup [inA 2, boA true]), .no, .no, .no, .no, yF, .no, yT, .no, .no, .no, .av (boA y.isT), .no, .no, .no, .no, .no, .no, .no, .no, .no, .no, .no, .no, .no, .no, .no, .no, .no, .no, .no]) (ls := []) (ps := [Puk 16 [(syA lispB [101, 113, 117, 97, 108])] (.tup [(inA 2), (boA true)]), Bn .eql 3 (.tmp 38) (.const (vi 1)) (vi x.ob.kind) (vi 1) bF, Bn .eql 3 (.tmp 47) (.const (vi 3)) (vi x.ob.kind) (vi 3) bT, Bn .eql 3 (.tmp 47) (.const (vi 3)) (vi y.ob.kind) (vi 3) (Value.bool y.isT)]) Tryz.func25 (by kernel_rfl) (by kernel_rfl) ⟨p_rAr1, bin_ieq ((isN_k x).trans hNx), bin_ieq ((isT_k x).trans hTx), bin_ieq (isT_k y), trivial⟩
    | false =>
      exact pwalk (an := [.av (.tup [inA 2, boA true]), .no, .no, .no, .no, yF, .no, yF, .no, .no, .no, .no, .no, .no, .no, .no, .no, .no, .no, .no, .no, .no, .no, .no, .no, .no, .no, .no, .no]) (ls := []) (ps := [Puk 16 [(syA lispB [101, 113, 117, 97, 108])] (.tup [(inA 2), (boA true)]), Bn .eql 3 (.tmp 38) (.const (vi 1)) (vi x.ob.kind) (vi 1) bF, Bn .eql 3 (.tmp 47) (.const (vi 3)) (vi x.ob.kind) (vi 3) bF]) Tryz.func25 (by kernel_rfl) (by kernel_rfl) ⟨p_rAr1, bin_ieq ((isN_k x).trans hNx), bin_ieq ((isT_k x).trans hTx), trivial⟩
theorem p_rGd2 {x : Tr} (_hx : Arg x) {y : Tr} (_hy : Arg y) : Puk 25 [syA lispB [99, 111, 110, 115], rowA [x, y]] (boA (Tr.gd 2 x y)) := by
  cases hNx : x.isN with
  | true =>
    cases hTx : x.isT with
    | true =>
      exact pwalk (an := [.av (.tup [inA 2, boA true]), .no, .no, .no, .no, yT, .no, yT, .no, .no, .no, .av (boA y.isN), .no, .av (boA y.isT), .no, .no, .no, .no, .no, .no, .no, .no, .no, .no, .no, .no, .no, .no, .no, .no, .no, .no, .no]) (ls := []) (ps := [Puk 16 [(syA lispB [99, 111, 110, 115])] (.tup [(inA 2), (boA true)]), Bn .eql 3 (.tmp 38) (.const (vi 1)) (vi x.ob.kind) (vi 1) bT, Bn .eql 3 (.tmp 47) (.const (vi 3)) (vi x.ob.kind) (vi 3) bT, Bn .eql 3 (.tmp 38) (.const (vi 1)) (vi y.ob.kind) (vi 1) (Value.bool y.isN), Bn .eql 3 (.tmp 47) (.const (vi 3)) (vi y.ob.kind) (vi 3) (Value.bool y.isT)]) Tryz.func25 (by kernel_rfl) (by kernel_rfl) ⟨p_rAr2, bin_ieq ((isN_k x).trans hNx), bin_ieq ((isT_k x).trans hTx), bin_ieq (isN_k y), bin_ieq (isT_k y), trivial⟩
    | false =>
      exact pwalk (an := [.av (.tup [inA 2, boA true]), .no, .no, .no, .no, yT, .no, yF, .no, .no, .no, .av (boA y.isN), .no, .no, .no, .no, .no, .no, .no, .no, .no, .no, .no, .no, .no, .no, .no, .no, .no, .no, .no]) (ls := []) (ps := [Puk 16 [(syA lispB [99, 111, 110, 115])] (.tup [(inA 2), (boA true)]), Bn .eql 3 (.tmp 38) (.const (vi 1)) (vi x.ob.kind) (vi 1) bT, Bn .eql 3 (.tmp 47) (.const (vi 3)) (vi x.ob.kind) (vi 3) bF, Bn .eql 3 (.tmp 38) (.const (vi 1)) (vi y.ob.kind) (vi 1) (Value.bool y.isN)]) Tryz.func25 (by kernel_rfl) (by kernel_rfl) ⟨p_rAr2, bin_ieq ((isN_k x).trans hNx), bin_ieq ((isT_k x).trans hTx), bin_ieq (isN_k y), trivial⟩
  | false =>
    cases hTx : x.isT with
    | true =>
      exact pwalk (an := [.av (.tup [inA 2, boA true]), .no, .no, .no, .no, yF, .no, yT, .no, .no, .no, .av (boA y.isT), .no, .no, .no, .no, .no, .no, .no, .no, .no, .no, .no, .no, .no, .no, .no, .no, .no, .no, .no]) (ls := []) (ps := [Puk 16 [(syA lispB [99, 111, 110, 115])] (.tup [(inA 2), (boA true)]), Bn .eql 3 (.tmp 38) (.const (vi 1)) (vi x.ob.kind) (vi 1) bF, Bn .eql 3 (.tmp 47) (.const (vi 3)) (vi x.ob.kind) (vi 3) bT, Bn .eql 3 (.tmp 47) (.const (vi 3)) (vi y.ob.kind) (vi 3) (Value.bool y.isT)]) Tryz.func25 (by kernel_rfl) (by kernel_rfl) ⟨p_rAr2, bin_ieq ((isN_k x).trans hNx), bin_ieq ((isT_k x).trans hTx), bin_ieq (isT_k y), trivial⟩
    | false =>
      exact pwalk (an := [.av (.tup [inA 2, boA true]), .no, .no, .no, .no, yF, .no, yF, .no, .no, .no, .no, .no, .no, .no, .no, .no, .no, .no, .no, .no, .no, .no, .no, .no, .no, .no, .no, .no]) (ls := []) (ps := [Puk 16 [(syA lispB [99, 111, 110, 115])] (.tup [(inA 2), (boA true)]), Bn .eql 3 (.tmp 38) (.const (vi 1)) (vi x.ob.kind) (vi 1) bF, Bn .eql 3 (.tmp 47) (.const (vi 3)) (vi x.ob.kind) (vi 3) bF]) Tryz.func25 (by kernel_rfl) (by kernel_rfl) ⟨p_rAr2, bin_ieq ((isN_k x).trans hNx), bin_ieq ((isT_k x).trans hTx), trivial⟩
theorem p_rGd3 {x : Tr} (hx : Arg x) : Puk 25 [syA lispB [99, 97, 114], rowA [x]] (boA (Tr.gd 3 x nilT)) := by
  show Puk _ _ (boA (x.isC || decide (x = nilT)))
  cases hCx : x.isC with
  | true =>
    exact pwalk (an := [.av (.tup [inA 1, boA true]), .no, .no, .no, .no, .av (boA x.isN), .no, .av (boA x.isT), .no, .no, .no, .no, yT]) (ls := []) (ps := [Puk 16 [(syA lispB [99, 97, 114])] (.tup [(inA 1), (boA true)]), Bn .eql 3 (.tmp 38) (.const (vi 1)) (vi x.ob.kind) (vi 1) (Value.bool x.isN), Bn .eql 3 (.tmp 47) (.const (vi 3)) (vi x.ob.kind) (vi 3) (Value.bool x.isT), Bn .eql 3 (.tmp 58) (.const (vi 4)) (vi x.ob.kind) (vi 4) bT]) Tryz.func25 (by kernel_rfl) (by kernel_rfl) ⟨p_rAr3, bin_ieq (isN_k x), bin_ieq (isT_k x), bin_ieq ((isC_k x).trans hCx), trivial⟩
  | false =>
    exact pwalk (an := [.av (.tup [inA 1, boA true]), .no, .no, .no, .no, .av (boA x.isN), .no, .av (boA x.isT), .no, .no, .no, .no, yF, .no, .av (boA (decide (x = nilT)))]) (ls := []) (ps := [Puk 16 [(syA lispB [99, 97, 114])] (.tup [(inA 1), (boA true)]), Bn .eql 3 (.tmp 38) (.const (vi 1)) (vi x.ob.kind) (vi 1) (Value.bool x.isN), Bn .eql 3 (.tmp 47) (.const (vi 3)) (vi x.ob.kind) (vi 3) (Value.bool x.isT), Bn .eql 3 (.tmp 58) (.const (vi 4)) (vi x.ob.kind) (vi 4) bF, Puk 39 [(obA x.ob)] (boA (decide (x = nilT)))]) Tryz.func25 (by kernel_rfl) (by kernel_rfl) ⟨p_rAr3, bin_ieq (isN_k x), bin_ieq (isT_k x), bin_ieq ((isC_k x).trans hCx), p_rIsNil hx.ok (by decide), trivial⟩
theorem p_rGd4 {x : Tr} (hx : Arg x) : Puk 25 [syA lispB [99, 100, 114], rowA [x]] (boA (Tr.gd 4 x nilT)) := by
  show Puk _ _ (boA (x.isC || decide (x = nilT)))
  cases hCx : x.isC with
  | true =>
    exact pwalk (an := [.av (.tup [inA 1, boA true]), .no, .no, .no, .no, .av (boA x.isN), .no, .av (boA x.isT), .no, .no, .no, .no, .no, yT]) (ls := []) (ps := [Puk 16 [(syA lispB [99, 100, 114])] (.tup [(inA 1), (boA true)]), Bn .eql 3 (.tmp 38) (.const (vi 1)) (vi x.ob.kind) (vi 1) (Value.bool x.isN), Bn .eql 3 (.tmp 47) (.const (vi 3)) (vi x.ob.kind) (vi 3) (Value.bool x.isT), Bn .eql 3 (.tmp 58) (.const (vi 4)) (vi x.ob.kind) (vi 4) bT]) Tryz.func25 (by kernel_rfl) (by kernel_rfl) ⟨p_rAr4, bin_ieq (isN_k x), bin_ieq (isT_k x), bin_ieq ((isC_k x).trans hCx), trivial⟩
  | false =>
    exact pwalk (an := [.av (.tup [inA 1, boA true]), .no, .no, .no, .no, .av (boA x.isN), .no, .av (boA x.isT), .no, .no, .no, .no, .no, yF, .no, .av (boA (decide (x = nilT)))]) (ls := []) (ps := [Puk 16 [(syA lispB [99, 100, 114])] (.tup [(inA 1), (boA true)]), Bn .eql 3 (.tmp 38) (.const (vi 1)) (vi x.ob.kind) (vi 1) (Value.bool x.isN), Bn .eql 3 (.tmp 47) (.const (vi 3)) (vi x.ob.kind) (vi 3) (Value.bool x.isT), Bn .eql 3 (.tmp 58) (.const (vi 4)) (vi x.ob.kind) (vi 4) bF, Puk 39 [(obA x.ob)] (boA (decide (x = nilT)))]) Tryz.func25 (by kernel_rfl) (by kernel_rfl) ⟨p_rAr4, bin_ieq (isN_k x), bin_ieq (isT_k x), bin_ieq ((isC_k x).trans hCx), p_rIsNil hx.ok (by decide), trivial⟩
theorem p_rGd5 {x : Tr} (_hx : Arg x) : Puk 25 [syA lispB [99, 111, 110, 115, 112], rowA [x]] (boA (Tr.gd 5 x nilT)) := by
  exact pwalk (an := [.av (.tup [inA 1, boA true]), .no, .no, .no, .no, .av (boA x.isN), .no, .av (boA x.isT), .no, .no, .no, .no, .no, .no, .no, .no, .no, .no, .no, .no, .no, .no, .no, .no, .no, .no, .no]) (ls := []) (ps := [Puk 16 [(syA lispB [99, 111, 110, 115, 112])] (.tup [(inA 1), (boA true)]), Bn .eql 3 (.tmp 38) (.const (vi 1)) (vi x.ob.kind) (vi 1) (Value.bool x.isN), Bn .eql 3 (.tmp 47) (.const (vi 3)) (vi x.ob.kind) (vi 3) (Value.bool x.isT)]) Tryz.func25 (by kernel_rfl) (by kernel_rfl) ⟨p_rAr5, bin_ieq (isN_k x), bin_ieq (isT_k x), trivial⟩
theorem p_rGd6 {x : Tr} (_hx : Arg x) : Puk 25 [syA lispB [115, 121, 109, 98, 111, 108, 112], rowA [x]] (boA (Tr.gd 6 x nilT)) := by
  exact pwalk (an := [.av (.tup [inA 1, boA true]), .no, .no, .no, .no, .av (boA x.isN), .no, .av (boA x.isT), .no, .no, .no, .no, .no, .no, .no, .no, .no, .no, .no, .no, .no, .no, .no, .no, .no, .no, .no]) (ls := []) (ps := [Puk 16 [(syA lispB [115, 121, 109, 98, 111, 108, 112])] (.tup [(inA 1), (boA true)]), Bn .eql 3 (.tmp 38) (.const (vi 1)) (vi x.ob.kind) (vi 1) (Value.bool x.isN), Bn .eql 3 (.tmp 47) (.const (vi 3)) (vi x.ob.kind) (vi 3) (Value.bool x.isT)]) Tryz.func25 (by kernel_rfl) (by kernel_rfl) ⟨p_rAr6, bin_ieq (isN_k x), bin_ieq (isT_k x), trivial⟩
theorem p_rGd7 {x : Tr} (_hx : Arg x) : Puk 25 [syA lispB [115, 116, 114, 105, 110, 103, 112], rowA [x]] (boA (Tr.gd 7 x nilT)) := by
  exact pwalk (an := [.av (.tup [inA 1, boA true]), .no, .no, .no, .no, .av (boA x.isN), .no, .av (boA x.isT), .no, .no, .no, .no, .no, .no, .no, .no, .no, .no, .no, .no, .no, .no, .no, .no, .no, .no, .no]) (ls := []) (ps := [Puk 16 [(syA lispB [115, 116, 114, 105, 110, 103, 112])] (.tup [(inA 1), (boA true)]), Bn .eql 3 (.tmp 38) (.const (vi 1)) (vi x.ob.kind) (vi 1) (Value.bool x.isN), Bn .eql 3 (.tmp 47) (.const (vi 3)) (vi x.ob.kind) (vi 3) (Value.bool x.isT)]) Tryz.func25 (by kernel_rfl) (by kernel_rfl) ⟨p_rAr7, bin_ieq (isN_k x), bin_ieq (isT_k x), trivial⟩
theorem p_rGd8 {x : Tr} (_hx : Arg x) : Puk 25 [syA lispB [114, 97, 116, 105, 111, 110, 97, 108, 112], rowA [x]] (boA (Tr.gd 8 x nilT)) := by
  exact pwalk (an := [.av (.tup [inA 1, boA true]), .no, .no, .no, .no, .av (boA x.isN), .no, .av (boA x.isT), .no, .no, .no, .no, .no, .no, .no, .no, .no, .no, .no, .no, .no, .no, .no, .no, .no, .no, .no]) (ls := []) (ps := [Puk 16 [(syA lispB [114, 97, 116, 105, 111, 110, 97, 108, 112])] (.tup [(inA 1), (boA true)]), Bn .eql 3 (.tmp 38) (.const (vi 1)) (vi x.ob.kind) (vi 1) (Value.bool x.isN), Bn .eql 3 (.tmp 47) (.const (vi 3)) (vi x.ob.kind) (vi 3) (Value.bool x.isT)]) Tryz.func25 (by kernel_rfl) (by kernel_rfl) ⟨p_rAr8, bin_ieq (isN_k x), bin_ieq (isT_k x), trivial⟩
theorem p_rGd9 {x : Tr} (_hx : Arg x) : Puk 25 [syA lispB [105, 110, 116, 101, 103, 101, 114, 112], rowA [x]] (boA (Tr.gd 9 x nilT)) := by
  exact pwalk (an := [.av (.tup [inA 1, boA true]), .no, .no, .no, .no, .av (boA x.isN), .no, .av (boA x.isT), .no, .no, .no, .no, .no, .no, .no, .no, .no, .no, .no, .no, .no, .no, .no, .no, .no, .no, .no]) (ls := []) (ps := [Puk 16 [(syA lispB [105, 110, 116, 101, 103, 101, 114, 112])] (.tup [(inA 1), (boA true)]), Bn .eql 3 (.tmp 38) (.const (vi 1)) (vi x.ob.kind) (vi 1) (Value.bool x.isN), Bn .eql 3 (.tmp 47) (.const (vi 3)) (vi x.ob.kind) (vi 3) (Value.bool x.isT)]) Tryz.func25 (by kernel_rfl) (by kernel_rfl) ⟨p_rAr9, bin_ieq (isN_k x), bin_ieq (isT_k x), trivial⟩
theorem p_rGd10 {x : Tr} (_hx : Arg x) {y : Tr} (_hy : Arg y) : Puk 25 [syA lispB [98, 105, 110, 97, 114, 121, 45, 43], rowA [x, y]] (boA (Tr.gd 10 x y)) := by
  show Puk _ _ (boA (x.isN && y.isN))
  cases hNx : x.isN with
  | true =>
    cases hTx : x.isT with
    | true =>
      exact pwalk (an := [.av (.tup [inA 2, boA true]), .no, .no, .no, .no, yT, .no, yT, .no, .no, .no, .av (boA y.isN), .no, .av (boA y.isT), .no, .no, .no, .no, .no]) (ls := []) (ps := [Puk 16 [(syA lispB [98, 105, 110, 97, 114, 121, 45, 43])] (.tup [(inA 2), (boA true)]), Bn .eql 3 (.tmp 38) (.const (vi 1)) (vi x.ob.kind) (vi 1) bT, Bn .eql 3 (.tmp 47) (.const (vi 3)) (vi x.ob.kind) (vi 3) bT, Bn .eql 3 (.tmp 38) (.const (vi 1)) (vi y.ob.kind) (vi 1) (Value.bool y.isN), Bn .eql 3 (.tmp 47) (.const (vi 3)) (vi y.ob.kind) (vi 3) (Value.bool y.isT)]) Tryz.func25 (by kernel_rfl) (by kernel_rfl) ⟨p_rAr10, bin_ieq ((isN_k x).trans hNx), bin_ieq ((isT_k x).trans hTx), bin_ieq (isN_k y), bin_ieq (isT_k y), trivial⟩
    | false =>
      exact pwalk (an := [.av (.tup [inA 2, boA true]), .no, .no, .no, .no, yT, .no, yF, .no, .no, .no, .av (boA y.isN), .no, .no, .no, .no, .no]) (ls := []) (ps := [Puk 16 [(syA lispB [98, 105, 110, 97, 114, 121, 45, 43])] (.tup [(inA 2), (boA true)]), Bn .eql 3 (.tmp 38) (.const (vi 1)) (vi x.ob.kind) (vi 1) bT, Bn .eql 3 (.tmp 47) (.const (vi 3)) (vi x.ob.kind) (vi 3) bF, Bn .eql 3 (.tmp 38) (.const (vi 1)) (vi y.ob.kind) (vi 1) (Value.bool y.isN)]) Tryz.func25 (by kernel_rfl) (by kernel_rfl) ⟨p_rAr10, bin_ieq ((isN_k x).trans hNx), bin_ieq ((isT_k x).trans hTx), bin_ieq (isN_k y), trivial⟩
  | false =>
    cases hTx : x.isT with
    | true =>
      exact pwalk (an := [.av (.tup [inA 2, boA true]), .no, .no, .no, .no, yF, .no, yT, .no, .no, .no, .av (boA y.isT), .no, .no, .no, .no, .no]) (ls := []) (ps := [Puk 16 [(syA lispB [98, 105, 110, 97, 114, 121, 45, 43])] (.tup [(inA 2), (boA true)]), Bn .eql 3 (.tmp 38) (.const (vi 1)) (vi x.ob.kind) (vi 1) bF, Bn .eql 3 (.tmp 47) (.const (vi 3)) (vi x.ob.kind) (vi 3) bT, Bn .eql 3 (.tmp 47) (.const (vi 3)) (vi y.ob.kind) (vi 3) (Value.bool y.isT)]) Tryz.func25 (by kernel_rfl) (by kernel_rfl) ⟨p_rAr10, bin_ieq ((isN_k x).trans hNx), bin_ieq ((isT_k x).trans hTx), bin_ieq (isT_k y), trivial⟩
    | false =>
      exact pwalk (an := [.av (.tup [inA 2, boA true]), .no, .no, .no, .no, yF, .no, yF, .no, .no, .no, .no, .no, .no, .no]) (ls := []) (ps := [Puk 16 [(syA lispB [98, 105, 110, 97, 114, 121, 45, 43])] (.tup [(inA 2), (boA true)]), Bn .eql 3 (.tmp 38) (.const (vi 1)) (vi x.ob.kind) (vi 1) bF, Bn .eql 3 (.tmp 47) (.const (vi 3)) (vi x.ob.kind) (vi 3) bF]) Tryz.func25 (by kernel_rfl) (by kernel_rfl) ⟨p_rAr10, bin_ieq ((isN_k x).trans hNx), bin_ieq ((isT_k x).trans hTx), trivial⟩
theorem p_rGd11 {x : Tr} (_hx : Arg x) {y : Tr} (_hy : Arg y) : Puk 25 [syA lispB [98, 105, 110, 97, 114, 121, 45, 42], rowA [x, y]] (boA (Tr.gd 11 x y)) := by
  show Puk _ _ (boA (x.isN && y.isN))
  cases hNx : x.isN with
  | true =>
    cases hTx : x.isT with
    | true =>
      exact pwalk (an := [.av (.tup [inA 2, boA true]), .no, .no, .no, .no, yT, .no, yT, .no, .no, .no, .av (boA y.isN), .no, .av (boA y.isT), .no, .no, .no, .no, .no, .no]) (ls := []) (ps := [Puk 16 [(syA lispB [98, 105, 110, 97, 114, 121, 45, 42])] (.tup [(inA 2), (boA true)]), Bn .eql 3 (.tmp 38) (.const (vi 1)) (vi x.ob.kind) (vi 1) bT, Bn .eql 3 (.tmp 47) (.const (vi 3)) (vi x.ob.kind) (vi 3) bT, Bn .eql 3 (.tmp 38) (.const (vi 1)) (vi y.ob.kind) (vi 1) (Value.bool y.isN), Bn .eql 3 (.tmp 47) (.const (vi 3)) (vi y.ob.kind) (vi 3) (Value.bool y.isT)]) Tryz.func25 (by kernel_rfl) (by kernel_rfl) ⟨p_rAr11, bin_ieq ((isN_k x).trans hNx), bin_ieq ((isT_k x).trans hTx), bin_ieq (isN_k y), bin_ieq (isT_k y), trivial⟩
    | false =>
      exact pwalk (an := [.av (.tup [inA 2, boA true]), .no, .no, .no, .no, yT, .no, yF, .no, .no, .no, .av (boA y.isN), .no, .no, .no, .no, .no, .no]) (ls := []) (ps := [Puk 16 [(syA lispB [98, 105, 110, 97, 114, 121, 45, 42])] (.tup [(inA 2), (boA true)]), Bn .eql 3 (.tmp 38) (.const (vi 1)) (vi x.ob.kind) (vi 1) bT, Bn .eql 3 (.tmp 47) (.const (vi 3)) (vi x.ob.kind) (vi 3) bF, Bn .eql 3 (.tmp 38) (.const (vi 1)) (vi y.ob.kind) (vi 1) (Value.bool y.isN)]) Tryz.func25 (by kernel_rfl) (by kernel_rfl) ⟨p_rAr11, bin_ieq ((isN_k x).trans hNx), bin_ieq ((isT_k x).trans hTx), bin_ieq (isN_k y), trivial⟩
  | false =>
    cases hTx : x.isT with
    | true =>
      exact pwalk (an := [.av (.tup [inA 2, boA true]), .no, .no, .no, .no, yF, .no, yT, .no, .no, .no, .av (boA y.isT), .no, .no, .no, .no, .no, .no]) (ls := []) (ps := [Puk 16 [(syA lispB [98, 105, 110, 97, 114, 121, 45, 42])] (.tup [(inA 2), (boA true)]), Bn .eql 3 (.tmp 38) (.const (vi 1)) (vi x.ob.kind) (vi 1) bF, Bn .eql 3 (.tmp 47) (.const (vi 3)) (vi x.ob.kind) (vi 3) bT, Bn .eql 3 (.tmp 47) (.const (vi 3)) (vi y.ob.kind) (vi 3) (Value.bool y.isT)]) Tryz.func25 (by kernel_rfl) (by kernel_rfl) ⟨p_rAr11, bin_ieq ((isN_k x).trans hNx), bin_ieq ((isT_k x).trans hTx), bin_ieq (isT_k y), trivial⟩
    | false =>
      exact pwalk (an := [.av (.tup [inA 2, boA true]), .no, .no, .no, .no, yF, .no, yF, .no, .no, .no, .no, .no, .no, .no, .no]) (ls := []) (ps := [Puk 16 [(syA lispB [98, 105, 110, 97, 114, 121, 45, 42])] (.tup [(inA 2), (boA true)]), Bn .eql 3 (.tmp 38) (.const (vi 1)) (vi x.ob.kind) (vi 1) bF, Bn .eql 3 (.tmp 47) (.const (vi 3)) (vi x.ob.kind) (vi 3) bF]) Tryz.func25 (by kernel_rfl) (by kernel_rfl) ⟨p_rAr11, bin_ieq ((isN_k x).trans hNx), bin_ieq ((isT_k x).trans hTx), trivial⟩
theorem p_rGd12 {x : Tr} (_hx : Arg x) : Puk 25 [syA lispB [117, 110, 97, 114, 121, 45, 45], rowA [x]] (boA (Tr.gd 12 x nilT)) := by
  exact pwalk (an := [.av (.tup [inA 1, boA true]), .no, .no, .no, .no, .av (boA x.isN), .no, .av (boA x.isT), .no, .no, .no, .no, .no, .no, .no]) (ls := []) (ps := [Puk 16 [(syA lispB [117, 110, 97, 114, 121, 45, 45])] (.tup [(inA 1), (boA true)]), Bn .eql 3 (.tmp 38) (.const (vi 1)) (vi x.ob.kind) (vi 1) (Value.bool x.isN), Bn .eql 3 (.tmp 47) (.const (vi 3)) (vi x.ob.kind) (vi 3) (Value.bool x.isT)]) Tryz.func25 (by kernel_rfl) (by kernel_rfl) ⟨p_rAr12, bin_ieq (isN_k x), bin_ieq (isT_k x), trivial⟩
theorem p_rGd13 {x : Tr} (_hx : Arg x) : Puk 25 [syA lispB [117, 110, 97, 114, 121, 45, 47], rowA [x]] (boA (Tr.gd 13 x nilT)) := by
  show Puk _ _ (boA (x.isN && !decide (x.ob.num = [48])))
  cases hNx : x.isN with
  | true =>
    exact pwalk (an := [.av (.tup [inA 1, boA true]), .no, .no, .no, .no, yT, .no, .av (boA x.isT), .no, .no, .no, .no, .no, .no, .no, .no, .no, .no, .no, .no, .no, .av (boA (!decide (x.ob.num = [48])))]) (ls := []) (ps := [Puk 16 [(syA lispB [117, 110, 97, 114, 121, 45, 47])] (.tup [(inA 1), (boA true)]), Bn .eql 3 (.tmp 38) (.const (vi 1)) (vi x.ob.kind) (vi 1) bT, Bn .eql 3 (.tmp 47) (.const (vi 3)) (vi x.ob.kind) (vi 3) (Value.bool x.isT), Bn .neq 9 (.tmp 82) (.const (Value.string { data := #[48] : ByteArray })) (str x.ob.num) (str [48]) (Value.bool (!decide (x.ob.num = [48])))]) Tryz.func25 (by kernel_rfl) (by kernel_rfl) ⟨p_rAr13, bin_ieq ((isN_k x).trans hNx), bin_ieq (isT_k x), bin_sne (by rw [Bool.not_not]), trivial⟩
  | false =>
    exact pwalk (an := [.av (.tup [inA 1, boA true]), .no, .no, .no, .no, yF, .no, .av (boA x.isT), .no, .no, .no, .no, .no, .no, .no, .no, .no, .no, .no, .no]) (ls := []) (ps := [Puk 16 [(syA lispB [117, 110, 97, 114, 121, 45, 47])] (.tup [(inA 1), (boA true)]), Bn .eql 3 (.tmp 38) (.const (vi 1)) (vi x.ob.kind) (vi 1) bF, Bn .eql 3 (.tmp 47) (.const (vi 3)) (vi x.ob.kind) (vi 3) (Value.bool x.isT)]) Tryz.func25 (by kernel_rfl) (by kernel_rfl) ⟨p_rAr13, bin_ieq ((isN_k x).trans hNx), bin_ieq (isT_k x), trivial⟩
theorem p_rGd14 {x : Tr} (_hx : Arg x) {y : Tr} (_hy : Arg y) : Puk 25 [syA lispB [60], rowA [x, y]] (boA (Tr.gd 14 x y)) := by
  show Puk _ _ (boA (x.isN && y.isN))
  cases hNx : x.isN with
  | true =>
    cases hTx : x.isT with
    | true =>
      exact pwalk (an := [.av (.tup [inA 2, boA true]), .no, .no, .no, .no, yT, .no, yT, .no, .no, .no, .av (boA y.isN), .no, .av (boA y.isT), .no, .no, .no, .no, .no, .no, .no, .no]) (ls := []) (ps := [Puk 16 [(syA lispB [60])] (.tup [(inA 2), (boA true)]), Bn .eql 3 (.tmp 38) (.const (vi 1)) (vi x.ob.kind) (vi 1) bT, Bn .eql 3 (.tmp 47) (.const (vi 3)) (vi x.ob.kind) (vi 3) bT, Bn .eql 3 (.tmp 38) (.const (vi 1)) (vi y.ob.kind) (vi 1) (Value.bool y.isN), Bn .eql 3 (.tmp 47) (.const (vi 3)) (vi y.ob.kind) (vi 3) (Value.bool y.isT)]) Tryz.func25 (by kernel_rfl) (by kernel_rfl) ⟨p_rAr14, bin_ieq ((isN_k x).trans hNx), bin_ieq ((isT_k x).trans hTx), bin_ieq (isN_k y), bin_ieq (isT_k y), trivial⟩
    | false =>
      exact pwalk (an := [.av (.tup [inA 2, boA true]), .no, .no, .no, .no, yT, .no, yF, .no, .no, .no, .av (boA y.isN), .no, .no, .no, .no, .no, .no, .no, .no]) (ls := []) (ps := [Puk 16 [(syA lispB [60])] (.tup [(inA 2), (boA true)]), Bn .eql 3 (.tmp 38) (.const (vi 1)) (vi x.ob.kind) (vi 1) bT, Bn .eql 3 (.tmp 47) (.const (vi 3)) (vi x.ob.kind) (vi 3) bF, Bn .eql 3 (.tmp 38) (.const (vi 1)) (vi y.ob.kind) (vi 1) (Value.bool y.isN)]) Tryz.func25 (by kernel_rfl) (by kernel_rfl) ⟨p_rAr14, bin_ieq ((isN_k x).trans hNx), bin_ieq ((isT_k x).trans hTx), bin_ieq (isN_k y), trivial⟩
  | false =>
    cases hTx : x.isT with
    | true =>
      exact pwalk (an := [.av (.tup [inA 2, boA true]), .no, .no, .no, .no, yF, .no, yT, .no, .no, .no, .av (boA y.isT), .no, .no, .no, .no, .no, .no, .no, .no]) (ls := []) (ps := [Puk 16 [(syA lispB [60])] (.tup [(inA 2), (boA true)]), Bn .eql 3 (.tmp 38) (.const (vi 1)) (vi x.ob.kind) (vi 1) bF, Bn .eql 3 (.tmp 47) (.const (vi 3)) (vi x.ob.kind) (vi 3) bT, Bn .eql 3 (.tmp 47) (.const (vi 3)) (vi y.ob.kind) (vi 3) (Value.bool y.isT)]) Tryz.func25 (by kernel_rfl) (by kernel_rfl) ⟨p_rAr14, bin_ieq ((isN_k x).trans hNx), bin_ieq ((isT_k x).trans hTx), bin_ieq (isT_k y), trivial⟩
    | false =>
      exact pwalk (an := [.av (.tup [inA 2, boA true]), .no, .no, .no, .no, yF, .no, yF, .no, .no, .no, .no, .no, .no, .no, .no, .no, .no]) (ls := []) (ps := [Puk 16 [(syA lispB [60])] (.tup [(inA 2), (boA true)]), Bn .eql 3 (.tmp 38) (.const (vi 1)) (vi x.ob.kind) (vi 1) bF, Bn .eql 3 (.tmp 47) (.const (vi 3)) (vi x.ob.kind) (vi 3) bF]) Tryz.func25 (by kernel_rfl) (by kernel_rfl) ⟨p_rAr14, bin_ieq ((isN_k x).trans hNx), bin_ieq ((isT_k x).trans hTx), trivial⟩
theorem p_rGd15 {x : Tr} (_hx : Arg x) : Puk 25 [syA lispB [110, 117, 109, 101, 114, 97, 116, 111, 114], rowA [x]] (boA (Tr.gd 15 x nilT)) := by
  exact pwalk (an := [.av (.tup [inA 1, boA true]), .no, .no, .no, .no, .av (boA x.isN), .no, .av (boA x.isT), .no, .no, .no, .no, .no, .no, .no, .no, .no]) (ls := []) (ps := [Puk 16 [(syA lispB [110, 117, 109, 101, 114, 97, 116, 111, 114])] (.tup [(inA 1), (boA true)]), Bn .eql 3 (.tmp 38) (.const (vi 1)) (vi x.ob.kind) (vi 1) (Value.bool x.isN), Bn .eql 3 (.tmp 47) (.const (vi 3)) (vi x.ob.kind) (vi 3) (Value.bool x.isT)]) Tryz.func25 (by kernel_rfl) (by kernel_rfl) ⟨p_rAr15, bin_ieq (isN_k x), bin_ieq (isT_k x), trivial⟩
theorem p_rGd16 {x : Tr} (_hx : Arg x) : Puk 25 [syA lispB [100, 101, 110, 111, 109, 105, 110, 97, 116, 111, 114], rowA [x]] (boA (Tr.gd 16 x nilT)) := by
  exact pwalk (an := [.av (.tup [inA 1, boA true]), .no, .no, .no, .no, .av (boA x.isN), .no, .av (boA x.isT), .no, .no, .no, .no, .no, .no, .no, .no, .no, .no]) (ls := []) (ps := [Puk 16 [(syA lispB [100, 101, 110, 111, 109, 105, 110, 97, 116, 111, 114])] (.tup [(inA 1), (boA true)]), Bn .eql 3 (.tmp 38) (.const (vi 1)) (vi x.ob.kind) (vi 1) (Value.bool x.isN), Bn .eql 3 (.tmp 47) (.const (vi 3)) (vi x.ob.kind) (vi 3) (Value.bool x.isT)]) Tryz.func25 (by kernel_rfl) (by kernel_rfl) ⟨p_rAr16, bin_ieq (isN_k x), bin_ieq (isT_k x), trivial⟩
theorem p_rGd17 {x : Tr} (_hx : Arg x) : Puk 25 [syA lispB [102, 108, 111, 111, 114], rowA [x]] (boA (Tr.gd 17 x nilT)) := by
  exact pwalk (an := [.av (.tup [inA 1, boA true]), .no, .no, .no, .no, .av (boA x.isN), .no, .av (boA x.isT), .no, .no, .no, .no, .no, .no, .no, .no, .no, .no, .no]) (ls := []) (ps := [Puk 16 [(syA lispB [102, 108, 111, 111, 114])] (.tup [(inA 1), (boA true)]), Bn .eql 3 (.tmp 38) (.const (vi 1)) (vi x.ob.kind) (vi 1) (Value.bool x.isN), Bn .eql 3 (.tmp 47) (.const (vi 3)) (vi x.ob.kind) (vi 3) (Value.bool x.isT)]) Tryz.func25 (by kernel_rfl) (by kernel_rfl) ⟨p_rAr17, bin_ieq (isN_k x), bin_ieq (isT_k x), trivial⟩
theorem p_rGd18 {x : Tr} (_hx : Arg x) : Puk 25 [syA lispB [115, 121, 109, 98, 111, 108, 45, 110, 97, 109, 101], rowA [x]] (boA (Tr.gd 18 x nilT)) := by
  exact pwalk (an := [.av (.tup [inA 1, boA true]), .no, .no, .no, .no, .av (boA x.isN), .no, .av (boA x.isT), .no, .no, .no, .no, .no, .no, .no, .no, .no, .no, .no, .no, .no, .no, .av (boA x.isY)]) (ls := []) (ps := [Puk 16 [(syA lispB [115, 121, 109, 98, 111, 108, 45, 110, 97, 109, 101])] (.tup [(inA 1), (boA true)]), Bn .eql 3 (.tmp 38) (.const (vi 1)) (vi x.ob.kind) (vi 1) (Value.bool x.isN), Bn .eql 3 (.tmp 47) (.const (vi 3)) (vi x.ob.kind) (vi 3) (Value.bool x.isT), Bn .eql 3 (.tmp 91) (.const (vi 2)) (vi x.ob.kind) (vi 2) (Value.bool x.isY)]) Tryz.func25 (by kernel_rfl) (by kernel_rfl) ⟨p_rAr18, bin_ieq (isN_k x), bin_ieq (isT_k x), bin_ieq (isY_k x), trivial⟩
theorem p_rGd19 {x : Tr} (_hx : Arg x) : Puk 25 [syA lispB [115, 121, 109, 98, 111, 108, 45, 112, 97, 99, 107, 97, 103, 101, 45, 110, 97, 109, 101], rowA [x]] (boA (Tr.gd 19 x nilT)) := by
  exact pwalk (an := [.av (.tup [inA 1, boA true]), .no, .no, .no, .no, .av (boA x.isN), .no, .av (boA x.isT), .no, .no, .no, .no, .no, .no, .no, .no, .no, .no, .no, .no, .no, .no, .no, .av (boA x.isY)]) (ls := []) (ps := [Puk 16 [(syA lispB [115, 121, 109, 98, 111, 108, 45, 112, 97, 99, 107, 97, 103, 101, 45, 110, 97, 109, 101])] (.tup [(inA 1), (boA true)]), Bn .eql 3 (.tmp 38) (.const (vi 1)) (vi x.ob.kind) (vi 1) (Value.bool x.isN), Bn .eql 3 (.tmp 47) (.const (vi 3)) (vi x.ob.kind) (vi 3) (Value.bool x.isT), Bn .eql 3 (.tmp 91) (.const (vi 2)) (vi x.ob.kind) (vi 2) (Value.bool x.isY)]) Tryz.func25 (by kernel_rfl) (by kernel_rfl) ⟨p_rAr19, bin_ieq (isN_k x), bin_ieq (isT_k x), bin_ieq (isY_k x), trivial⟩
theorem p_rGd20 {x : Tr} (_hx : Arg x) {y : Tr} (_hy : Arg y) : Puk 25 [syA lispB [105, 110, 116, 101, 114, 110], rowA [x, y]] (boA (Tr.gd 20 x y)) := by
  show Puk _ _ (boA (x.isT && y.isT))
  cases hNx : x.isN with
  | true =>
    cases hTx : x.isT with
    | true =>
      exact pwalk (an := [.av (.tup [inA 2, boA true]), .no, .no, .no, .no, yT, .no, yT, .no, .no, .no, .av (boA y.isN), .no, .av (boA y.isT), .no, .no, .no, .no, .no, .no, .no, .no, .no, .no, .no, .no, .no, .no, .no]) (ls := []) (ps := [Puk 16 [(syA lispB [105, 110, 116, 101, 114, 110])] (.tup [(inA 2), (boA true)]), Bn .eql 3 (.tmp 38) (.const (vi 1)) (vi x.ob.kind) (vi 1) bT, Bn .eql 3 (.tmp 47) (.const (vi 3)) (vi x.ob.kind) (vi 3) bT, Bn .eql 3 (.tmp 38) (.const (vi 1)) (vi y.ob.kind) (vi 1) (Value.bool y.isN), Bn .eql 3 (.tmp 47) (.const (vi 3)) (vi y.ob.kind) (vi 3) (Value.bool y.isT)]) Tryz.func25 (by kernel_rfl) (by kernel_rfl) ⟨p_rAr20, bin_ieq ((isN_k x).trans hNx), bin_ieq ((isT_k x).trans hTx), bin_ieq (isN_k y), bin_ieq (isT_k y), trivial⟩
    | false =>
      exact pwalk (an := [.av (.tup [inA 2, boA true]), .no, .no, .no, .no, yT, .no, yF, .no, .no, .no, .av (boA y.isN), .no, .no, .no, .no, .no, .no, .no, .no, .no, .no, .no, .no, .no, .no, .no]) (ls := []) (ps := [Puk 16 [(syA lispB [105, 110, 116, 101, 114, 110])] (.tup [(inA 2), (boA true)]), Bn .eql 3 (.tmp 38) (.const (vi 1)) (vi x.ob.kind) (vi 1) bT, Bn .eql 3 (.tmp 47) (.const (vi 3)) (vi x.ob.kind) (vi 3) bF, Bn .eql 3 (.tmp 38) (.const (vi 1)) (vi y.ob.kind) (vi 1) (Value.bool y.isN)]) Tryz.func25 (by kernel_rfl) (by kernel_rfl) ⟨p_rAr20, bin_ieq ((isN_k x).trans hNx), bin_ieq ((isT_k x).trans hTx), bin_ieq (isN_k y), trivial⟩
  | false =>
    cases hTx : x.isT with
    | true =>
      exact pwalk (an := [.av (.tup [inA 2, boA true]), .no, .no, .no, .no, yF, .no, yT, .no, .no, .no, .av (boA y.isT), .no, .no, .no, .no, .no, .no, .no, .no, .no, .no, .no, .no, .no, .no, .no]) (ls := []) (ps := [Puk 16 [(syA lispB [105, 110, 116, 101, 114, 110])] (.tup [(inA 2), (boA true)]), Bn .eql 3 (.tmp 38) (.const (vi 1)) (vi x.ob.kind) (vi 1) bF, Bn .eql 3 (.tmp 47) (.const (vi 3)) (vi x.ob.kind) (vi 3) bT, Bn .eql 3 (.tmp 47) (.const (vi 3)) (vi y.ob.kind) (vi 3) (Value.bool y.isT)]) Tryz.func25 (by kernel_rfl) (by kernel_rfl) ⟨p_rAr20, bin_ieq ((isN_k x).trans hNx), bin_ieq ((isT_k x).trans hTx), bin_ieq (isT_k y), trivial⟩
    | false =>
      exact pwalk (an := [.av (.tup [inA 2, boA true]), .no, .no, .no, .no, yF, .no, yF, .no, .no, .no, .no, .no, .no, .no, .no, .no, .no, .no, .no, .no, .no, .no, .no, .no]) (ls := []) (ps := [Puk 16 [(syA lispB [105, 110, 116, 101, 114, 110])] (.tup [(inA 2), (boA true)]), Bn .eql 3 (.tmp 38) (.const (vi 1)) (vi x.ob.kind) (vi 1) bF, Bn .eql 3 (.tmp 47) (.const (vi 3)) (vi x.ob.kind) (vi 3) bF]) Tryz.func25 (by kernel_rfl) (by kernel_rfl) ⟨p_rAr20, bin_ieq ((isN_k x).trans hNx), bin_ieq ((isT_k x).trans hTx), trivial⟩
theorem p_rGd21 {x : Tr} (_hx : Arg x) {y : Tr} (_hy : Arg y) : Puk 25 [syA lispB [115, 116, 114, 105, 110, 103, 45, 97, 112, 112, 101, 110, 100], rowA [x, y]] (boA (Tr.gd 21 x y)) := by
  show Puk _ _ (boA (x.isT && y.isT))
  cases hNx : x.isN with
  | true =>
    cases hTx : x.isT with
    | true =>
      exact pwalk (an := [.av (.tup [inA 2, boA true]), .no, .no, .no, .no, yT, .no, yT, .no, .no, .no, .av (boA y.isN), .no, .av (boA y.isT), .no, .no, .no, .no, .no, .no, .no, .no, .no, .no, .no, .no, .no, .no, .no, .no]) (ls := []) (ps := [Puk 16 [(syA lispB [115, 116, 114, 105, 110, 103, 45, 97, 112, 112, 101, 110, 100])] (.tup [(inA 2), (boA true)]), Bn .eql 3 (.tmp 38) (.const (vi 1)) (vi x.ob.kind) (vi 1) bT, Bn .eql 3 (.tmp 47) (.const (vi 3)) (vi x.ob.kind) (vi 3) bT, Bn .eql 3 (.tmp 38) (.const (vi 1)) (vi y.ob.kind) (vi 1) (Value.bool y.isN), Bn .eql 3 (.tmp 47) (.const (vi 3)) (vi y.ob.kind) (vi 3) (Value.bool y.isT)]) Tryz.func25 (by kernel_rfl) (by kernel_rfl) ⟨p_rAr21, bin_ieq ((isN_k x).trans hNx), bin_ieq ((isT_k x).trans hTx), bin_ieq (isN_k y), bin_ieq (isT_k y), trivial⟩
    | false =>
      exact pwalk (an := [.av (.tup [inA 2, boA true]), .no, .no, .no, .no, yT, .no, yF, .no, .no, .no, .av (boA y.isN), .no, .no, .no, .no, .no, .no, .no, .no, .no, .no, .no, .no, .no, .no, .no, .no]) (ls := []) (ps := [Puk 16 [(syA lispB [115, 116, 114, 105, 110, 103, 45, 97, 112, 112, 101, 110, 100])] (.tup [(inA 2), (boA true)]), Bn .eql 3 (.tmp 38) (.const (vi 1)) (vi x.ob.kind) (vi 1) bT, Bn .eql 3 (.tmp 47) (.const (vi 3)) (vi x.ob.kind) (vi 3) bF, Bn .eql 3 (.tmp 38) (.const (vi 1)) (vi y.ob.kind) (vi 1) (Value.bool y.isN)]) Tryz.func25 (by kernel_rfl) (by kernel_rfl) ⟨p_rAr21, bin_ieq ((isN_k x).trans hNx), bin_ieq ((isT_k x).trans hTx), bin_ieq (isN_k y), trivial⟩
  | false =>
    cases hTx : x.isT with
    | true =>
      exact pwalk (an := [.av (.tup [inA 2, boA true]), .no, .no, .no, .no, yF, .no, yT, .no, .no, .no, .av (boA y.isT), .no, .no, .no, .no, .no, .no, .no, .no, .no, .no, .no, .no, .no, .no, .no, .no]) (ls := []) (ps := [Puk 16 [(syA lispB [115, 116, 114, 105, 110, 103, 45, 97, 112, 112, 101, 110, 100])] (.tup [(inA 2), (boA true)]), Bn .eql 3 (.tmp 38) (.const (vi 1)) (vi x.ob.kind) (vi 1) bF, Bn .eql 3 (.tmp 47) (.const (vi 3)) (vi x.ob.kind) (vi 3) bT, Bn .eql 3 (.tmp 47) (.const (vi 3)) (vi y.ob.kind) (vi 3) (Value.bool y.isT)]) Tryz.func25 (by kernel_rfl) (by kernel_rfl) ⟨p_rAr21, bin_ieq ((isN_k x).trans hNx), bin_ieq ((isT_k x).trans hTx), bin_ieq (isT_k y), trivial⟩
    | false =>
      exact pwalk (an := [.av (.tup [inA 2, boA true]), .no, .no, .no, .no, yF, .no, yF, .no, .no, .no, .no, .no, .no, .no, .no, .no, .no, .no, .no, .no, .no, .no, .no, .no, .no]) (ls := []) (ps := [Puk 16 [(syA lispB [115, 116, 114, 105, 110, 103, 45, 97, 112, 112, 101, 110, 100])] (.tup [(inA 2), (boA true)]), Bn .eql 3 (.tmp 38) (.const (vi 1)) (vi x.ob.kind) (vi 1) bF, Bn .eql 3 (.tmp 47) (.const (vi 3)) (vi x.ob.kind) (vi 3) bF]) Tryz.func25 (by kernel_rfl) (by kernel_rfl) ⟨p_rAr21, bin_ieq ((isN_k x).trans hNx), bin_ieq ((isT_k x).trans hTx), trivial⟩
theorem p_rGd22 {x : Tr} (_hx : Arg x) : Puk 25 [syA lispB [115, 116, 114, 105, 110, 103, 45, 108, 101, 110, 103, 116, 104], rowA [x]] (boA (Tr.gd 22 x nilT)) := by
  exact pwalk (an := [.av (.tup [inA 1, boA true]), .no, .no, .no, .no, .av (boA x.isN), .no, .av (boA x.isT), .no, .no, .no, .no, .no, .no, .no, .no, .no, .no, .no, .no, .no, .no, .no, .no, .no]) (ls := []) (ps := [Puk 16 [(syA lispB [115, 116, 114, 105, 110, 103, 45, 108, 101, 110, 103, 116, 104])] (.tup [(inA 1), (boA true)]), Bn .eql 3 (.tmp 38) (.const (vi 1)) (vi x.ob.kind) (vi 1) (Value.bool x.isN), Bn .eql 3 (.tmp 47) (.const (vi 3)) (vi x.ob.kind) (vi 3) (Value.bool x.isT)]) Tryz.func25 (by kernel_rfl) (by kernel_rfl) ⟨p_rAr22, bin_ieq (isN_k x), bin_ieq (isT_k x), trivial⟩
theorem p_rGd23 {x : Tr} (_hx : Arg x) {y : Tr} (hy : Arg y) : Puk 25 [syA lispB [115, 116, 114, 105, 110, 103, 45, 98, 121, 116, 101], rowA [x, y]] (boA (Tr.gd 23 x y)) := by
  cases hNx : x.isN with
  | true =>
    cases hTx : x.isT with
    | true =>
      exact pwalk (an := [.av (.tup [inA 2, boA true]), .no, .no, .no, .no, yT, .no, yT, .no, .no, .no, .av (boA y.isN), .no, .av (boA y.isT), .no, .no, .no, .no, .no, .no, .no, .no, .no, .no, .no, .no, .no, .no, .no, .no, .no, .no, .no, .no, .av (.tup [inA (ixR x y), boA (x.ixV y).isSome])]) (ls := []) (ps := [Puk 16 [(syA lispB [115, 116, 114, 105, 110, 103, 45, 98, 121, 116, 101])] (.tup [(inA 2), (boA true)]), Bn .eql 3 (.tmp 38) (.const (vi 1)) (vi x.ob.kind) (vi 1) bT, Bn .eql 3 (.tmp 47) (.const (vi 3)) (vi x.ob.kind) (vi 3) bT, Bn .eql 3 (.tmp 38) (.const (vi 1)) (vi y.ob.kind) (vi 1) (Value.bool y.isN), Bn .eql 3 (.tmp 47) (.const (vi 3)) (vi y.ob.kind) (vi 3) (Value.bool y.isT), Puk 69 [(obA x.ob), (obA y.ob)] (.tup [(inA (ixR x y)), (boA ((x.ixV y).isSome))])]) Tryz.func25 (by kernel_rfl) (by kernel_rfl) ⟨p_rAr23, bin_ieq ((isN_k x).trans hNx), bin_ieq ((isT_k x).trans hTx), bin_ieq (isN_k y), bin_ieq (isT_k y), p_rIx x hy.ok (by decide), trivial⟩
    | false =>
      exact pwalk (an := [.av (.tup [inA 2, boA true]), .no, .no, .no, .no, yT, .no, yF, .no, .no, .no, .av (boA y.isN), .no, .no, .no, .no, .no, .no, .no, .no, .no, .no, .no, .no, .no, .no, .no, .no, .no, .no, .no, .no, .av (.tup [inA (ixR x y), boA (x.ixV y).isSome])]) (ls := []) (ps := [Puk 16 [(syA lispB [115, 116, 114, 105, 110, 103, 45, 98, 121, 116, 101])] (.tup [(inA 2), (boA true)]), Bn .eql 3 (.tmp 38) (.const (vi 1)) (vi x.ob.kind) (vi 1) bT, Bn .eql 3 (.tmp 47) (.const (vi 3)) (vi x.ob.kind) (vi 3) bF, Bn .eql 3 (.tmp 38) (.const (vi 1)) (vi y.ob.kind) (vi 1) (Value.bool y.isN), Puk 69 [(obA x.ob), (obA y.ob)] (.tup [(inA (ixR x y)), (boA ((x.ixV y).isSome))])]) Tryz.func25 (by kernel_rfl) (by kernel_rfl) ⟨p_rAr23, bin_ieq ((isN_k x).trans hNx), bin_ieq ((isT_k x).trans hTx), bin_ieq (isN_k y), p_rIx x hy.ok (by decide), trivial⟩
  | false =>
    cases hTx : x.isT with
    | true =>
      exact pwalk (an := [.av (.tup [inA 2, boA true]), .no, .no, .no, .no, yF, .no, yT, .no, .no, .no, .av (boA y.isT), .no, .no, .no, .no, .no, .no, .no, .no, .no, .no, .no, .no, .no, .no, .no, .no, .no, .no, .no, .no, .av (.tup [inA (ixR x y), boA (x.ixV y).isSome])]) (ls := []) (ps := [Puk 16 [(syA lispB [115, 116, 114, 105, 110, 103, 45, 98, 121, 116, 101])] (.tup [(inA 2), (boA true)]), Bn .eql 3 (.tmp 38) (.const (vi 1)) (vi x.ob.kind) (vi 1) bF, Bn .eql 3 (.tmp 47) (.const (vi 3)) (vi x.ob.kind) (vi 3) bT, Bn .eql 3 (.tmp 47) (.const (vi 3)) (vi y.ob.kind) (vi 3) (Value.bool y.isT), Puk 69 [(obA x.ob), (obA y.ob)] (.tup [(inA (ixR x y)), (boA ((x.ixV y).isSome))])]) Tryz.func25 (by kernel_rfl) (by kernel_rfl) ⟨p_rAr23, bin_ieq ((isN_k x).trans hNx), bin_ieq ((isT_k x).trans hTx), bin_ieq (isT_k y), p_rIx x hy.ok (by decide), trivial⟩
    | false =>
      exact pwalk (an := [.av (.tup [inA 2, boA true]), .no, .no, .no, .no, yF, .no, yF, .no, .no, .no, .no, .no, .no, .no, .no, .no, .no, .no, .no, .no, .no, .no, .no, .no, .no, .no, .no, .no, .no, .av (.tup [inA (ixR x y), boA (x.ixV y).isSome])]) (ls := []) (ps := [Puk 16 [(syA lispB [115, 116, 114, 105, 110, 103, 45, 98, 121, 116, 101])] (.tup [(inA 2), (boA true)]), Bn .eql 3 (.tmp 38) (.const (vi 1)) (vi x.ob.kind) (vi 1) bF, Bn .eql 3 (.tmp 47) (.const (vi 3)) (vi x.ob.kind) (vi 3) bF, Puk 69 [(obA x.ob), (obA y.ob)] (.tup [(inA (ixR x y)), (boA ((x.ixV y).isSome))])]) Tryz.func25 (by kernel_rfl) (by kernel_rfl) ⟨p_rAr23, bin_ieq ((isN_k x).trans hNx), bin_ieq ((isT_k x).trans hTx), p_rIx x hy.ok (by decide), trivial⟩
theorem p_rGd24 {x : Tr} (hx : Arg x) : Puk 25 [syA lispB [98, 121, 116, 101, 45, 115, 116, 114, 105, 110, 103], rowA [x]] (boA (Tr.gd 24 x nilT)) := by
  exact pwalk (an := [.av (.tup [inA 1, boA true]), .no, .no, .no, .no, .av (boA x.isN), .no, .av (boA x.isT), .no, .no, .no, .no, .no, .no, .no, .no, .no, .no, .no, .no, .no, .no, .no, .no, .no, .no, .no, .no, .av (.tup [.dt (.val (.int .u8 (ocR x))), boA x.octV.isSome])]) (ls := []) (ps := [Puk 16 [(syA lispB [98, 121, 116, 101, 45, 115, 116, 114, 105, 110, 103])] (.tup [(inA 1), (boA true)]), Bn .eql 3 (.tmp 38) (.const (vi 1)) (vi x.ob.kind) (vi 1) (Value.bool x.isN), Bn .eql 3 (.tmp 47) (.const (vi 3)) (vi x.ob.kind) (vi 3) (Value.bool x.isT), Puk 70 [(obA x.ob)] (.tup [(.dt (.val (Value.int .u8 (ocR x)))), (boA x.octV.isSome)])]) Tryz.func25 (by kernel_rfl) (by kernel_rfl) ⟨p_rAr24, bin_ieq (isN_k x), bin_ieq (isT_k x), p_rOct hx.ok (by decide), trivial⟩
theorem p_oGdC {p s : List UInt8} {a : Int} {l : List Tr} (hA : Puk 15 [syA p s] (.tup [inA a, boA true])) (h : (l.length : Int) ≠ a) : Puk 24 [syA p s, rowA l] (boA false) := pwalk (an := [.av (.tup [inA a, boA true]), .no, yT]) (ls := []) (ps := [Puk 15 [(syA p s)] (.tup [(inA a), (boA true)]), Bn .neq 3 (.tmp 25) (.tmp 26) (vi (↑(List.map (fun t => encL t.ob) l).length)) (vi a) bT]) Tryz.func24 (by kernel_rfl) (by kernel_rfl) ⟨hA, bin_ine (by rw [List.length_map]; exact decide_eq_false h), trivial⟩
theorem p_oGdF {p s : List UInt8} {l : List Tr} (hA : Puk 15 [syA p s] (.tup [inA 0, boA false])) : Puk 24 [syA p s, rowA l] (boA false) := pwalk (an := [.av (.tup [inA 0, boA false])]) (ls := []) (ps := [Puk 15 [(syA p s)] (.tup [(inA 0), (boA false)])]) Tryz.func24 (by kernel_rfl) (by kernel_rfl) ⟨hA, trivial⟩
theorem p_oGd : ∀ {i : Nat} {s : List UInt8} {a : Nat} {l : List Tr}, primL[i]? = some (s, a) → (∀ t ∈ l, t.valid = true) → l.length = a → Puk 24 [syA lispB s, rowA l] (boA (Tr.gd i (l.getD 0 nilT) (l.getD 1 nilT)))
  | 0, _, _, [x, y, z], h, hl, _ => by cases h; exact p_oGd0 (Tr.valid_arg (hl x (List.mem_cons_self ..))) (Tr.valid_arg (hl y (List.mem_cons_of_mem _ (List.mem_cons_self ..)))) (Tr.valid_arg (hl z (List.mem_cons_of_mem _ (List.mem_cons_of_mem _ (List.mem_cons_self ..)))))
  | 0, _, _, [], h, _, hn => by cases h; exact absurd hn (by simp)
  | 0, _, _, [_], h, _, hn => by cases h; exact absurd hn (by simp)
  | 0, _, _, [_, _], h, _, hn => by cases h; exact absurd hn (by simp)
  | 0, _, _, _ :: _ :: _ :: _ :: _, h, _, hn => by cases h; simp at hn
  | 1, _, _, [x, y], h, hl, _ => by cases h; exact p_oGd1 (Tr.valid_arg (hl x (List.mem_cons_self ..))) (Tr.valid_arg (hl y (List.mem_cons_of_mem _ (List.mem_cons_self ..))))
  | 1, _, _, [], h, _, hn => by cases h; exact absurd hn (by simp)
  | 1, _, _, [_], h, _, hn => by cases h; exact absurd hn (by simp)
  | 1, _, _, _ :: _ :: _ :: _, h, _, hn => by cases h; simp at hn
  | 2, _, _, [x, y], h, hl, _ => by cases h; exact p_oGd2 (Tr.valid_arg (hl x (List.mem_cons_self ..))) (Tr.valid_arg (hl y (List.mem_cons_of_mem _ (List.mem_cons_self ..))))
  | 2, _, _, [], h, _, hn => by cases h; exact absurd hn (by simp)
  | 2, _, _, [_], h, _, hn => by cases h; exact absurd hn (by simp)
  | 2, _, _, _ :: _ :: _ :: _, h, _, hn => by cases h; simp at hn
  | 3, _, _, [x], h, hl, _ => by cases h; exact p_oGd3 (Tr.valid_arg (hl x (List.mem_cons_self ..)))
  | 3, _, _, [], h, _, hn => by cases h; exact absurd hn (by simp)
  | 3, _, _, _ :: _ :: _, h, _, hn => by cases h; simp at hn
  | 4, _, _, [x], h, hl, _ => by cases h; exact p_oGd4 (Tr.valid_arg (hl x (List.mem_cons_self ..)))
  | 4, _, _, [], h, _, hn => by cases h; exact absurd hn (by simp)
  | 4, _, _, _ :: _ :: _, h, _, hn => by cases h; simp at hn
  | 5, _, _, [x], h, hl, _ => by cases h; exact p_oGd5 (Tr.valid_arg (hl x (List.mem_cons_self ..)))
  | 5, _, _, [], h, _, hn => by cases h; exact absurd hn (by simp)
  | 5, _, _, _ :: _ :: _, h, _, hn => by cases h; simp at hn
  | 6, _, _, [x], h, hl, _ => by cases h; exact p_oGd6 (Tr.valid_arg (hl x (List.mem_cons_self ..)))
  | 6, _, _, [], h, _, hn => by cases h; exact absurd hn (by simp)
  | 6, _, _, _ :: _ :: _, h, _, hn => by cases h; simp at hn
  | 7, _, _, [x], h, hl, _ => by cases h; exact p_oGd7 (Tr.valid_arg (hl x (List.mem_cons_self ..)))
  | 7, _, _, [], h, _, hn => by cases h; exact absurd hn (by simp)
  | 7, _, _, _ :: _ :: _, h, _, hn => by cases h; simp at hn
  | 8, _, _, [x], h, hl, _ => by cases h; exact p_oGd8 (Tr.valid_arg (hl x (List.mem_cons_self ..)))
  | 8, _, _, [], h, _, hn => by cases h; exact absurd hn (by simp)
  | 8, _, _, _ :: _ :: _, h, _, hn => by cases h; simp at hn
  | 9, _, _, [x], h, hl, _ => by cases h; exact p_oGd9 (Tr.valid_arg (hl x (List.mem_cons_self ..)))
  | 9, _, _, [], h, _, hn => by cases h; exact absurd hn (by simp)
  | 9, _, _, _ :: _ :: _, h, _, hn => by cases h; simp at hn
  | 10, _, _, [x, y], h, hl, _ => by cases h; exact p_oGd10 (Tr.valid_arg (hl x (List.mem_cons_self ..))) (Tr.valid_arg (hl y (List.mem_cons_of_mem _ (List.mem_cons_self ..))))
  | 10, _, _, [], h, _, hn => by cases h; exact absurd hn (by simp)
  | 10, _, _, [_], h, _, hn => by cases h; exact absurd hn (by simp)
  | 10, _, _, _ :: _ :: _ :: _, h, _, hn => by cases h; simp at hn
  | 11, _, _, [x, y], h, hl, _ => by cases h; exact p_oGd11 (Tr.valid_arg (hl x (List.mem_cons_self ..))) (Tr.valid_arg (hl y (List.mem_cons_of_mem _ (List.mem_cons_self ..))))
  | 11, _, _, [], h, _, hn => by cases h; exact absurd hn (by simp)
  | 11, _, _, [_], h, _, hn => by cases h; exact absurd hn (by simp)
  | 11, _, _, _ :: _ :: _ :: _, h, _, hn => by cases h; simp at hn
  | 12, _, _, [x], h, hl, _ => by cases h; exact p_oGd12 (Tr.valid_arg (hl x (List.mem_cons_self ..)))
  | 12, _, _, [], h, _, hn => by cases h; exact absurd hn (by simp)
  | 12, _, _, _ :: _ :: _, h, _, hn => by cases h; simp at hn
  | 13, _, _, [x], h, hl, _ => by cases h; exact p_oGd13 (Tr.valid_arg (hl x (List.mem_cons_self ..)))
  | 13, _, _, [], h, _, hn => by cases h; exact absurd hn (by simp)
  | 13, _, _, _ :: _ :: _, h, _, hn => by cases h; simp at hn
  | 14, _, _, [x, y], h, hl, _ => by cases h; exact p_oGd14 (Tr.valid_arg (hl x (List.mem_cons_self ..))) (Tr.valid_arg (hl y (List.mem_cons_of_mem _ (List.mem_cons_self ..))))
  | 14, _, _, [], h, _, hn => by cases h; exact absurd hn (by simp)
  | 14, _, _, [_], h, _, hn => by cases h; exact absurd hn (by simp)
  | 14, _, _, _ :: _ :: _ :: _, h, _, hn => by cases h; simp at hn
  | 15, _, _, [x], h, hl, _ => by cases h; exact p_oGd15 (Tr.valid_arg (hl x (List.mem_cons_self ..)))
  | 15, _, _, [], h, _, hn => by cases h; exact absurd hn (by simp)
  | 15, _, _, _ :: _ :: _, h, _, hn => by cases h; simp at hn
  | 16, _, _, [x], h, hl, _ => by cases h; exact p_oGd16 (Tr.valid_arg (hl x (List.mem_cons_self ..)))
  | 16, _, _, [], h, _, hn => by cases h; exact absurd hn (by simp)
  | 16, _, _, _ :: _ :: _, h, _, hn => by cases h; simp at hn
  | 17, _, _, [x], h, hl, _ => by cases h; exact p_oGd17 (Tr.valid_arg (hl x (List.mem_cons_self ..)))
  | 17, _, _, [], h, _, hn => by cases h; exact absurd hn (by simp)
  | 17, _, _, _ :: _ :: _, h, _, hn => by cases h; simp at hn
  | 18, _, _, [x], h, hl, _ => by cases h; exact p_oGd18 (Tr.valid_arg (hl x (List.mem_cons_self ..)))
  | 18, _, _, [], h, _, hn => by cases h; exact absurd hn (by simp)
  | 18, _, _, _ :: _ :: _, h, _, hn => by cases h; simp at hn
  | 19, _, _, [x], h, hl, _ => by cases h; exact p_oGd19 (Tr.valid_arg (hl x (List.mem_cons_self ..)))
  | 19, _, _, [], h, _, hn => by cases h; exact absurd hn (by simp)
  | 19, _, _, _ :: _ :: _, h, _, hn => by cases h; simp at hn
  | 20, _, _, [x, y], h, hl, _ => by cases h; exact p_oGd20 (Tr.valid_arg (hl x (List.mem_cons_self ..))) (Tr.valid_arg (hl y (List.mem_cons_of_mem _ (List.mem_cons_self ..))))
  | 20, _, _, [], h, _, hn => by cases h; exact absurd hn (by simp)
  | 20, _, _, [_], h, _, hn => by cases h; exact absurd hn (by simp)
  | 20, _, _, _ :: _ :: _ :: _, h, _, hn => by cases h; simp at hn
  | 21, _, _, [x, y], h, hl, _ => by cases h; exact p_oGd21 (Tr.valid_arg (hl x (List.mem_cons_self ..))) (Tr.valid_arg (hl y (List.mem_cons_of_mem _ (List.mem_cons_self ..))))
  | 21, _, _, [], h, _, hn => by cases h; exact absurd hn (by simp)
  | 21, _, _, [_], h, _, hn => by cases h; exact absurd hn (by simp)
  | 21, _, _, _ :: _ :: _ :: _, h, _, hn => by cases h; simp at hn
  | 22, _, _, [x], h, hl, _ => by cases h; exact p_oGd22 (Tr.valid_arg (hl x (List.mem_cons_self ..)))
  | 22, _, _, [], h, _, hn => by cases h; exact absurd hn (by simp)
  | 22, _, _, _ :: _ :: _, h, _, hn => by cases h; simp at hn
  | 23, _, _, [x, y], h, hl, _ => by cases h; exact p_oGd23 (Tr.valid_arg (hl x (List.mem_cons_self ..))) (Tr.valid_arg (hl y (List.mem_cons_of_mem _ (List.mem_cons_self ..))))
  | 23, _, _, [], h, _, hn => by cases h; exact absurd hn (by simp)
  | 23, _, _, [_], h, _, hn => by cases h; exact absurd hn (by simp)
  | 23, _, _, _ :: _ :: _ :: _, h, _, hn => by cases h; simp at hn
  | 24, _, _, [x], h, hl, _ => by cases h; exact p_oGd24 (Tr.valid_arg (hl x (List.mem_cons_self ..)))
  | 24, _, _, [], h, _, hn => by cases h; exact absurd hn (by simp)
  | 24, _, _, _ :: _ :: _, h, _, hn => by cases h; simp at hn
  | _ + 25, _, _, _, h, _, _ => by cases h
theorem p_rGdC {p s : List UInt8} {a : Int} {l : List Tr} (hA : Puk 16 [syA p s] (.tup [inA a, boA true])) (h : (l.length : Int) ≠ a) : Puk 25 [syA p s, rowA l] (boA false) := pwalk (an := [.av (.tup [inA a, boA true]), .no, yT]) (ls := []) (ps := [Puk 16 [(syA p s)] (.tup [(inA a), (boA true)]), Bn .neq 3 (.tmp 23) (.tmp 24) (vi (↑(List.map (fun t => encL t.ob) l).length)) (vi a) bT]) Tryz.func25 (by kernel_rfl) (by kernel_rfl) ⟨hA, bin_ine (by rw [List.length_map]; exact decide_eq_false h), trivial⟩
theorem p_rGdF {p s : List UInt8} {l : List Tr} (hA : Puk 16 [syA p s] (.tup [inA 0, boA false])) : Puk 25 [syA p s, rowA l] (boA false) := pwalk (an := [.av (.tup [inA 0, boA false])]) (ls := []) (ps := [Puk 16 [(syA p s)] (.tup [(inA 0), (boA false)])]) Tryz.func25 (by kernel_rfl) (by kernel_rfl) ⟨hA, trivial⟩
theorem p_rGd : ∀ {i : Nat} {s : List UInt8} {a : Nat} {l : List Tr}, primL[i]? = some (s, a) → (∀ t ∈ l, t.valid = true) → l.length = a → Puk 25 [syA lispB s, rowA l] (boA (Tr.gd i (l.getD 0 nilT) (l.getD 1 nilT)))
  | 0, _, _, [x, y, z], h, hl, _ => by cases h; exact p_rGd0 (Tr.valid_arg (hl x (List.mem_cons_self ..))) (Tr.valid_arg (hl y (List.mem_cons_of_mem _ (List.mem_cons_self ..)))) (Tr.valid_arg (hl z (List.mem_cons_of_mem _ (List.mem_cons_of_mem _ (List.mem_cons_self ..)))))
  | 0, _, _, [], h, _, hn => by cases h; exact absurd hn (by simp)
  | 0, _, _, [_], h, _, hn => by cases h; exact absurd hn (by simp)
  | 0, _, _, [_, _], h, _, hn => by cases h; exact absurd hn (by simp)
  | 0, _, _, _ :: _ :: _ :: _ :: _, h, _, hn => by cases h; simp at hn
  | 1, _, _, [x, y], h, hl, _ => by cases h; exact p_rGd1 (Tr.valid_arg (hl x (List.mem_cons_self ..))) (Tr.valid_arg (hl y (List.mem_cons_of_mem _ (List.mem_cons_self ..))))
  | 1, _, _, [], h, _, hn => by cases h; exact absurd hn (by simp)
  | 1, _, _, [_], h, _, hn => by cases h; exact absurd hn (by simp)
  | 1, _, _, _ :: _ :: _ :: _, h, _, hn => by cases h; simp at hn
  | 2, _, _, [x, y], h, hl, _ => by cases h; exact p_rGd2 (Tr.valid_arg (hl x (List.mem_cons_self ..))) (Tr.valid_arg (hl y (List.mem_cons_of_mem _ (List.mem_cons_self ..))))
  | 2, _, _, [], h, _, hn => by cases h; exact absurd hn (by simp)
  | 2, _, _, [_], h, _, hn => by cases h; exact absurd hn (by simp)
  | 2, _, _, _ :: _ :: _ :: _, h, _, hn => by cases h; simp at hn
  | 3, _, _, [x], h, hl, _ => by cases h; exact p_rGd3 (Tr.valid_arg (hl x (List.mem_cons_self ..)))
  | 3, _, _, [], h, _, hn => by cases h; exact absurd hn (by simp)
  | 3, _, _, _ :: _ :: _, h, _, hn => by cases h; simp at hn
  | 4, _, _, [x], h, hl, _ => by cases h; exact p_rGd4 (Tr.valid_arg (hl x (List.mem_cons_self ..)))
  | 4, _, _, [], h, _, hn => by cases h; exact absurd hn (by simp)
  | 4, _, _, _ :: _ :: _, h, _, hn => by cases h; simp at hn
  | 5, _, _, [x], h, hl, _ => by cases h; exact p_rGd5 (Tr.valid_arg (hl x (List.mem_cons_self ..)))
  | 5, _, _, [], h, _, hn => by cases h; exact absurd hn (by simp)
  | 5, _, _, _ :: _ :: _, h, _, hn => by cases h; simp at hn
  | 6, _, _, [x], h, hl, _ => by cases h; exact p_rGd6 (Tr.valid_arg (hl x (List.mem_cons_self ..)))
  | 6, _, _, [], h, _, hn => by cases h; exact absurd hn (by simp)
  | 6, _, _, _ :: _ :: _, h, _, hn => by cases h; simp at hn
  | 7, _, _, [x], h, hl, _ => by cases h; exact p_rGd7 (Tr.valid_arg (hl x (List.mem_cons_self ..)))
  | 7, _, _, [], h, _, hn => by cases h; exact absurd hn (by simp)
  | 7, _, _, _ :: _ :: _, h, _, hn => by cases h; simp at hn
  | 8, _, _, [x], h, hl, _ => by cases h; exact p_rGd8 (Tr.valid_arg (hl x (List.mem_cons_self ..)))
  | 8, _, _, [], h, _, hn => by cases h; exact absurd hn (by simp)
  | 8, _, _, _ :: _ :: _, h, _, hn => by cases h; simp at hn
  | 9, _, _, [x], h, hl, _ => by cases h; exact p_rGd9 (Tr.valid_arg (hl x (List.mem_cons_self ..)))
  | 9, _, _, [], h, _, hn => by cases h; exact absurd hn (by simp)
  | 9, _, _, _ :: _ :: _, h, _, hn => by cases h; simp at hn
  | 10, _, _, [x, y], h, hl, _ => by cases h; exact p_rGd10 (Tr.valid_arg (hl x (List.mem_cons_self ..))) (Tr.valid_arg (hl y (List.mem_cons_of_mem _ (List.mem_cons_self ..))))
  | 10, _, _, [], h, _, hn => by cases h; exact absurd hn (by simp)
  | 10, _, _, [_], h, _, hn => by cases h; exact absurd hn (by simp)
  | 10, _, _, _ :: _ :: _ :: _, h, _, hn => by cases h; simp at hn
  | 11, _, _, [x, y], h, hl, _ => by cases h; exact p_rGd11 (Tr.valid_arg (hl x (List.mem_cons_self ..))) (Tr.valid_arg (hl y (List.mem_cons_of_mem _ (List.mem_cons_self ..))))
  | 11, _, _, [], h, _, hn => by cases h; exact absurd hn (by simp)
  | 11, _, _, [_], h, _, hn => by cases h; exact absurd hn (by simp)
  | 11, _, _, _ :: _ :: _ :: _, h, _, hn => by cases h; simp at hn
  | 12, _, _, [x], h, hl, _ => by cases h; exact p_rGd12 (Tr.valid_arg (hl x (List.mem_cons_self ..)))
  | 12, _, _, [], h, _, hn => by cases h; exact absurd hn (by simp)
  | 12, _, _, _ :: _ :: _, h, _, hn => by cases h; simp at hn
  | 13, _, _, [x], h, hl, _ => by cases h; exact p_rGd13 (Tr.valid_arg (hl x (List.mem_cons_self ..)))
  | 13, _, _, [], h, _, hn => by cases h; exact absurd hn (by simp)
  | 13, _, _, _ :: _ :: _, h, _, hn => by cases h; simp at hn
  | 14, _, _, [x, y], h, hl, _ => by cases h; exact p_rGd14 (Tr.valid_arg (hl x (List.mem_cons_self ..))) (Tr.valid_arg (hl y (List.mem_cons_of_mem _ (List.mem_cons_self ..))))
  | 14, _, _, [], h, _, hn => by cases h; exact absurd hn (by simp)
  | 14, _, _, [_], h, _, hn => by cases h; exact absurd hn (by simp)
  | 14, _, _, _ :: _ :: _ :: _, h, _, hn => by cases h; simp at hn
  | 15, _, _, [x], h, hl, _ => by cases h; exact p_rGd15 (Tr.valid_arg (hl x (List.mem_cons_self ..)))
  | 15, _, _, [], h, _, hn => by cases h; exact absurd hn (by simp)
  | 15, _, _, _ :: _ :: _, h, _, hn => by cases h; simp at hn
  | 16, _, _, [x], h, hl, _ => by cases h; exact p_rGd16 (Tr.valid_arg (hl x (List.mem_cons_self ..)))
  | 16, _, _, [], h, _, hn => by cases h; exact absurd hn (by simp)
  | 16, _, _, _ :: _ :: _, h, _, hn => by cases h; simp at hn
  | 17, _, _, [x], h, hl, _ => by cases h; exact p_rGd17 (Tr.valid_arg (hl x (List.mem_cons_self ..)))
  | 17, _, _, [], h, _, hn => by cases h; exact absurd hn (by simp)
  | 17, _, _, _ :: _ :: _, h, _, hn => by cases h; simp at hn
  | 18, _, _, [x], h, hl, _ => by cases h; exact p_rGd18 (Tr.valid_arg (hl x (List.mem_cons_self ..)))
  | 18, _, _, [], h, _, hn => by cases h; exact absurd hn (by simp)
  | 18, _, _, _ :: _ :: _, h, _, hn => by cases h; simp at hn
  | 19, _, _, [x], h, hl, _ => by cases h; exact p_rGd19 (Tr.valid_arg (hl x (List.mem_cons_self ..)))
  | 19, _, _, [], h, _, hn => by cases h; exact absurd hn (by simp)
  | 19, _, _, _ :: _ :: _, h, _, hn => by cases h; simp at hn
  | 20, _, _, [x, y], h, hl, _ => by cases h; exact p_rGd20 (Tr.valid_arg (hl x (List.mem_cons_self ..))) (Tr.valid_arg (hl y (List.mem_cons_of_mem _ (List.mem_cons_self ..))))
  | 20, _, _, [], h, _, hn => by cases h; exact absurd hn (by simp)
  | 20, _, _, [_], h, _, hn => by cases h; exact absurd hn (by simp)
  | 20, _, _, _ :: _ :: _ :: _, h, _, hn => by cases h; simp at hn
  | 21, _, _, [x, y], h, hl, _ => by cases h; exact p_rGd21 (Tr.valid_arg (hl x (List.mem_cons_self ..))) (Tr.valid_arg (hl y (List.mem_cons_of_mem _ (List.mem_cons_self ..))))
  | 21, _, _, [], h, _, hn => by cases h; exact absurd hn (by simp)
  | 21, _, _, [_], h, _, hn => by cases h; exact absurd hn (by simp)
  | 21, _, _, _ :: _ :: _ :: _, h, _, hn => by cases h; simp at hn
  | 22, _, _, [x], h, hl, _ => by cases h; exact p_rGd22 (Tr.valid_arg (hl x (List.mem_cons_self ..)))
  | 22, _, _, [], h, _, hn => by cases h; exact absurd hn (by simp)
  | 22, _, _, _ :: _ :: _, h, _, hn => by cases h; simp at hn
  | 23, _, _, [x, y], h, hl, _ => by cases h; exact p_rGd23 (Tr.valid_arg (hl x (List.mem_cons_self ..))) (Tr.valid_arg (hl y (List.mem_cons_of_mem _ (List.mem_cons_self ..))))
  | 23, _, _, [], h, _, hn => by cases h; exact absurd hn (by simp)
  | 23, _, _, [_], h, _, hn => by cases h; exact absurd hn (by simp)
  | 23, _, _, _ :: _ :: _ :: _, h, _, hn => by cases h; simp at hn
  | 24, _, _, [x], h, hl, _ => by cases h; exact p_rGd24 (Tr.valid_arg (hl x (List.mem_cons_self ..)))
  | 24, _, _, [], h, _, hn => by cases h; exact absurd hn (by simp)
  | 24, _, _, _ :: _ :: _, h, _, hn => by cases h; simp at hn
  | _ + 25, _, _, _, h, _, _ => by cases h
/-- what Guard answers for any symbol and any row of valid trees -/
theorem p_gd (p s : List UInt8) {l : List Tr} (hl : ∀ t ∈ l, t.valid = true) : ∃ b : Bool, Puk 24 [syA p s, rowA l] (boA b) ∧ Puk 25 [syA p s, rowA l] (boA b) := by
  by_cases hp : p = lispB
  · subst hp
    by_cases hs : ∀ x ∈ primL, s ≠ x.1
    · exact ⟨false, p_oGdF (p_oArU hs), p_rGdF (p_rArU hs)⟩
    · obtain ⟨x, hx, hsx⟩ : ∃ x ∈ primL, s = x.1 := by
        simp only [ne_eq, Classical.not_forall, Classical.not_not] at hs
        obtain ⟨x, hx, h⟩ := hs
        exact ⟨x, hx, h⟩
      obtain ⟨i, hi⟩ := List.mem_iff_getElem?.1 hx
      obtain ⟨s', a⟩ := x
      cases hsx
      by_cases hn : l.length = a
      · exact ⟨_, p_oGd hi hl hn, p_rGd hi hl hn⟩
      · exact ⟨false, p_oGdC (p_oAri hi) (by omega), p_rGdC (p_rAri hi) (by omega)⟩
  · exact ⟨false, p_oGdF (p_oArP hp), p_rGdF (p_rArP hp)⟩
end Go.Proofs.YtmkcnjfhdfanoaaGreatDoor
