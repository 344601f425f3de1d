/- lispproverlaw2.ObjectField, its arguments in the card's order. -/
import Derived.Test.YtcdgckbdplkdbaaDoorObjField
namespace Go.Proofs.YtcdgckbdplkdbaaDoor
open Go.RowKit

theorem field_card (w : World) (ht : Tab w) (a : List UInt8) (la : a.length ≤ 9223372036854775807) (b : List UInt8) (lb : b.length ≤ 9223372036854775807) (c : List UInt8) (lc : c.length ≤ 9223372036854775807) (d : List UInt8) (ld : d.length ≤ 9223372036854775807) (e : List UInt8) (le : e.length ≤ 9223372036854775807) (f : List UInt8) (lf : f.length ≤ 9223372036854775807) :
    Calls Tryd.prog 3 #[.string ⟨a.toArray⟩, .string ⟨b.toArray⟩, .string ⟨c.toArray⟩, .string ⟨d.toArray⟩, .string ⟨e.toArray⟩, .string ⟨f.toArray⟩] w (RetTrue2 w) :=
  field_any a b c d e f w ht la lb lc ld le lf
end Go.Proofs.YtcdgckbdplkdbaaDoor
