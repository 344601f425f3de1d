/- Plain functions on objects: nodes, equality, the order. -/
import Derived.Test.YtcdgckbdplkdbaaDoorOb
namespace Go.Proofs.YtcdgckbdplkdbaaDoor
open Go.RowKit

namespace Ob
mutual
/-- the nodes: a cons has a car and a cdr; whatever else has one node -/
def nodes : Ob → Nat
  | ⟨_, _, _, _, _, _, l⟩ => if l.length = 2 then nodesL l + 1 else 1
def nodesL : List Ob → Nat
  | [] => 0
  | o :: r => nodes o + nodesL r
end
theorem nodes_two {o a d : Ob} (h : o.pair = [a, d]) : o.nodes = a.nodes + d.nodes + 1 := by
  obtain ⟨k, n, e, p, s, t, l⟩ := o
  simp only at h
  subst h
  simp only [nodes, nodesL, List.length_cons, List.length_nil, if_true]
  omega
theorem nodes_one {o : Ob} (h : o.pair.length ≠ 2) : o.nodes = 1 := by
  obtain ⟨k, n, e, p, s, t, l⟩ := o
  rw [nodes, if_neg h]
theorem nodes_pos (o : Ob) : 1 ≤ o.nodes := by
  by_cases h : o.pair.length = 2
  · obtain ⟨k, n, e, p, s, t, l⟩ := o
    rw [nodes, if_pos h]; omega
  · rw [nodes_one h]; omega
theorem two_of_length {l : List Ob} (h : l.length = 2) : ∃ a d, l = [a, d] := by
  match l, h with
  | [a, d], _ => exact ⟨a, d, rfl⟩
end Ob
end Go.Proofs.YtcdgckbdplkdbaaDoor
