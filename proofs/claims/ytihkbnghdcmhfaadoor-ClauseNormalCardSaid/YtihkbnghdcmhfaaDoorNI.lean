/- The reference's normalizer: 'term', walked. -/
import Derived.Test.YtihkbnghdcmhfaaDoorNH
import Derived.Test.YtihkbnghdcmhfaaDoorNB
import Derived.Lib.SliceRun
namespace Go.Proofs.YtihkbnghdcmhfaaDoor
open Go.RowKit
open Te

theorem slc_all (qs : List Te) (hl : qs.length ≤ 9223372036854775807) : SlcOK (List.map Te.enc qs) 11 ((none : Option Int).getD 0) ((some (qs.length : Int)).getD ((List.map Te.enc qs).length : Int)) (List.map Te.enc qs) :=
  ⟨Int.le_refl _, by show (0 : Int) ≤ (qs.length : Int); omega, by show (qs.length : Int) ≤ _; rw [List.length_map]; omega, by
      show _ = List.drop 0 (List.take ((qs.length : Int)).toNat _)
      rw [Int.toNat_natCast, List.drop_zero, List.take_of_length_le (by rw [List.length_map]; omega)], .inl rfl⟩
theorem w_t1 {t : Te} {qs : List Te} {cs : List (List Dt)} {left : Int} {bad : Bool} (hx0 : -100000 ≤ left) (hx1 : left ≤ 100000) (hx : left ≤ 0) : Suk 24 [.ptr 0 0, teA t, tesA qs] (rbN cs left bad) (.tup []) (rbN cs (left - 1) true) :=
  psw (n := 2) (ks := [0, 1]) (an := [.av (inA (left - 1)), yT]) (ls := []) (ps := [Bn .sub 3 (.tmp 17) (.const (vi 1)) (vi left) (vi 1) (vi (left - 1)), Bn .lss 3 (.tmp 24) (.const (vi 0)) (vi (left - 1)) (vi 0) bT]) Tryd.func24 (by kernel_rfl) (by kernel_rfl) ⟨bin_isub rfl (by omega) (by omega), bin_ilt (decide_eq_true (by omega)), trivial⟩
theorem w_t2 {t : Te} {qs : List Te} {cs : List (List Dt)} {left : Int} (hx0 : -100000 ≤ left) (hx1 : left ≤ 100000) (hx : 0 < left)  : Suk 24 [.ptr 0 0, teA t, tesA qs] (rbN cs left true) (.tup []) (rbN cs (left - 1) true) :=
  psw (n := 2) (ks := [0, 1]) (an := [.av (inA (left - 1)), yF]) (ls := []) (ps := [Bn .sub 3 (.tmp 17) (.const (vi 1)) (vi left) (vi 1) (vi (left - 1)), Bn .lss 3 (.tmp 24) (.const (vi 0)) (vi (left - 1)) (vi 0) bF]) Tryd.func24 (by kernel_rfl) (by kernel_rfl) ⟨bin_isub rfl (by omega) (by omega), bin_ilt (decide_eq_false (by omega)), trivial⟩
theorem w_t3 {t : Te} {qs : List Te} {cs : List (List Dt)} {left : Int} {cs' : List (List Dt)} {left' : Int} {bad' : Bool} (hx0 : -100000 ≤ left) (hx1 : left ≤ 100000) (hx : 0 < left) (hw : t.val.Wf) (hk : t.kind = 2) (hn : t.val = nilO) (hc : Suk 47 [.ptr 0 0, tesA qs, tesA []] (rbN cs (left - 1) false) (.tup []) (rbN cs' left' bad'))  : Suk 24 [.ptr 0 0, teA t, tesA qs] (rbN cs left false) (.tup []) (rbN cs' left' bad') :=
  psw (n := 2) (ks := [0, 1]) (an := [.av (inA (left - 1)), yF, yT, yT]) (ls := [.scl 7 2 [0, 1] (.tup []) [some (.cells [.own 1 cs'.length, inA left', boA bad']), some (.buf 46 1 cs')]]) (ps := [Bn .sub 3 (.tmp 17) (.const (vi 1)) (vi left) (vi 1) (vi (left - 1)), Bn .lss 3 (.tmp 24) (.const (vi 0)) (vi (left - 1)) (vi 0) bF, Bn .eql 3 (.tmp 34) (.const (vi 2)) (vi t.kind) (vi 2) bT, Puk 46 [(obA t.val)] (boA true), Suk 47 [AV.ptr 0 0, AV.dt (Dt.row (List.map Te.enc qs)), AV.dt (Dt.row [])] [some (Bx.cells [AV.own 1 cs.length, AV.dt (Dt.val (vi (left - 1))), AV.dt (Dt.val bF)]), some (Bx.buf 46 1 cs)] (AV.tup []) [some (Bx.cells [AV.own 1 cs'.length, inA left', boA bad']), some (Bx.buf 46 1 cs')]]) Tryd.func24 (by kernel_rfl) (by kernel_rfl) ⟨bin_isub rfl (by omega) (by omega), bin_ilt (decide_eq_false (by omega)), bin_ieq (by simp [hk]), (p_rIsNil hw).b (yesD hn), hc, trivial⟩
theorem w_t4 {t : Te} {qs : List Te} {cs : List (List Dt)} {left : Int} (hx0 : -100000 ≤ left) (hx1 : left ≤ 100000) (hx : 0 < left) (hw : t.val.Wf) (hk : t.kind = 2) (hn : t.val ≠ nilO) : Suk 24 [.ptr 0 0, teA t, tesA qs] (rbN cs left false) (.tup []) (rbN cs (left - 1) false) :=
  psw (n := 2) (ks := [0, 1]) (an := [.av (inA (left - 1)), yF, yT, yF]) (ls := []) (ps := [Bn .sub 3 (.tmp 17) (.const (vi 1)) (vi left) (vi 1) (vi (left - 1)), Bn .lss 3 (.tmp 24) (.const (vi 0)) (vi (left - 1)) (vi 0) bF, Bn .eql 3 (.tmp 34) (.const (vi 2)) (vi t.kind) (vi 2) bT, Puk 46 [(obA t.val)] (boA false)]) Tryd.func24 (by kernel_rfl) (by kernel_rfl) ⟨bin_isub rfl (by omega) (by omega), bin_ilt (decide_eq_false (by omega)), bin_ieq (by simp [hk]), (p_rIsNil hw).b (noD hn), trivial⟩
theorem w_t5 {t : Te} {qs : List Te} {cs : List (List Dt)} {left : Int} {cs' : List (List Dt)} {left' : Int} {bad' : Bool} {a : Te} (hx0 : -100000 ≤ left) (hx1 : left ≤ 100000) (hx : 0 < left) (hk : t.kind ≠ 2) (hn : opened t = some a) (hc : Suk 24 [.ptr 0 0, teA a, tesA qs] (rbN cs (left - 1) false) (.tup []) (rbN cs' left' bad'))  : Suk 24 [.ptr 0 0, teA t, tesA qs] (rbN cs left false) (.tup []) (rbN cs' left' bad') :=
  psw (n := 2) (ks := [0, 1]) (an := [.av (inA (left - 1)), yF, yF, .av (.tup [teA a, boA true])]) (ls := [.scl 10 3 [0, 1] (.tup []) [some (.cells [.own 1 cs'.length, inA left', boA bad']), some (.buf 46 1 cs')]]) (ps := [Bn .sub 3 (.tmp 17) (.const (vi 1)) (vi left) (vi 1) (vi (left - 1)), Bn .lss 3 (.tmp 24) (.const (vi 0)) (vi (left - 1)) (vi 0) bF, Bn .eql 3 (.tmp 34) (.const (vi 2)) (vi t.kind) (vi 2) bF, Puk 48 [(teA t)] (.tup [(teA a), (boA true)]), Suk 24 [AV.ptr 0 0, teA a, AV.dt (Dt.row (List.map Te.enc qs))] [some (Bx.cells [AV.own 1 cs.length, AV.dt (Dt.val (vi (left - 1))), AV.dt (Dt.val bF)]), some (Bx.buf 46 1 cs)] (AV.tup []) [some (Bx.cells [AV.own 1 cs'.length, inA left', boA bad']), some (Bx.buf 46 1 cs')]]) Tryd.func24 (by kernel_rfl) (by kernel_rfl) ⟨bin_isub rfl (by omega) (by omega), bin_ilt (decide_eq_false (by omega)), bin_ieq (by simp [hk]), (p_prop t).val (by rw [hn]), hc, trivial⟩
theorem w_t7 {t : Te} {qs : List Te} {cs : List (List Dt)} {left : Int} (hx0 : -100000 ≤ left) (hx1 : left ≤ 100000) (hx : 0 < left) (hk : t.kind ≠ 2) (hn : opened t = none) (hi : ¬ is t ifB 3) (hl : qs.length ≤ 9223372036854775807) (hq : ∀ q ∈ qs, q.Wf) (hm : t ∈ qs) : Suk 24 [.ptr 0 0, teA t, tesA qs] (rbN cs left false) (.tup []) (rbN cs (left - 1) false) :=
  psw (n := 2) (ks := [0, 1]) (an := [.av (inA (left - 1)), yF, yF, .av (.tup [teA t, boA false]), yF, yT]) (ls := []) (ps := [Bn .sub 3 (.tmp 17) (.const (vi 1)) (vi left) (vi 1) (vi (left - 1)), Bn .lss 3 (.tmp 24) (.const (vi 0)) (vi (left - 1)) (vi 0) bF, Bn .eql 3 (.tmp 34) (.const (vi 2)) (vi t.kind) (vi 2) bF, Puk 48 [(teA t)] (.tup [(teA t), (boA false)]), Puk 49 [(teA t), (stA [105, 102]), (inA 3)] (boA false), Puk 50 [(.dt (.row (List.map Te.enc qs))), (teA t)] (boA true)]) Tryd.func24 (by kernel_rfl) (by kernel_rfl) ⟨bin_isub rfl (by omega) (by omega), bin_ilt (decide_eq_false (by omega)), bin_ieq (by simp [hk]), (p_prop t).val (by rw [hn]), (p_rIs t ifB 3).b (noD hi), (p_rcont hl hq t).b (yesD hm), trivial⟩
theorem w_t8 {t : Te} {qs : List Te} {cs : List (List Dt)} {left : Int} {cs' : List (List Dt)} {left' : Int} {bad' : Bool} (hx0 : -100000 ≤ left) (hx1 : left ≤ 100000) (hx : 0 < left) (hk : t.kind ≠ 2) (hn : opened t = none) (hi : ¬ is t ifB 3) (hl : qs.length ≤ 9223372036854775807) (hq : ∀ q ∈ qs, q.Wf) (hm : t ∉ qs) (hm2 : ap notB [t] ∈ qs) (hc : Suk 47 [.ptr 0 0, tesA qs, tesA []] (rbN cs (left - 1) false) (.tup []) (rbN cs' left' bad'))  : Suk 24 [.ptr 0 0, teA t, tesA qs] (rbN cs left false) (.tup []) (rbN cs' left' bad') :=
  psw (n := 2) (ks := [0, 1]) (an := [.av (inA (left - 1)), yF, yF, .av (.tup [teA t, boA false]), yF, yF, .av (teA (ap notB [t])), yT]) (ls := [.scl 15 2 [0, 1] (.tup []) [some (.cells [.own 1 cs'.length, inA left', boA bad']), some (.buf 46 1 cs')]]) (ps := [Bn .sub 3 (.tmp 17) (.const (vi 1)) (vi left) (vi 1) (vi (left - 1)), Bn .lss 3 (.tmp 24) (.const (vi 0)) (vi (left - 1)) (vi 0) bF, Bn .eql 3 (.tmp 34) (.const (vi 2)) (vi t.kind) (vi 2) bF, Puk 48 [(teA t)] (.tup [(teA t), (boA false)]), Puk 49 [(teA t), (stA [105, 102]), (inA 3)] (boA false), Puk 50 [(.dt (.row (List.map Te.enc qs))), (teA t)] (boA false), Puk 12 [(stA [110, 111, 116]), (.dt (.row [encT t]))] (teA (ap notB [t])), Puk 50 [(.dt (.row (List.map Te.enc qs))), (teA (ap notB [t]))] (boA true), Suk 47 [AV.ptr 0 0, AV.dt (Dt.row (List.map Te.enc qs)), AV.dt (Dt.row [])] [some (Bx.cells [AV.own 1 cs.length, AV.dt (Dt.val (vi (left - 1))), AV.dt (Dt.val bF)]), some (Bx.buf 46 1 cs)] (AV.tup []) [some (Bx.cells [AV.own 1 cs'.length, inA left', boA bad']), some (Bx.buf 46 1 cs')]]) Tryd.func24 (by kernel_rfl) (by kernel_rfl) ⟨bin_isub rfl (by omega) (by omega), bin_ilt (decide_eq_false (by omega)), bin_ieq (by simp [hk]), (p_prop t).val (by rw [hn]), (p_rIs t ifB 3).b (noD hi), (p_rcont hl hq t).b (noD hm), p_rLisp1 notB t, (p_rcont hl hq (ap notB [t])).b (yesD hm2), hc, trivial⟩
theorem w_t9 {t : Te} {qs : List Te} {cs : List (List Dt)} {left : Int} {cs' : List (List Dt)} {left' : Int} {bad' : Bool} (hx0 : -100000 ≤ left) (hx1 : left ≤ 100000) (hx : 0 < left) (hk : t.kind ≠ 2) (hn : opened t = none) (hi : ¬ is t ifB 3) (hl : qs.length ≤ 9223372036854775807) (hq : ∀ q ∈ qs, q.Wf) (hm : t ∉ qs) (hm2 : ap notB [t] ∉ qs) (hc : Suk 47 [.ptr 0 0, tesA qs, tesA [t]] (rbN cs (left - 1) false) (.tup []) (rbN cs' left' bad'))  : Suk 24 [.ptr 0 0, teA t, tesA qs] (rbN cs left false) (.tup []) (rbN cs' left' bad') :=
  psw (n := 2) (ks := [0, 1]) (an := [.av (inA (left - 1)), yF, yF, .av (.tup [teA t, boA false]), yF, yF, .av (teA (ap notB [t])), yF]) (ls := [.scl 12 4 [0, 1] (.tup []) [some (.cells [.own 1 cs'.length, inA left', boA bad']), some (.buf 46 1 cs')]]) (ps := [Bn .sub 3 (.tmp 17) (.const (vi 1)) (vi left) (vi 1) (vi (left - 1)), Bn .lss 3 (.tmp 24) (.const (vi 0)) (vi (left - 1)) (vi 0) bF, Bn .eql 3 (.tmp 34) (.const (vi 2)) (vi t.kind) (vi 2) bF, Puk 48 [(teA t)] (.tup [(teA t), (boA false)]), Puk 49 [(teA t), (stA [105, 102]), (inA 3)] (boA false), Puk 50 [(.dt (.row (List.map Te.enc qs))), (teA t)] (boA false), Puk 12 [(stA [110, 111, 116]), (.dt (.row [encT t]))] (teA (ap notB [t])), Puk 50 [(.dt (.row (List.map Te.enc qs))), (teA (ap notB [t]))] (boA false), Suk 47 [AV.ptr 0 0, AV.dt (Dt.row (List.map Te.enc qs)), AV.dt (Dt.row ([encT t]))] [some (Bx.cells [AV.own 1 cs.length, AV.dt (Dt.val (vi (left - 1))), AV.dt (Dt.val bF)]), some (Bx.buf 46 1 cs)] (AV.tup []) [some (Bx.cells [AV.own 1 cs'.length, inA left', boA bad']), some (Bx.buf 46 1 cs')]]) Tryd.func24 (by kernel_rfl) (by kernel_rfl) ⟨bin_isub rfl (by omega) (by omega), bin_ilt (decide_eq_false (by omega)), bin_ieq (by simp [hk]), (p_prop t).val (by rw [hn]), (p_rIs t ifB 3).b (noD hi), (p_rcont hl hq t).b (noD hm), p_rLisp1 notB t, (p_rcont hl hq (ap notB [t])).b (noD hm2), ex_fail hc, trivial⟩
theorem w_d1 {t : Te} {qs : List Te} {cs : List (List Dt)} {left : Int} {cs' : List (List Dt)} {left' : Int} {bad' : Bool} {a d e : Te} (hx0 : -100000 ≤ left) (hx1 : left ≤ 100000) (hx : 0 < left) (hk : t.kind ≠ 2) (hn : opened t = none) (hif : is t ifB 3) (ha0 : t.args[0]? = some a) (ha1 : t.args[1]? = some d) (ha2 : t.args[2]? = some e) (hwa : a.val.Wf) (hk2 : a.kind = 2) (hn2 : a.val = nilO) (hc : Suk 24 [.ptr 0 0, teA e, tesA qs] (rbN cs (left - 1) false) (.tup []) (rbN cs' left' bad'))  : Suk 24 [.ptr 0 0, teA t, tesA qs] (rbN cs left false) (.tup []) (rbN cs' left' bad') :=
  psw (n := 2) (ks := [0, 1]) (an := [.av (inA (left - 1)), yF, yF, .av (.tup [teA t, boA false]), yT, .av (.pin ((encT a).map .dt)), .av (.pin ((encT d).map .dt)), .av (.pin ((encT e).map .dt)), .av (inA qs.length), yT, yT]) (ls := [.scl 21 3 [0, 1] (.tup []) [some (.cells [.own 1 cs'.length, inA left', boA bad']), some (.buf 46 1 cs')]]) (ps := [Bn .sub 3 (.tmp 17) (.const (vi 1)) (vi left) (vi 1) (vi (left - 1)), Bn .lss 3 (.tmp 24) (.const (vi 0)) (vi (left - 1)) (vi 0) bF, Bn .eql 3 (.tmp 34) (.const (vi 2)) (vi t.kind) (vi 2) bF, Puk 48 [(teA t)] (.tup [(teA t), (boA false)]), Puk 49 [(teA t), (stA [105, 102]), (inA 3)] (boA true), IxAt (List.map Te.enc t.args) 0 11 (encT a), IxAt (List.map Te.enc t.args) 1 11 (encT d), IxAt (List.map Te.enc t.args) 2 11 (encT e), (vi ↑qs.length) = (vi (↑(List.map Te.enc qs).length)), Bn .eql 3 (.tmp 111) (.const (vi 2)) (vi a.kind) (vi 2) bT, Puk 46 [(obA a.val)] (boA true), Suk 24 [AV.ptr 0 0, teA e, AV.dt (Dt.row (List.map Te.enc qs))] [some (Bx.cells [AV.own 1 cs.length, AV.dt (Dt.val (vi (left - 1))), AV.dt (Dt.val bF)]), some (Bx.buf 46 1 cs)] (AV.tup []) [some (Bx.cells [AV.own 1 cs'.length, inA left', boA bad']), some (Bx.buf 46 1 cs')]]) Tryd.func24 (by kernel_rfl) (by kernel_rfl) ⟨bin_isub rfl (by omega) (by omega), bin_ilt (decide_eq_false (by omega)), bin_ieq (by simp [hk]), (p_prop t).val (by rw [hn]), (p_rIs t ifB 3).b (yesD hif), ix_te ha0, ix_te ha1, ix_te ha2, lenEncT _, bin_ieq (by simp [hk2]), (p_rIsNil hwa).b (yesD hn2), hc, trivial⟩
theorem w_d2 {t : Te} {qs : List Te} {cs : List (List Dt)} {left : Int} {cs' : List (List Dt)} {left' : Int} {bad' : Bool} {a d e : Te} (hx0 : -100000 ≤ left) (hx1 : left ≤ 100000) (hx : 0 < left) (hk : t.kind ≠ 2) (hn : opened t = none) (hif : is t ifB 3) (ha0 : t.args[0]? = some a) (ha1 : t.args[1]? = some d) (ha2 : t.args[2]? = some e) (hwa : a.val.Wf) (hk2 : a.kind = 2) (hn2 : a.val ≠ nilO) (hc : Suk 24 [.ptr 0 0, teA d, tesA qs] (rbN cs (left - 1) false) (.tup []) (rbN cs' left' bad'))  : Suk 24 [.ptr 0 0, teA t, tesA qs] (rbN cs left false) (.tup []) (rbN cs' left' bad') :=
  psw (n := 2) (ks := [0, 1]) (an := [.av (inA (left - 1)), yF, yF, .av (.tup [teA t, boA false]), yT, .av (.pin ((encT a).map .dt)), .av (.pin ((encT d).map .dt)), .av (.pin ((encT e).map .dt)), .av (inA qs.length), yT, yF, yT]) (ls := [.scl 23 3 [0, 1] (.tup []) [some (.cells [.own 1 cs'.length, inA left', boA bad']), some (.buf 46 1 cs')]]) (ps := [Bn .sub 3 (.tmp 17) (.const (vi 1)) (vi left) (vi 1) (vi (left - 1)), Bn .lss 3 (.tmp 24) (.const (vi 0)) (vi (left - 1)) (vi 0) bF, Bn .eql 3 (.tmp 34) (.const (vi 2)) (vi t.kind) (vi 2) bF, Puk 48 [(teA t)] (.tup [(teA t), (boA false)]), Puk 49 [(teA t), (stA [105, 102]), (inA 3)] (boA true), IxAt (List.map Te.enc t.args) 0 11 (encT a), IxAt (List.map Te.enc t.args) 1 11 (encT d), IxAt (List.map Te.enc t.args) 2 11 (encT e), (vi ↑qs.length) = (vi (↑(List.map Te.enc qs).length)), Bn .eql 3 (.tmp 111) (.const (vi 2)) (vi a.kind) (vi 2) bT, Puk 46 [(obA a.val)] (boA false), Bn .eql 3 (.tmp 124) (.const (vi 2)) (vi a.kind) (vi 2) bT, Suk 24 [AV.ptr 0 0, teA d, AV.dt (Dt.row (List.map Te.enc qs))] [some (Bx.cells [AV.own 1 cs.length, AV.dt (Dt.val (vi (left - 1))), AV.dt (Dt.val bF)]), some (Bx.buf 46 1 cs)] (AV.tup []) [some (Bx.cells [AV.own 1 cs'.length, inA left', boA bad']), some (Bx.buf 46 1 cs')]]) Tryd.func24 (by kernel_rfl) (by kernel_rfl) ⟨bin_isub rfl (by omega) (by omega), bin_ilt (decide_eq_false (by omega)), bin_ieq (by simp [hk]), (p_prop t).val (by rw [hn]), (p_rIs t ifB 3).b (yesD hif), ix_te ha0, ix_te ha1, ix_te ha2, lenEncT _, bin_ieq (by simp [hk2]), (p_rIsNil hwa).b (noD hn2), bin_ieq (by simp [hk2]), hc, trivial⟩
theorem w_d3 {t : Te} {qs : List Te} {cs : List (List Dt)} {left : Int} {cs' : List (List Dt)} {left' : Int} {bad' : Bool} {a d e : Te} {a0 : Te} (hx0 : -100000 ≤ left) (hx1 : left ≤ 100000) (hx : 0 < left) (hk : t.kind ≠ 2) (hn : opened t = none) (hif : is t ifB 3) (ha0 : t.args[0]? = some a) (ha1 : t.args[1]? = some d) (ha2 : t.args[2]? = some e) (hk2 : a.kind ≠ 2) (hi : is a notB 1) (h0 : a.args[0]? = some a0) (hc : Suk 24 [.ptr 0 0, teA (ap ifB [a0, e, d]), tesA qs] (rbN cs (left - 1) false) (.tup []) (rbN cs' left' bad'))  : Suk 24 [.ptr 0 0, teA t, tesA qs] (rbN cs left false) (.tup []) (rbN cs' left' bad') :=
  psw (n := 2) (ks := [0, 1]) (an := [.av (inA (left - 1)), yF, yF, .av (.tup [teA t, boA false]), yT, .av (.pin ((encT a).map .dt)), .av (.pin ((encT d).map .dt)), .av (.pin ((encT e).map .dt)), .av (inA qs.length), yF, yF, yT, .av (.pin ((encT a0).map .dt)), .av (teA (ap ifB [a0, e, d]))]) (ls := [.scl 25 10 [0, 1] (.tup []) [some (.cells [.own 1 cs'.length, inA left', boA bad']), some (.buf 46 1 cs')]]) (ps := [Bn .sub 3 (.tmp 17) (.const (vi 1)) (vi left) (vi 1) (vi (left - 1)), Bn .lss 3 (.tmp 24) (.const (vi 0)) (vi (left - 1)) (vi 0) bF, Bn .eql 3 (.tmp 34) (.const (vi 2)) (vi t.kind) (vi 2) bF, Puk 48 [(teA t)] (.tup [(teA t), (boA false)]), Puk 49 [(teA t), (stA [105, 102]), (inA 3)] (boA true), IxAt (List.map Te.enc t.args) 0 11 (encT a), IxAt (List.map Te.enc t.args) 1 11 (encT d), IxAt (List.map Te.enc t.args) 2 11 (encT e), (vi ↑qs.length) = (vi (↑(List.map Te.enc qs).length)), Bn .eql 3 (.tmp 111) (.const (vi 2)) (vi a.kind) (vi 2) bF, Bn .eql 3 (.tmp 124) (.const (vi 2)) (vi a.kind) (vi 2) bF, Puk 49 [(teA a), (stA [110, 111, 116]), (inA 1)] (boA true), IxAt (List.map Te.enc a.args) 0 11 (encT a0), Puk 12 [(stA [105, 102]), (.dt (.row [encT a0, encT e, encT d]))] (teA (ap ifB [a0, e, d])), Suk 24 [AV.ptr 0 0, teA (ap ifB [a0, e, d]), AV.dt (Dt.row (List.map Te.enc qs))] [some (Bx.cells [AV.own 1 cs.length, AV.dt (Dt.val (vi (left - 1))), AV.dt (Dt.val bF)]), some (Bx.buf 46 1 cs)] (AV.tup []) [some (Bx.cells [AV.own 1 cs'.length, inA left', boA bad']), some (Bx.buf 46 1 cs')]]) Tryd.func24 (by kernel_rfl) (by kernel_rfl) ⟨bin_isub rfl (by omega) (by omega), bin_ilt (decide_eq_false (by omega)), bin_ieq (by simp [hk]), (p_prop t).val (by rw [hn]), (p_rIs t ifB 3).b (yesD hif), ix_te ha0, ix_te ha1, ix_te ha2, lenEncT _, bin_ieq (by simp [hk2]), bin_ieq (by simp [hk2]), (p_rIs a notB 1).b (yesD hi), ix_te h0, p_rLisp3 ifB a0 e d, hc, trivial⟩
theorem w_d5 {t : Te} {qs : List Te} {cs : List (List Dt)} {left : Int} {cs' : List (List Dt)} {left' : Int} {bad' : Bool} {a d e : Te} {b : Te} (hx0 : -100000 ≤ left) (hx1 : left ≤ 100000) (hx : 0 < left) (hk : t.kind ≠ 2) (hn : opened t = none) (hif : is t ifB 3) (ha0 : t.args[0]? = some a) (ha1 : t.args[1]? = some d) (ha2 : t.args[2]? = some e) (hk2 : a.kind ≠ 2) (hi : ¬ is a notB 1) (hj : is a impB 2) (hb : opened a = some b) (hc : Suk 24 [.ptr 0 0, teA (ap ifB [b, d, e]), tesA qs] (rbN cs (left - 1) false) (.tup []) (rbN cs' left' bad'))  : Suk 24 [.ptr 0 0, teA t, tesA qs] (rbN cs left false) (.tup []) (rbN cs' left' bad') :=
  psw (n := 2) (ks := [0, 1]) (an := [.av (inA (left - 1)), yF, yF, .av (.tup [teA t, boA false]), yT, .av (.pin ((encT a).map .dt)), .av (.pin ((encT d).map .dt)), .av (.pin ((encT e).map .dt)), .av (inA qs.length), yF, yF, yF, yT, .av (.tup [teA b, boA true]), .av (teA (ap ifB [b, d, e]))]) (ls := [.scl 29 7 [0, 1] (.tup []) [some (.cells [.own 1 cs'.length, inA left', boA bad']), some (.buf 46 1 cs')]]) (ps := [Bn .sub 3 (.tmp 17) (.const (vi 1)) (vi left) (vi 1) (vi (left - 1)), Bn .lss 3 (.tmp 24) (.const (vi 0)) (vi (left - 1)) (vi 0) bF, Bn .eql 3 (.tmp 34) (.const (vi 2)) (vi t.kind) (vi 2) bF, Puk 48 [(teA t)] (.tup [(teA t), (boA false)]), Puk 49 [(teA t), (stA [105, 102]), (inA 3)] (boA true), IxAt (List.map Te.enc t.args) 0 11 (encT a), IxAt (List.map Te.enc t.args) 1 11 (encT d), IxAt (List.map Te.enc t.args) 2 11 (encT e), (vi ↑qs.length) = (vi (↑(List.map Te.enc qs).length)), Bn .eql 3 (.tmp 111) (.const (vi 2)) (vi a.kind) (vi 2) bF, Bn .eql 3 (.tmp 124) (.const (vi 2)) (vi a.kind) (vi 2) bF, Puk 49 [(teA a), (stA [110, 111, 116]), (inA 1)] (boA false), Puk 49 [(teA a), (stA [105, 109, 112, 108, 105, 101, 115]), (inA 2)] (boA true), Puk 48 [(teA a)] (.tup [(teA b), (boA true)]), Puk 12 [(stA [105, 102]), (.dt (.row [encT b, encT d, encT e]))] (teA (ap ifB [b, d, e])), Suk 24 [AV.ptr 0 0, teA (ap ifB [b, d, e]), AV.dt (Dt.row (List.map Te.enc qs))] [some (Bx.cells [AV.own 1 cs.length, AV.dt (Dt.val (vi (left - 1))), AV.dt (Dt.val bF)]), some (Bx.buf 46 1 cs)] (AV.tup []) [some (Bx.cells [AV.own 1 cs'.length, inA left', boA bad']), some (Bx.buf 46 1 cs')]]) Tryd.func24 (by kernel_rfl) (by kernel_rfl) ⟨bin_isub rfl (by omega) (by omega), bin_ilt (decide_eq_false (by omega)), bin_ieq (by simp [hk]), (p_prop t).val (by rw [hn]), (p_rIs t ifB 3).b (yesD hif), ix_te ha0, ix_te ha1, ix_te ha2, lenEncT _, bin_ieq (by simp [hk2]), bin_ieq (by simp [hk2]), (p_rIs a notB 1).b (noD hi), (p_rIs a impB 2).b (yesD hj), (p_prop a).val (by rw [hb]), p_rLisp3 ifB b d e, hc, trivial⟩
theorem w_d5b {t : Te} {qs : List Te} {cs : List (List Dt)} {left : Int} {cs' : List (List Dt)} {left' : Int} {bad' : Bool} {a d e : Te} {b : Te} (hx0 : -100000 ≤ left) (hx1 : left ≤ 100000) (hx : 0 < left) (hk : t.kind ≠ 2) (hn : opened t = none) (hif : is t ifB 3) (ha0 : t.args[0]? = some a) (ha1 : t.args[1]? = some d) (ha2 : t.args[2]? = some e) (hk2 : a.kind ≠ 2) (hi : ¬ is a notB 1) (hj : ¬ is a impB 2) (hj2 : is a iffB 2) (hb : opened a = some b) (hc : Suk 24 [.ptr 0 0, teA (ap ifB [b, d, e]), tesA qs] (rbN cs (left - 1) false) (.tup []) (rbN cs' left' bad'))  : Suk 24 [.ptr 0 0, teA t, tesA qs] (rbN cs left false) (.tup []) (rbN cs' left' bad') :=
  psw (n := 2) (ks := [0, 1]) (an := [.av (inA (left - 1)), yF, yF, .av (.tup [teA t, boA false]), yT, .av (.pin ((encT a).map .dt)), .av (.pin ((encT d).map .dt)), .av (.pin ((encT e).map .dt)), .av (inA qs.length), yF, yF, yF, yF, yT, .av (.tup [teA b, boA true]), .av (teA (ap ifB [b, d, e]))]) (ls := [.scl 29 7 [0, 1] (.tup []) [some (.cells [.own 1 cs'.length, inA left', boA bad']), some (.buf 46 1 cs')]]) (ps := [Bn .sub 3 (.tmp 17) (.const (vi 1)) (vi left) (vi 1) (vi (left - 1)), Bn .lss 3 (.tmp 24) (.const (vi 0)) (vi (left - 1)) (vi 0) bF, Bn .eql 3 (.tmp 34) (.const (vi 2)) (vi t.kind) (vi 2) bF, Puk 48 [(teA t)] (.tup [(teA t), (boA false)]), Puk 49 [(teA t), (stA [105, 102]), (inA 3)] (boA true), IxAt (List.map Te.enc t.args) 0 11 (encT a), IxAt (List.map Te.enc t.args) 1 11 (encT d), IxAt (List.map Te.enc t.args) 2 11 (encT e), (vi ↑qs.length) = (vi (↑(List.map Te.enc qs).length)), Bn .eql 3 (.tmp 111) (.const (vi 2)) (vi a.kind) (vi 2) bF, Bn .eql 3 (.tmp 124) (.const (vi 2)) (vi a.kind) (vi 2) bF, Puk 49 [(teA a), (stA [110, 111, 116]), (inA 1)] (boA false), Puk 49 [(teA a), (stA [105, 109, 112, 108, 105, 101, 115]), (inA 2)] (boA false), Puk 49 [(teA a), (stA [105, 102, 102]), (inA 2)] (boA true), Puk 48 [(teA a)] (.tup [(teA b), (boA true)]), Puk 12 [(stA [105, 102]), (.dt (.row [encT b, encT d, encT e]))] (teA (ap ifB [b, d, e])), Suk 24 [AV.ptr 0 0, teA (ap ifB [b, d, e]), AV.dt (Dt.row (List.map Te.enc qs))] [some (Bx.cells [AV.own 1 cs.length, AV.dt (Dt.val (vi (left - 1))), AV.dt (Dt.val bF)]), some (Bx.buf 46 1 cs)] (AV.tup []) [some (Bx.cells [AV.own 1 cs'.length, inA left', boA bad']), some (Bx.buf 46 1 cs')]]) Tryd.func24 (by kernel_rfl) (by kernel_rfl) ⟨bin_isub rfl (by omega) (by omega), bin_ilt (decide_eq_false (by omega)), bin_ieq (by simp [hk]), (p_prop t).val (by rw [hn]), (p_rIs t ifB 3).b (yesD hif), ix_te ha0, ix_te ha1, ix_te ha2, lenEncT _, bin_ieq (by simp [hk2]), bin_ieq (by simp [hk2]), (p_rIs a notB 1).b (noD hi), (p_rIs a impB 2).b (noD hj), (p_rIs a iffB 2).b (yesD hj2), (p_prop a).val (by rw [hb]), p_rLisp3 ifB b d e, hc, trivial⟩
theorem w_d4 {t : Te} {qs : List Te} {cs : List (List Dt)} {left : Int} {cs' : List (List Dt)} {left' : Int} {bad' : Bool} {a d e : Te} {a0 a1 a2 : Te} (hx0 : -100000 ≤ left) (hx1 : left ≤ 100000) (hx : 0 < left) (hk : t.kind ≠ 2) (hn : opened t = none) (hif : is t ifB 3) (ha0 : t.args[0]? = some a) (ha1 : t.args[1]? = some d) (ha2 : t.args[2]? = some e) (hk2 : a.kind ≠ 2) (hi : ¬ is a notB 1) (hj : ¬ is a impB 2) (hj2 : ¬ is a iffB 2) (hj3 : is a ifB 3) (h0 : a.args[0]? = some a0) (h1 : a.args[1]? = some a1) (h2 : a.args[2]? = some a2) (hc : Suk 24 [.ptr 0 0, teA (ap ifB [a0, ap ifB [a1, d, e], ap ifB [a2, d, e]]), tesA qs] (rbN cs (left - 1) false) (.tup []) (rbN cs' left' bad'))  : Suk 24 [.ptr 0 0, teA t, tesA qs] (rbN cs left false) (.tup []) (rbN cs' left' bad') :=
  psw (n := 2) (ks := [0, 1]) (an := [.av (inA (left - 1)), yF, yF, .av (.tup [teA t, boA false]), yT, .av (.pin ((encT a).map .dt)), .av (.pin ((encT d).map .dt)), .av (.pin ((encT e).map .dt)), .av (inA qs.length), yF, yF, yF, yF, yF, yT, .av (.pin ((encT a0).map .dt)), .av (.pin ((encT a1).map .dt)), .av (teA (ap ifB [a1, d, e])), .av (.pin ((encT a2).map .dt)), .av (teA (ap ifB [a2, d, e])), .av (teA (ap ifB [a0, ap ifB [a1, d, e], ap ifB [a2, d, e]]))]) (ls := [.scl 31 24 [0, 1] (.tup []) [some (.cells [.own 1 cs'.length, inA left', boA bad']), some (.buf 46 1 cs')]]) (ps := [Bn .sub 3 (.tmp 17) (.const (vi 1)) (vi left) (vi 1) (vi (left - 1)), Bn .lss 3 (.tmp 24) (.const (vi 0)) (vi (left - 1)) (vi 0) bF, Bn .eql 3 (.tmp 34) (.const (vi 2)) (vi t.kind) (vi 2) bF, Puk 48 [(teA t)] (.tup [(teA t), (boA false)]), Puk 49 [(teA t), (stA [105, 102]), (inA 3)] (boA true), IxAt (List.map Te.enc t.args) 0 11 (encT a), IxAt (List.map Te.enc t.args) 1 11 (encT d), IxAt (List.map Te.enc t.args) 2 11 (encT e), (vi ↑qs.length) = (vi (↑(List.map Te.enc qs).length)), Bn .eql 3 (.tmp 111) (.const (vi 2)) (vi a.kind) (vi 2) bF, Bn .eql 3 (.tmp 124) (.const (vi 2)) (vi a.kind) (vi 2) bF, Puk 49 [(teA a), (stA [110, 111, 116]), (inA 1)] (boA false), Puk 49 [(teA a), (stA [105, 109, 112, 108, 105, 101, 115]), (inA 2)] (boA false), Puk 49 [(teA a), (stA [105, 102, 102]), (inA 2)] (boA false), Puk 49 [(teA a), (stA [105, 102]), (inA 3)] (boA true), IxAt (List.map Te.enc a.args) 0 11 (encT a0), IxAt (List.map Te.enc a.args) 1 11 (encT a1), Puk 12 [(stA [105, 102]), (.dt (.row [encT a1, encT d, encT e]))] (teA (ap ifB [a1, d, e])), IxAt (List.map Te.enc a.args) 2 11 (encT a2), Puk 12 [(stA [105, 102]), (.dt (.row [encT a2, encT d, encT e]))] (teA (ap ifB [a2, d, e])), Puk 12 [(stA [105, 102]), (.dt (.row [encT a0, encT (ap ifB [a1, d, e]), encT (ap ifB [a2, d, e])]))] (teA (ap ifB [a0, ap ifB [a1, d, e], ap ifB [a2, d, e]])), Suk 24 [AV.ptr 0 0, teA (ap ifB [a0, ap ifB [a1, d, e], ap ifB [a2, d, e]]), AV.dt (Dt.row (List.map Te.enc qs))] [some (Bx.cells [AV.own 1 cs.length, AV.dt (Dt.val (vi (left - 1))), AV.dt (Dt.val bF)]), some (Bx.buf 46 1 cs)] (AV.tup []) [some (Bx.cells [AV.own 1 cs'.length, inA left', boA bad']), some (Bx.buf 46 1 cs')]]) Tryd.func24 (by kernel_rfl) (by kernel_rfl) ⟨bin_isub rfl (by omega) (by omega), bin_ilt (decide_eq_false (by omega)), bin_ieq (by simp [hk]), (p_prop t).val (by rw [hn]), (p_rIs t ifB 3).b (yesD hif), ix_te ha0, ix_te ha1, ix_te ha2, lenEncT _, bin_ieq (by simp [hk2]), bin_ieq (by simp [hk2]), (p_rIs a notB 1).b (noD hi), (p_rIs a impB 2).b (noD hj), (p_rIs a iffB 2).b (noD hj2), (p_rIs a ifB 3).b (yesD hj3), ix_te h0, ix_te h1, p_rLisp3 ifB a1 d e, ix_te h2, p_rLisp3 ifB a2 d e, p_rLisp3 ifB a0 (ap ifB [a1, d, e]) (ap ifB [a2, d, e]), hc, trivial⟩
theorem w_d6 {t : Te} {qs : List Te} {cs : List (List Dt)} {left : Int} {cs' : List (List Dt)} {left' : Int} {bad' : Bool} {a d e : Te} (hx0 : -100000 ≤ left) (hx1 : left ≤ 100000) (hx : 0 < left) (hk : t.kind ≠ 2) (hn : opened t = none) (hif : is t ifB 3) (ha0 : t.args[0]? = some a) (ha1 : t.args[1]? = some d) (ha2 : t.args[2]? = some e) (hk2 : a.kind ≠ 2) (hi : ¬ is a notB 1) (hj : ¬ is a impB 2) (hj2 : ¬ is a iffB 2) (hj3 : ¬ is a ifB 3) (hl : qs.length ≤ 100000) (hq : ∀ q ∈ qs, q.Wf) (hm : a ∈ qs) (hc : Suk 24 [.ptr 0 0, teA d, tesA qs] (rbN cs (left - 1) false) (.tup []) (rbN cs' left' bad'))  : Suk 24 [.ptr 0 0, teA t, tesA qs] (rbN cs left false) (.tup []) (rbN cs' left' bad') :=
  psw (n := 2) (ks := [0, 1]) (an := [.av (inA (left - 1)), yF, yF, .av (.tup [teA t, boA false]), yT, .av (.pin ((encT a).map .dt)), .av (.pin ((encT d).map .dt)), .av (.pin ((encT e).map .dt)), .av (inA qs.length), yF, yF, yF, yF, yF, yF, yT]) (ls := [.scl 33 3 [0, 1] (.tup []) [some (.cells [.own 1 cs'.length, inA left', boA bad']), some (.buf 46 1 cs')]]) (ps := [Bn .sub 3 (.tmp 17) (.const (vi 1)) (vi left) (vi 1) (vi (left - 1)), Bn .lss 3 (.tmp 24) (.const (vi 0)) (vi (left - 1)) (vi 0) bF, Bn .eql 3 (.tmp 34) (.const (vi 2)) (vi t.kind) (vi 2) bF, Puk 48 [(teA t)] (.tup [(teA t), (boA false)]), Puk 49 [(teA t), (stA [105, 102]), (inA 3)] (boA true), IxAt (List.map Te.enc t.args) 0 11 (encT a), IxAt (List.map Te.enc t.args) 1 11 (encT d), IxAt (List.map Te.enc t.args) 2 11 (encT e), (vi ↑qs.length) = (vi (↑(List.map Te.enc qs).length)), Bn .eql 3 (.tmp 111) (.const (vi 2)) (vi a.kind) (vi 2) bF, Bn .eql 3 (.tmp 124) (.const (vi 2)) (vi a.kind) (vi 2) bF, Puk 49 [(teA a), (stA [110, 111, 116]), (inA 1)] (boA false), Puk 49 [(teA a), (stA [105, 109, 112, 108, 105, 101, 115]), (inA 2)] (boA false), Puk 49 [(teA a), (stA [105, 102, 102]), (inA 2)] (boA false), Puk 49 [(teA a), (stA [105, 102]), (inA 3)] (boA false), Puk 50 [(.dt (.row (List.map Te.enc qs))), (teA a)] (boA true), Suk 24 [AV.ptr 0 0, teA d, AV.dt (Dt.row (List.map Te.enc qs))] [some (Bx.cells [AV.own 1 cs.length, AV.dt (Dt.val (vi (left - 1))), AV.dt (Dt.val bF)]), some (Bx.buf 46 1 cs)] (AV.tup []) [some (Bx.cells [AV.own 1 cs'.length, inA left', boA bad']), some (Bx.buf 46 1 cs')]]) Tryd.func24 (by kernel_rfl) (by kernel_rfl) ⟨bin_isub rfl (by omega) (by omega), bin_ilt (decide_eq_false (by omega)), bin_ieq (by simp [hk]), (p_prop t).val (by rw [hn]), (p_rIs t ifB 3).b (yesD hif), ix_te ha0, ix_te ha1, ix_te ha2, lenEncT _, bin_ieq (by simp [hk2]), bin_ieq (by simp [hk2]), (p_rIs a notB 1).b (noD hi), (p_rIs a impB 2).b (noD hj), (p_rIs a iffB 2).b (noD hj2), (p_rIs a ifB 3).b (noD hj3), (p_rcont (by omega) hq a).b (yesD hm), hc, trivial⟩
theorem w_d7 {t : Te} {qs : List Te} {cs : List (List Dt)} {left : Int} {cs' : List (List Dt)} {left' : Int} {bad' : Bool} {a d e : Te} (hx0 : -100000 ≤ left) (hx1 : left ≤ 100000) (hx : 0 < left) (hk : t.kind ≠ 2) (hn : opened t = none) (hif : is t ifB 3) (ha0 : t.args[0]? = some a) (ha1 : t.args[1]? = some d) (ha2 : t.args[2]? = some e) (hk2 : a.kind ≠ 2) (hi : ¬ is a notB 1) (hj : ¬ is a impB 2) (hj2 : ¬ is a iffB 2) (hj3 : ¬ is a ifB 3) (hl : qs.length ≤ 100000) (hq : ∀ q ∈ qs, q.Wf) (hm : a ∉ qs) (hm2 : ap notB [a] ∈ qs) (hc : Suk 24 [.ptr 0 0, teA e, tesA qs] (rbN cs (left - 1) false) (.tup []) (rbN cs' left' bad'))  : Suk 24 [.ptr 0 0, teA t, tesA qs] (rbN cs left false) (.tup []) (rbN cs' left' bad') :=
  psw (n := 2) (ks := [0, 1]) (an := [.av (inA (left - 1)), yF, yF, .av (.tup [teA t, boA false]), yT, .av (.pin ((encT a).map .dt)), .av (.pin ((encT d).map .dt)), .av (.pin ((encT e).map .dt)), .av (inA qs.length), yF, yF, yF, yF, yF, yF, yF, .av (teA (ap notB [a])), yT]) (ls := [.scl 35 3 [0, 1] (.tup []) [some (.cells [.own 1 cs'.length, inA left', boA bad']), some (.buf 46 1 cs')]]) (ps := [Bn .sub 3 (.tmp 17) (.const (vi 1)) (vi left) (vi 1) (vi (left - 1)), Bn .lss 3 (.tmp 24) (.const (vi 0)) (vi (left - 1)) (vi 0) bF, Bn .eql 3 (.tmp 34) (.const (vi 2)) (vi t.kind) (vi 2) bF, Puk 48 [(teA t)] (.tup [(teA t), (boA false)]), Puk 49 [(teA t), (stA [105, 102]), (inA 3)] (boA true), IxAt (List.map Te.enc t.args) 0 11 (encT a), IxAt (List.map Te.enc t.args) 1 11 (encT d), IxAt (List.map Te.enc t.args) 2 11 (encT e), (vi ↑qs.length) = (vi (↑(List.map Te.enc qs).length)), Bn .eql 3 (.tmp 111) (.const (vi 2)) (vi a.kind) (vi 2) bF, Bn .eql 3 (.tmp 124) (.const (vi 2)) (vi a.kind) (vi 2) bF, Puk 49 [(teA a), (stA [110, 111, 116]), (inA 1)] (boA false), Puk 49 [(teA a), (stA [105, 109, 112, 108, 105, 101, 115]), (inA 2)] (boA false), Puk 49 [(teA a), (stA [105, 102, 102]), (inA 2)] (boA false), Puk 49 [(teA a), (stA [105, 102]), (inA 3)] (boA false), Puk 50 [(.dt (.row (List.map Te.enc qs))), (teA a)] (boA false), Puk 12 [(stA [110, 111, 116]), (.dt (.row [encT a]))] (teA (ap notB [a])), Puk 50 [(.dt (.row (List.map Te.enc qs))), (teA (ap notB [a]))] (boA true), Suk 24 [AV.ptr 0 0, teA e, AV.dt (Dt.row (List.map Te.enc qs))] [some (Bx.cells [AV.own 1 cs.length, AV.dt (Dt.val (vi (left - 1))), AV.dt (Dt.val bF)]), some (Bx.buf 46 1 cs)] (AV.tup []) [some (Bx.cells [AV.own 1 cs'.length, inA left', boA bad']), some (Bx.buf 46 1 cs')]]) Tryd.func24 (by kernel_rfl) (by kernel_rfl) ⟨bin_isub rfl (by omega) (by omega), bin_ilt (decide_eq_false (by omega)), bin_ieq (by simp [hk]), (p_prop t).val (by rw [hn]), (p_rIs t ifB 3).b (yesD hif), ix_te ha0, ix_te ha1, ix_te ha2, lenEncT _, bin_ieq (by simp [hk2]), bin_ieq (by simp [hk2]), (p_rIs a notB 1).b (noD hi), (p_rIs a impB 2).b (noD hj), (p_rIs a iffB 2).b (noD hj2), (p_rIs a ifB 3).b (noD hj3), (p_rcont (by omega) hq a).b (noD hm), p_rLisp1 notB a, (p_rcont (by omega) hq (ap notB [a])).b (yesD hm2), hc, trivial⟩
theorem w_d8 {t : Te} {qs : List Te} {cs : List (List Dt)} {left : Int} {cs1 : List (List Dt)} {left1 : Int} {bad1 : Bool} {cs' : List (List Dt)} {left' : Int} {bad' : Bool} {a d e : Te} (hx0 : -100000 ≤ left) (hx1 : left ≤ 100000) (hx : 0 < left) (hk : t.kind ≠ 2) (hn : opened t = none) (hif : is t ifB 3) (ha0 : t.args[0]? = some a) (ha1 : t.args[1]? = some d) (ha2 : t.args[2]? = some e) (hk2 : a.kind ≠ 2) (hi : ¬ is a notB 1) (hj : ¬ is a impB 2) (hj2 : ¬ is a iffB 2) (hj3 : ¬ is a ifB 3) (hl : qs.length ≤ 100000) (hq : ∀ q ∈ qs, q.Wf) (hm : a ∉ qs) (hm2 : ap notB [a] ∉ qs) (hc1 : Suk 24 [.ptr 0 0, teA d, tesA (qs ++ [a])] (rbN cs (left - 1) false) (.tup []) (rbN cs1 left1 bad1)) (hc2 : Suk 24 [.ptr 0 0, teA e, tesA (qs ++ [ap notB [a]])] (rbN cs1 left1 bad1) (.tup []) (rbN cs' left' bad'))  : Suk 24 [.ptr 0 0, teA t, tesA qs] (rbN cs left false) (.tup []) (rbN cs' left' bad') :=
  psw (n := 2) (ks := [0, 1]) (an := [.av (inA (left - 1)), yF, yF, .av (.tup [teA t, boA false]), yT, .av (.pin ((encT a).map .dt)), .av (.pin ((encT d).map .dt)), .av (.pin ((encT e).map .dt)), .av (inA qs.length), yF, yF, yF, yF, yF, yF, yF, .av (teA (ap notB [a])), yF, .av (.dt (.row (qs.map Te.enc))), .av (.un), .av (.dt (.row (qs.map Te.enc))), .av (teA (ap notB [a])), .av (.un)]) (ls := [.scl 18 9 [0, 1] (.tup []) [some (.cells [.own 1 cs1.length, inA left1, boA bad1]), some (.buf 46 1 cs1)], .scl 19 11 [0, 1] (.tup []) [some (.cells [.own 1 cs'.length, inA left', boA bad']), some (.buf 46 1 cs')]]) (ps := [Bn .sub 3 (.tmp 17) (.const (vi 1)) (vi left) (vi 1) (vi (left - 1)), Bn .lss 3 (.tmp 24) (.const (vi 0)) (vi (left - 1)) (vi 0) bF, Bn .eql 3 (.tmp 34) (.const (vi 2)) (vi t.kind) (vi 2) bF, Puk 48 [(teA t)] (.tup [(teA t), (boA false)]), Puk 49 [(teA t), (stA [105, 102]), (inA 3)] (boA true), IxAt (List.map Te.enc t.args) 0 11 (encT a), IxAt (List.map Te.enc t.args) 1 11 (encT d), IxAt (List.map Te.enc t.args) 2 11 (encT e), (vi ↑qs.length) = (vi (↑(List.map Te.enc qs).length)), Bn .eql 3 (.tmp 111) (.const (vi 2)) (vi a.kind) (vi 2) bF, Bn .eql 3 (.tmp 124) (.const (vi 2)) (vi a.kind) (vi 2) bF, Puk 49 [(teA a), (stA [110, 111, 116]), (inA 1)] (boA false), Puk 49 [(teA a), (stA [105, 109, 112, 108, 105, 101, 115]), (inA 2)] (boA false), Puk 49 [(teA a), (stA [105, 102, 102]), (inA 2)] (boA false), Puk 49 [(teA a), (stA [105, 102]), (inA 3)] (boA false), Puk 50 [(.dt (.row (List.map Te.enc qs))), (teA a)] (boA false), Puk 12 [(stA [110, 111, 116]), (.dt (.row [encT a]))] (teA (ap notB [a])), Puk 50 [(.dt (.row (List.map Te.enc qs))), (teA (ap notB [a]))] (boA false), SlcOK (List.map Te.enc qs) 11 (none.getD 0) ((some ↑qs.length).getD ↑(List.map Te.enc qs).length) (List.map Te.enc qs), (some (qs.length : Int)) = (none : Option Int) ∨ (some (qs.length : Int)) = (some (qs.length : Int)), 1 ≤ (([encT a]).length), FitB 176 ((List.map Te.enc qs ++ [encT a]).length), SrcOK 11 (List.map Te.enc qs ++ [encT a]), Suk 24 [AV.ptr 0 0, teA d, AV.dt (Dt.row (List.map Te.enc qs ++ [encT a]))] [some (Bx.cells [AV.own 1 cs.length, AV.dt (Dt.val (vi (left - 1))), AV.dt (Dt.val bF)]), some (Bx.buf 46 1 cs)] (AV.tup []) [some (Bx.cells [AV.own 1 cs1.length, inA left1, boA bad1]), some (Bx.buf 46 1 cs1)], ((List.map Te.enc qs ++ [encT a]).length) = ((List.map Te.enc qs ++ [encT a]).length), SlcOK (List.map Te.enc qs) 11 (none.getD 0) ((some ↑qs.length).getD ↑(List.map Te.enc qs).length) (List.map Te.enc qs), (some (qs.length : Int)) = (none : Option Int) ∨ (some (qs.length : Int)) = (some (qs.length : Int)), Puk 12 [(stA [110, 111, 116]), (.dt (.row [encT a]))] (teA (ap notB [a])), 1 ≤ (([encT (ap notB [a])]).length), FitB 176 ((List.map Te.enc qs ++ [encT (ap notB [a])]).length), SrcOK 11 (List.map Te.enc qs ++ [encT (ap notB [a])]), Suk 24 [AV.ptr 0 0, teA e, AV.dt (Dt.row (List.map Te.enc qs ++ [encT (ap notB [a])]))] [some (Bx.cells [AV.own 1 cs1.length, AV.dt (Dt.val (vi left1)), AV.dt (Dt.val (Value.bool bad1))]), some (Bx.buf 46 1 cs1)] (AV.tup []) [some (Bx.cells [AV.own 1 cs'.length, inA left', boA bad']), some (Bx.buf 46 1 cs')], ((List.map Te.enc qs ++ [encT (ap notB [a])]).length) = ((List.map Te.enc qs ++ [encT (ap notB [a])]).length)]) Tryd.func24 (by kernel_rfl) (by kernel_rfl) ⟨bin_isub rfl (by omega) (by omega), bin_ilt (decide_eq_false (by omega)), bin_ieq (by simp [hk]), (p_prop t).val (by rw [hn]), (p_rIs t ifB 3).b (yesD hif), ix_te ha0, ix_te ha1, ix_te ha2, lenEncT _, bin_ieq (by simp [hk2]), bin_ieq (by simp [hk2]), (p_rIs a notB 1).b (noD hi), (p_rIs a impB 2).b (noD hj), (p_rIs a iffB 2).b (noD hj2), (p_rIs a ifB 3).b (noD hj3), (p_rcont (by omega) hq a).b (noD hm), p_rLisp1 notB a, (p_rcont (by omega) hq (ap notB [a])).b (noD hm2), slc_all qs (by omega), .inr rfl, Nat.le_refl 1, fit_of (by omega) (by simp; omega), enc_snoc qs a ▸ src_te _, enc_snoc qs a ▸ hc1, rfl, slc_all qs (by omega), .inr rfl, p_rLisp1 notB a, Nat.le_refl 1, fit_of (by omega) (by simp; omega), enc_snoc qs (ap notB [a]) ▸ src_te _, enc_snoc qs (ap notB [a]) ▸ hc2, rfl, trivial⟩
end Go.Proofs.YtihkbnghdcmhfaaDoor
/- The reference's normalizer: what it leaves; Normalize of both texts. -/
namespace Go.Proofs.YtihkbnghdcmhfaaDoor
open Go.RowKit
open Te

/-- the contract of 'term' -/
def Trm (f : Nat) : Prop := ∀ (t : Te) (qs : List Te) (s : NS), t.Gd → (∀ q ∈ qs, q.Gd) → (qs.length : Int) ≤ s.ex → s.ex ≤ 45000 → 20001 ≤ s.ex + f → 1 ≤ f → s.out.length ≤ 400 → Suk 24 [.ptr 0 0, teA t, tesA qs] (rbS s) (.tup []) (rbS (exm (addN []) f t qs s))
theorem is_ne {t : Te} {n n' : List UInt8} {k k' : Nat} (h : is t n k) (hn : n ≠ n') : ¬ is t n' k' := fun h' => hn (h.2.2.1.symm.trans h'.2.2.1)
theorem opened_some {t b : Te} (h : opened t = some b) (hi : ¬ is t notB 1) : is t impB 2 ∨ (¬ is t impB 2 ∧ is t iffB 2) := by
  unfold opened at h
  rw [if_neg hi] at h
  split at h
  · rename_i h1; exact .inl h1
  · rename_i h1
    split at h
    · rename_i h2; exact .inr ⟨h1, h2⟩
    · cases h
theorem opened_none {t : Te} (h : opened t = none) : ¬ is t impB 2 ∧ ¬ is t iffB 2 := by
  unfold opened at h
  split at h
  · cases h
  split at h
  · cases h
  split at h
  · cases h
  · rename_i h2 h3; exact ⟨h2, h3⟩
theorem p_term : ∀ f : Nat, f ≤ 20002 → Trm f
  | 0, _ => fun t qs s _ _ _ _ _ h => by omega
  | f + 1, hf2 => fun t qs s ht hq hl hx hf _ ho => by
    have hqw : ∀ q ∈ qs, q.Wf := fun q h => (hq q h).wf
    have hl0 : (0 : Int) ≤ s.ex := by omega
    have hleft : 20000 - (s.ex + 1) = 20000 - s.ex - 1 := by omega
    rw [exm_succ]
    split
    · rename_i he
      by_cases h1 : 20000 < s.ex + 1
      · have e : s.tick = ⟨s.out, s.ex + 1, 2⟩ := by unfold NS.tick; rw [if_pos h1]
        rw [e]
        show Suk _ _ _ _ (rbN (s.out.map encC) (20000 - (s.ex + 1)) true)
        rw [hleft]
        exact w_t1 (by omega) (by omega) (by omega)
      · have e : s.tick = ⟨s.out, s.ex + 1, s.er⟩ := by unfold NS.tick; rw [if_neg h1]
        rw [e] at he ⊢
        show Suk _ _ (rbN (s.out.map encC) (20000 - s.ex) (decide (s.er ≠ 0))) _ (rbN (s.out.map encC) (20000 - (s.ex + 1)) (decide (s.er ≠ 0)))
        rw [hleft, yesD (show s.er ≠ 0 from he)]
        exact w_t2 (by omega) (by omega) (by omega)
    rename_i he
    obtain ⟨h1, h2, h3⟩ := tick_er he
    rw [h3]
    have hl2 : qs.length ≤ 100000 := by omega
    have e1 : rbS s = rbN (s.out.map encC) (20000 - s.ex) false := by
      show rbN _ _ (decide (s.er ≠ 0)) = _
      rw [noD (show ¬ s.er ≠ 0 from fun h => h h2)]
    have e0 : rbS ⟨s.out, s.ex + 1, s.er⟩ = rbN (s.out.map encC) (20000 - s.ex - 1) false := by
      show rbN _ (20000 - (s.ex + 1)) (decide (s.er ≠ 0)) = _
      rw [noD (show ¬ s.er ≠ 0 from fun h => h h2), hleft]
    have pf : ∀ ms, ms.length ≤ 1000 → (∀ q ∈ ms, q.Gd) → Suk 47 [.ptr 0 0, tesA qs, tesA ms] (rbN (s.out.map encC) (20000 - s.ex - 1) false) (.tup []) (rbS (NS.fail (addN []) ⟨s.out, s.ex + 1, s.er⟩ (qs.map neg ++ ms))) := fun ms hm hmg => by
      have := p_put ⟨s.out, s.ex + 1, s.er⟩ qs ms (by omega) hm ho hq hmg h2
      rw [e0] at this
      exact this
    have pf0 := pf [] (by decide) (fun q h => by cases h)
    rw [List.append_nil] at pf0
    have rcc : ∀ t', t'.Gd → Suk 24 [.ptr 0 0, teA t', tesA qs] (rbN (s.out.map encC) (20000 - s.ex - 1) false) (.tup []) (rbS (exm (addN []) f t' qs ⟨s.out, s.ex + 1, s.er⟩)) := fun t' ht' => by
      have := p_term f (by omega) t' qs ⟨s.out, s.ex + 1, s.er⟩ ht' hq (by show (qs.length : Int) ≤ s.ex + 1; omega) (by show s.ex + 1 ≤ 45000; omega) (by show 20001 ≤ s.ex + 1 + f; omega) (by omega) ho
      rw [e0] at this
      exact this
    rw [e1]
    have b0 : -100000 ≤ 20000 - s.ex := by omega
    have b1 : 20000 - s.ex ≤ 100000 := by omega
    have b2 : 0 < 20000 - s.ex := by omega
    split
    · rename_i hk
      split
      · rename_i hn
        exact w_t3 b0 b1 b2 ht.val hk hn pf0
      · rename_i hn
        show Suk _ _ _ _ (rbS ⟨s.out, s.ex + 1, s.er⟩)
        rw [e0]
        exact w_t4 b0 b1 b2 ht.val hk hn
    rename_i hk
    split
    · rename_i a hn
      exact w_t5 b0 b1 b2 hk hn (rcc a (ht.opened hn))
    rename_i hn
    split
    · rename_i hi
      have g0 := ht.arg hi (show 0 < 3 by omega)
      have g1 := ht.arg hi (show 1 < 3 by omega)
      have g2 := ht.arg hi (show 2 < 3 by omega)
      have i0 := arg_at hi (show 0 < 3 by omega)
      have i1 := arg_at hi (show 1 < 3 by omega)
      have i2 := arg_at hi (show 2 < 3 by omega)
      generalize t.arg 0 = a at *
      generalize t.arg 1 = d at *
      generalize t.arg 2 = e at *
      unfold chs
      split
      · rename_i hk2
        exact w_d1 b0 b1 b2 hk hn hi i0 i1 i2 g0.val hk2.1 hk2.2 (rcc e g2)
      rename_i hnk
      split
      · rename_i hk2
        exact w_d2 b0 b1 b2 hk hn hi i0 i1 i2 g0.val hk2 (fun h => hnk ⟨hk2, h⟩) (rcc d g1)
      rename_i hk2
      split
      · rename_i hj
        exact w_d3 b0 b1 b2 hk hn hi i0 i1 i2 hk2 hj (arg_at hj (by omega)) (rcc _ ((g0.arg hj (by omega)).if_ g2 g1))
      rename_i hj
      split
      · rename_i h3
        exact w_d4 b0 b1 b2 hk hn hi i0 i1 i2 hk2 hj (is_ne h3 (by decide)) (is_ne h3 (by decide)) h3 (arg_at h3 (show 0 < 3 by omega)) (arg_at h3 (show 1 < 3 by omega)) (arg_at h3 (show 2 < 3 by omega)) (rcc _ ((g0.arg h3 (show 0 < 3 by omega)).if_ ((g0.arg h3 (show 1 < 3 by omega)).if_ g1 g2) ((g0.arg h3 (show 2 < 3 by omega)).if_ g1 g2)))
      rename_i h3
      split
      · rename_i b hb
        rcases opened_some hb hj with k | ⟨k, k'⟩
        · exact w_d5 b0 b1 b2 hk hn hi i0 i1 i2 hk2 hj k hb (rcc _ ((g0.opened hb).if_ g1 g2))
        · exact w_d5b b0 b1 b2 hk hn hi i0 i1 i2 hk2 hj k k' hb (rcc _ ((g0.opened hb).if_ g1 g2))
      rename_i hb
      obtain ⟨k, k'⟩ := opened_none hb
      split
      · rename_i hm
        exact w_d6 b0 b1 b2 hk hn hi i0 i1 i2 hk2 hj k k' h3 hl2 hqw hm (rcc d g1)
      rename_i hm
      split
      · rename_i hm2
        exact w_d7 b0 b1 b2 hk hn hi i0 i1 i2 hk2 hj k k' h3 hl2 hqw hm hm2 (rcc e g2)
      rename_i hm2
      obtain ⟨m1, m2, m3⟩ := exm_inv (addN []) f d (qs ++ [a]) ⟨s.out, s.ex + 1, s.er⟩ ho
      have c1 := p_term f (by omega) d (qs ++ [a]) ⟨s.out, s.ex + 1, s.er⟩ g1 (gd_snoc hq g0) (by simp; omega) (by show s.ex + 1 ≤ 45000; omega) (by show 20001 ≤ s.ex + 1 + f; omega) (by omega) ho
      rw [e0] at c1
      dsimp only at m1 m2
      exact w_d8 b0 b1 b2 hk hn hi i0 i1 i2 hk2 hj k k' h3 hl2 hqw hm hm2 c1 (p_term f (by omega) e (qs ++ [ap notB [a]]) _ g2 (gd_snoc hq g0.not) (by simp; omega) (by omega) (by omega) (by omega) m3)
    rename_i hi
    split
    · rename_i hm
      show Suk _ _ _ _ (rbS ⟨s.out, s.ex + 1, s.er⟩)
      rw [e0]
      exact w_t7 b0 b1 b2 hk hn hi (by omega) hqw hm
    rename_i hm
    split
    · rename_i hm2
      exact w_t8 b0 b1 b2 hk hn hi (by omega) hqw hm hm2 pf0
    · rename_i hm2
      exact w_t9 b0 b1 b2 hk hn hi (by omega) hqw hm hm2 (pf [t] (by show 1 ≤ 1000; omega) (gd1 ht))
theorem w_rnrm {t : Te} {cs : List (List Dt)} {left : Int} {bad : Bool} (hc : Suk 24 [.ptr 0 0, teA t, .dt (.row [])] [some (.cells [.nil, inA 20000, boA false])] (.tup []) (rbN cs left bad)) : Puk 8 [teA t] (bif bad then .tup [.dt (.row []), inA 2] else .tup [.dt (.row cs), inA 0]) := by
  cases bad with
  | true => exact pwalk (an := []) (ls := [.scl 2 2 [1] (.tup []) [some (.cells [.own 1 cs.length, inA left, boA true]), some (.buf 46 1 cs)]]) (ps := [Suk 24 [AV.ptr 0 0, teA t, AV.dt (Dt.row [])] [some (Bx.cells [AV.nil, AV.dt (Dt.val (vi 20000)), AV.dt (Dt.val bF)])] (AV.tup []) [some (Bx.cells [AV.own 1 cs.length, inA left, boA true]), some (Bx.buf 46 1 cs)]]) Tryd.func8 (by kernel_rfl) (by kernel_rfl) ⟨hc, trivial⟩
  | false => exact pwalk (an := []) (ls := [.scl 2 2 [1] (.tup []) [some (.cells [.own 1 cs.length, inA left, boA false]), some (.buf 46 1 cs)]]) (ps := [Suk 24 [AV.ptr 0 0, teA t, AV.dt (Dt.row [])] [some (Bx.cells [AV.nil, AV.dt (Dt.val (vi 20000)), AV.dt (Dt.val bF)])] (AV.tup []) [some (Bx.cells [AV.own 1 cs.length, inA left, boA false]), some (Bx.buf 46 1 cs)], (cs.length) = (cs.length)]) Tryd.func8 (by kernel_rfl) (by kernel_rfl) ⟨hc, rfl, trivial⟩
/-- errors of the normalizer -/
theorem exm_er (D : List Te → List Te) : ∀ (f : Nat) (t : Te) (qs : List Te) (s : NS), s.er = 0 ∨ s.er = 2 → (exm D f t qs s).er = 0 ∨ (exm D f t qs s).er = 2
  | 0, _, _, s, h => by rw [exm]; exact h
  | f + 1, t, qs, s, h => by
    have ht : s.tick.er = 0 ∨ s.tick.er = 2 := by
      unfold NS.tick
      dsimp only
      split
      · exact .inr rfl
      · exact h
    have fl : ∀ c, (s.tick.fail D c).er = 0 ∨ (s.tick.fail D c).er = 2 := fun c => by
      unfold NS.fail
      split
      · exact .inr rfl
      · exact ht
    rw [exm_succ]
    split
    · exact ht
    split
    · split
      · exact fl _
      · exact ht
    split
    · exact exm_er D f _ _ _ ht
    split
    · unfold chs
      split
      · exact exm_er D f _ _ _ ht
      split
      · exact exm_er D f _ _ _ ht
      split
      · exact exm_er D f _ _ _ ht
      split
      · exact exm_er D f _ _ _ ht
      split
      · exact exm_er D f _ _ _ ht
      split
      · exact exm_er D f _ _ _ ht
      split
      · exact exm_er D f _ _ _ ht
      · exact exm_er D f _ _ _ (exm_er D f _ _ _ ht)
    split
    · exact ht
    split
    · exact fl _
    · exact fl _
/-- Normalize of the reference is that of the code -/
theorem p_rnormalize {t : Te} (ht : t.Gd) : Puk 8 [teA t] (nrmA (exm id 20002 t [] ⟨[], 0, 0⟩)) := by
  have h := w_rnrm (SOK.own0 (p_term 20002 (Nat.le_refl _) t [] ⟨[], 0, 0⟩ ht (fun q hq => by cases hq) (by decide) (by decide) (by decide) (by decide) (by decide)))
  rw [exm_eq _ _ _ _ Asm.nil] at h
  have he := exm_er id 20002 t [] ⟨[], 0, 0⟩ (.inl rfl)
  generalize exm id 20002 t [] ⟨[], 0, 0⟩ = s at *
  unfold nrmA
  rcases he with he | he
  · rw [noD (show ¬ s.er ≠ 0 from fun h => h he)] at h
    rw [if_pos he]
    exact h
  · rw [yesD (show s.er ≠ 0 by omega)] at h
    rw [if_neg (by omega), he]
    exact h
end Go.Proofs.YtihkbnghdcmhfaaDoor
/- Few, Vars, and the formulas of the law. -/
namespace Go.Proofs.YtihkbnghdcmhfaaDoor
open Go.RowKit

abbrev wr (n : Int) : Int := IntKind.i64.wrap n
abbrev rawA (r : Raw) : AV := .agg [inA r.kind, inA r.n, stA r.s, .dt (.row (r.l.map Raw.enc))]
abbrev encR (r : Raw) : List Dt := [.val (.int .i64 r.kind), .val (.int .i64 r.n), .val (str r.s), .row (r.l.map Raw.enc)]
theorem enc_R (r : Raw) : r.enc = encR r := Raw.enc_eq r
theorem ix_raw {l : List Raw} {i : Nat} {o : Raw} (h : l[i]? = some o) : IxAt (l.map Raw.enc) (i : Int) 4 (encR o) := ⟨Int.natCast_nonneg _, by
  rw [Int.toNat_natCast, List.getElem?_map, h]
  exact congrArg some (enc_R o), rfl⟩
theorem lenEncR (l : List Raw) : Value.int .i64 (l.length : Int) = Value.int .i64 ((l.map Raw.enc).length : Int) := by rw [List.length_map]
theorem lenStr (l : List UInt8) : Value.int .i64 (l.length : Int) = Value.int .i64 (l.length : Int) := rfl
theorem p_mod (n m : Int) (hm : 0 < m) (hm1 : m ≤ 1000000) : Puk 19 [inA n, inA m] (inA (n % m)) :=
  ⟨fnm Tryd.func19 rfl (by kernel_rfl), fun ok w vs ht hv => by
    obtain ⟨u, us, rfl, h1, h2⟩ := hv
    obtain rfl := RL.one_val h2
    rw [Rd.val_eq h1]
    refine (mod_any n m w hm hm1).mono ?_
    rintro e w' ⟨rfl, rfl⟩
    exact ⟨_, rfl, Below.refl _ _, .val _⟩⟩
mutual
def leftW : Raw → Int → Int
  | ⟨_, _, s, l⟩, m => if 12 < s.length then -1 else if 6 < l.length then -1 else leftWL l (wr (m - 1))
def leftWL : List Raw → Int → Int
  | [], m => m
  | x :: r, m => if 0 ≤ m then leftWL r (leftW x m) else m
end
theorem leftW_eq (r : Raw) (m : Int) : leftW r m = if 12 < r.s.length then -1 else if 6 < r.l.length then -1 else leftWL r.l (wr (m - 1)) := by
  cases r; rw [leftW]
def fewR (r : Raw) (m : Int) : Bool := decide (0 ≤ leftW r m)
abbrev lfS (r : Raw) (i m : Int) : AS := ⟨stt 37 [(1, inA m), (2, .ptr 0 0), (4, inA 0), (5, inA i)], [some (.cells [inA r.kind, inA r.n, stA r.s, .dt (.row (r.l.map Raw.enc))])]⟩
noncomputable abbrev lfB : Code := subC (bodyOf Tryd.f17) [1, 1, 1, 0, 1, 0, 0]
theorem lfB1 {r x : Raw} {i : Nat} {m k : Int} (hx : r.l[i]? = some x) (hl : r.l.length ≤ 6) (h0 : 0 ≤ m) (hk : Puk 17 [rawA x, inA m] (inA k)) : Tri EX lfB (lfS r i m) .nxt (lfS r ((i + 1 : Nat) : Int) k) :=
  twalk (c := subC (bodyOf Tryd.f17) [1,1,1,0,1,0,0]) (s := lfS r i m) (an := [.av (inA r.l.length), yT, yT, .av (.pin ((encR x).map .dt)), .av (inA k), .av (inA ((i + 1 : Nat) : Int))]) (ls := []) (ft := [1,2,4,5]) (nb := 1) (e := .nxt) (s' := lfS r ((i + 1 : Nat) : Int) k) (ps := [(vi ↑r.l.length) = (vi (↑(List.map Raw.enc r.l).length)), Bn .lss 3 (.tmp 18) (.tmp 21) (vi ↑i) (vi ↑r.l.length) bT, Bn .geq 3 (.tmp 24) (.const (vi 0)) (vi m) (vi 0) bT, IxAt (List.map Raw.enc r.l) ↑i 4 (encR x), Puk 17 [(rawA x), (inA m)] (inA k), Bn .add 3 (.tmp 27) (.const (vi 1)) (vi ↑i) (vi 1) (vi (↑(i + 1)))]) (by kernel_rfl)
    ⟨lenEncR _, bin_ilt (decide_eq_true (by have := (List.getElem?_eq_some_iff.1 hx).1; omega)), bin_ige (decide_eq_true h0), ix_raw hx, hk, bin_iadd (by omega) (by omega) (by have := (List.getElem?_eq_some_iff.1 hx).1; omega), trivial⟩
theorem lfB2 {r : Raw} {i : Nat} {m : Int} (hi : i = r.l.length) : Tri EX lfB (lfS r i m) (.out 0) (lfS r i m) :=
  twalk (c := subC (bodyOf Tryd.f17) [1,1,1,0,1,0,0]) (s := lfS r i m) (an := [.av (inA r.l.length), yF]) (ls := []) (ft := [1,2,4,5]) (nb := 1) (e := .out 0) (s' := lfS r i m) (ps := [(vi ↑r.l.length) = (vi (↑(List.map Raw.enc r.l).length)), Bn .lss 3 (.tmp 18) (.tmp 21) (vi ↑i) (vi ↑r.l.length) bF]) (by kernel_rfl)
    ⟨lenEncR _, bin_ilt (decide_eq_false (by omega)), trivial⟩
theorem lfB3 {r : Raw} {i : Nat} {m : Int} (hi : i < r.l.length) (h0 : m < 0) : Tri EX lfB (lfS r i m) (.out 0) (lfS r i m) :=
  twalk (c := subC (bodyOf Tryd.f17) [1,1,1,0,1,0,0]) (s := lfS r i m) (an := [.av (inA r.l.length), yT, yF]) (ls := []) (ft := [1,2,4,5]) (nb := 1) (e := .out 0) (s' := lfS r i m) (ps := [(vi ↑r.l.length) = (vi (↑(List.map Raw.enc r.l).length)), Bn .lss 3 (.tmp 18) (.tmp 21) (vi ↑i) (vi ↑r.l.length) bT, Bn .geq 3 (.tmp 24) (.const (vi 0)) (vi m) (vi 0) bF]) (by kernel_rfl)
    ⟨lenEncR _, bin_ilt (decide_eq_true (by omega)), bin_ige (decide_eq_false (by omega)), trivial⟩
theorem p_left : ∀ (N : Nat) (r : Raw) (m : Int), r.size ≤ N → Puk 17 [rawA r, inA m] (inA (leftW r m)) := by
  intro N
  induction N with
  | zero => intro r m h; have := r.size_pos; omega
  | succ N ih =>
    intro r m hN
    rw [leftW_eq]
    by_cases h12 : 12 < r.s.length
    · rw [if_pos h12]
      exact pwalk (an := [.av (inA r.s.length), yT]) (ls := []) (ps := [(vi ↑r.s.length) = (vi (↑r.s.length)), Bn .gtr 3 (.tmp 8) (.const (vi 12)) (vi ↑r.s.length) (vi 12) bT]) Tryd.func17 (by kernel_rfl) (by kernel_rfl) ⟨lenStr _, bin_igt (decide_eq_true (by omega)), trivial⟩
    rw [if_neg h12]
    by_cases h6 : 6 < r.l.length
    · rw [if_pos h6]
      exact pwalk (an := [.av (inA r.s.length), yF, .av (inA r.l.length), yT]) (ls := []) (ps := [(vi ↑r.s.length) = (vi (↑r.s.length)), Bn .gtr 3 (.tmp 8) (.const (vi 12)) (vi ↑r.s.length) (vi 12) bF, (vi ↑r.l.length) = (vi (↑(List.map Raw.enc r.l).length)), Bn .gtr 3 (.tmp 13) (.const (vi 6)) (vi ↑r.l.length) (vi 6) bT]) Tryd.func17 (by kernel_rfl) (by kernel_rfl) ⟨lenStr _, bin_igt (decide_eq_false (by omega)), lenEncR _, bin_igt (decide_eq_true (by omega)), trivial⟩
    rw [if_neg h6]
    have loop : ∀ (l : List Raw) (i : Nat) (m : Int), r.l.drop i = l → i ≤ r.l.length → (∀ x ∈ l, x.size ≤ N) → ∃ j : Nat, Lps EX lfB (lfS r i m) (.out 0) (lfS r j (leftWL l m)) := by
      intro l
      induction l with
      | nil =>
        intro i m hd hi _
        have : i = r.l.length := by
          have := congrArg List.length hd
          rw [List.length_drop, List.length_nil] at this
          omega
        rw [leftWL]
        exact ⟨i, .stop (lfB2 this) (fun h => by cases h)⟩
      | cons x l ihl =>
        intro i m hd hi hs
        have hx : r.l[i]? = some x := by rw [← List.head?_drop, hd]; rfl
        have hlt := (List.getElem?_eq_some_iff.1 hx).1
        rw [leftWL]
        by_cases h0 : 0 ≤ m
        · rw [if_pos h0]
          obtain ⟨j, hj⟩ := ihl (i + 1) (leftW x m) (by rw [← List.drop_drop, hd]; rfl) (by omega) (fun y hy => hs y (List.mem_cons_of_mem _ hy))
          exact ⟨j, .more (lfB1 hx (by omega) h0 (ih x m (hs x (List.mem_cons_self ..)))) hj⟩
        · rw [if_neg h0]
          exact ⟨i, .stop (lfB3 hlt (by omega)) (fun h => by cases h)⟩
    obtain ⟨j, hj⟩ := loop r.l 0 (wr (m - 1)) rfl (Nat.zero_le _) (fun x hx => by have := Raw.size_l hx; omega)
    generalize leftWL r.l (wr (m - 1)) = k at *
    exact pwalk (an := [.av (inA r.s.length), yF, .av (inA r.l.length), yF, .no]) (ls := [.inv [1,2,4,5] 1 (.out 0) (lfS r j k)]) (ps := [(vi ↑r.s.length) = (vi (↑r.s.length)), Bn .gtr 3 (.tmp 8) (.const (vi 12)) (vi ↑r.s.length) (vi 12) bF, (vi ↑r.l.length) = (vi (↑(List.map Raw.enc r.l).length)), Bn .gtr 3 (.tmp 13) (.const (vi 6)) (vi ↑r.l.length) (vi 6) bF, Tri EX (.loop (subC (bodyOf Tryd.f17) [1, 1, 1, 0, 1, 0, 0])) (lfS r 0 (wr (m - 1))) (.out 0) (lfS r j k)]) Tryd.func17 (by kernel_rfl) (by kernel_rfl) ⟨lenStr _, bin_igt (decide_eq_false (by omega)), lenEncR _, bin_igt (decide_eq_false (by omega)), hj.tri, trivial⟩
theorem p_Few (r : Raw) (m : Int) : Puk 5 [rawA r, inA m] (boA (fewR r m)) :=
  pwalk (an := [.av (inA (leftW r m)), .av (boA (fewR r m))]) (ls := []) (ps := [Puk 17 [(rawA r), (inA m)] (inA (leftW r m)), Bn .geq 3 (.tmp 7) (.const (vi 0)) (vi (leftW r m)) (vi 0) (Value.bool (fewR r m))]) Tryd.func5 (by kernel_rfl) (by kernel_rfl) ⟨p_left _ r m (Nat.le_refl _), bin_ige rfl, trivial⟩
theorem RV.ofRaw {M : Mm} {w : World} {o : Raw} {A : Option Addr} {n c : Nat} (h : Rd M.F w (.slice A n c) (.row (o.l.map Raw.enc))) : RV M w (rawA o) (rawV o (.slice A n c)) :=
  ⟨_, rfl, _, _, rfl, .val _, _, _, rfl, .val _, _, _, rfl, .val _, _, _, rfl, h, rfl⟩
namespace Te
abbrev varT (n : List UInt8) : Te := ⟨1, userB, n, zOb, []⟩
abbrev vn (k : Int) : List UInt8 := if k = 0 then [120] else if k = 1 then [121] else [122]
/-- one of three variables -/
abbrev v3 (n : Int) : Te := varT (vn (n % 3))
/-- one of three constants -/
def c3 (k : Int) : Ob := if k = 0 then nilO else if k = 1 then tO else (Tr.num 0).ob
abbrev conspB : List UInt8 := [99, 111, 110, 115, 112]
abbrev equalB : List UInt8 := [101, 113, 117, 97, 108]
def fk (n : Int) (l : List Te) (i : Nat) : Te := match l[i]? with
  | some t => t
  | none => v3 (wr (n + i))
def fmK (k n : Int) (l : List Te) : Te :=
  if k % 9 = 0 then v3 n else if k % 9 = 1 then con (c3 (n % 3)) else if k % 9 = 2 then ap conspB [fk n l 0] else if k % 9 = 3 then ap notB [fk n l 0]
  else if k % 9 = 4 then ap impB [fk n l 0, fk n l 1] else if k % 9 = 5 then ap iffB [fk n l 0, fk n l 1] else if k % 9 = 6 then ap equalB [fk n l 0, fk n l 1] else ap ifB [fk n l 0, fk n l 1, fk n l 2]
mutual
/-- the formula of a raw tree -/
def fmT : Raw → Te
  | ⟨k, n, _, l⟩ => fmK k n (fmL l)
def fmL : List Raw → List Te
  | [] => []
  | x :: r => fmT x :: fmL r
end
theorem fmL_map (l : List Raw) : fmL l = l.map fmT := by
  induction l with
  | nil => rfl
  | cons x r ih => rw [fmL, ih]; rfl
theorem fmT_eq (r : Raw) : fmT r = fmK r.kind r.n (r.l.map fmT) := by
  obtain ⟨k, n, s, l⟩ := r
  rw [fmT, fmL_map]
theorem row2 (a b : Te) : [encT a, encT b] = [a, b].map Te.enc := by simp only [List.map_cons, List.map_nil, enc_T]
end Te
open Te
theorem p_rLisp2 (n : List UInt8) (a b : Te) : Puk 12 [stA n, .dt (.row [encT a, encT b])] (teA (Te.ap n [a, b])) := p_rLisp n [a, b] (row2 a b)
theorem p_user (n : List UInt8) : Puk 26 [stA n] (syA userB n) := pwalk (an := []) (ls := []) (ps := []) Tryd.func26 (by kernel_rfl) (by kernel_rfl) trivial
abbrev srow (n : List UInt8) : List Dt := [.val (str userB), .val (str n)]
abbrev vars3 : List (List Dt) := [srow [120], srow [121], srow [122]]
abbrev vars4 : List (List Dt) := [srow [120], srow [121], srow [122], srow [117]]
theorem p_vars3 : Puk 10 [inA 3] (.dt (.row vars3)) := pwalk (an := [.av (syA userB [120]), .av (syA userB [121]), .av (syA userB [122]), .av (syA userB [117]), .no, .no, .no]) (ls := []) (ps := [Puk 26 [(stA [120])] (syA userB [120]), Puk 26 [(stA [121])] (syA userB [121]), Puk 26 [(stA [122])] (syA userB [122]), Puk 26 [(stA [117])] (syA userB [117]), SlcOK vars4 2 0 3 vars3, (none : Option Int) = none ∨ (none : Option Int) = some (if (if 4 < 3 then 4 else 3) > 0 then if 4 < 3 then 4 else 3 else 0)]) Tryd.func10 (by kernel_rfl) (by kernel_rfl) ⟨p_user _, p_user _, p_user _, p_user _, ⟨by decide, by decide, by decide, rfl, .inl rfl⟩, .inl rfl, trivial⟩
theorem p_vars4 : Puk 10 [inA 4] (.dt (.row vars4)) := pwalk (an := [.av (syA userB [120]), .av (syA userB [121]), .av (syA userB [122]), .av (syA userB [117]), .no, .no, .no]) (ls := []) (ps := [Puk 26 [(stA [120])] (syA userB [120]), Puk 26 [(stA [121])] (syA userB [121]), Puk 26 [(stA [122])] (syA userB [122]), Puk 26 [(stA [117])] (syA userB [117]), SlcOK vars4 2 0 4 vars4, (none : Option Int) = none ∨ (none : Option Int) = some (if (if 4 < 4 then 4 else 4) > 0 then if 4 < 4 then 4 else 4 else 0)]) Tryd.func10 (by kernel_rfl) (by kernel_rfl) ⟨p_user _, p_user _, p_user _, p_user _, ⟨by decide, by decide, by decide, rfl, .inl rfl⟩, .inl rfl, trivial⟩
theorem p_rVar (n : List UInt8) : Puk 11 [syA userB n] (teA (varT n)) := pwalk (an := []) (ls := []) (ps := []) Tryd.func11 (by kernel_rfl) (by kernel_rfl) trivial
theorem ix_var (n : Int) : IxAt vars3 (n % 3) 2 (srow (vn (n % 3))) := by
  have h0 : 0 ≤ n % 3 := by omega
  rcases (by omega : n % 3 = 0 ∨ n % 3 = 1 ∨ n % 3 = 2) with h | h | h <;> rw [h] <;> exact ⟨by decide, rfl, rfl⟩
theorem ix_c3 (n : Int) : IxAt [encL nilO, encL tO, encL (Tr.num 0).ob] (n % 3) 7 (encL (c3 (n % 3))) := by
  rcases (by omega : n % 3 = 0 ∨ n % 3 = 1 ∨ n % 3 = 2) with h | h | h <;> rw [h] <;> exact ⟨by decide, rfl, rfl⟩
abbrev fmX (r : Raw) : List (Option Bx) := [some (.cells [inA r.kind, inA r.n, stA r.s, .dt (.row (r.l.map Raw.enc))]), some (.cells [inA 0, stA [], stA [], inA 0, stA [], stA [], stA [], stA [], stA [], .nil, .nil])]
abbrev fmS (r : Raw) (es : List (List Dt)) (i : Int) : AS := ⟨stt 114 [(1, .ptr 0 0), (2, .ptr 1 0), (3, .own 2 es.length), (4, inA i)], fmX r ++ [some (.buf 38 11 es)]⟩
abbrev fmR (r : Raw) (es : List (List Dt)) : AS := ⟨stt 114 [(1, .ptr 0 0), (2, .ptr 1 0), (3, .dt (.row es)), (4, inA ((3 : Nat) : Int))], fmX r ++ [some (.fzn es)]⟩
noncomputable abbrev fmB : Code := subC (bodyOf Tryd.f7) [1, 1, 0, 1, 0, 0]
theorem fmB1 {r x : Raw} {es : List (List Dt)} {i : Nat} {t : Te} (hi : i < 3) (he : es.length = i) (hx : r.l[i]? = some x) (hc : Puk 7 [rawA x] (teA t)) : Tri EX fmB (fmS r es i) .nxt (fmS r (es ++ [encT t]) ((i + 1 : Nat) : Int)) :=
  twalk (c := subC (bodyOf Tryd.f7) [1,1,0,1,0,0]) (s := fmS r es i) (an := [yT, .av (inA r.l.length), yT, .av (.pin ((encR x).map .dt)), .av (teA t), .av (.un), .av (inA ((i + 1 : Nat) : Int))]) (ls := []) (ft := [1,2,3,4]) (nb := 3) (e := .nxt) (s' := fmS r (es ++ [encT t]) ((i + 1 : Nat) : Int)) (ps := [Bn .lss 3 (.tmp 5) (.const (vi 3)) (vi ↑i) (vi 3) bT, (vi ↑r.l.length) = (vi (↑(List.map Raw.enc r.l).length)), Bn .lss 3 (.tmp 9) (.tmp 12) (vi ↑i) (vi ↑r.l.length) bT, IxAt (List.map Raw.enc r.l) ↑i 4 (encR x), Puk 7 [(rawA x)] (teA t), (es.length) = (es.length), FitB 176 ((es ++ [encT t]).length), SrcOK 11 [encT t], Bn .add 3 (.tmp 7) (.const (vi 1)) (vi ↑i) (vi 1) (vi (↑(i + 1)))]) (by kernel_rfl)
    ⟨bin_ilt (decide_eq_true (by omega)), lenEncR _, bin_ilt (decide_eq_true (by have := (List.getElem?_eq_some_iff.1 hx).1; omega)), ix_raw hx, hc, rfl, fit_of (by omega) (by simp; omega), src_te1 t, bin_iadd (by omega) (by omega) (by omega), trivial⟩
theorem fmB2 {r : Raw} {es : List (List Dt)} {i : Nat} (hi : i < 3) (he : es.length = i) (hx : r.l.length ≤ i) : Tri EX fmB (fmS r es i) .nxt (fmS r (es ++ [encT (v3 (wr (r.n + i)))]) ((i + 1 : Nat) : Int)) := by
  have h1 := ix_var (wr (r.n + i))
  have h2 := p_mod (wr (r.n + i)) 3 (by decide) (by decide)
  have h3 := p_rVar (vn (wr (r.n + i) % 3))
  show Tri EX fmB _ _ (fmS r (es ++ [encT (varT (vn (wr (r.n + i) % 3)))]) _)
  generalize vn (wr (r.n + i) % 3) = nm at *
  generalize wr (r.n + i) % 3 = k at *
  exact twalk (c := subC (bodyOf Tryd.f7) [1,1,0,1,0,0]) (s := fmS r es i) (an := [yT, .av (inA r.l.length), yF, .av (.dt (.row vars3)), .no, .av (inA k), .av (.pin [stA userB, stA nm]), .av (teA (varT nm)), .av (.un), .av (inA ((i + 1 : Nat) : Int))]) (ls := []) (ft := [1,2,3,4]) (nb := 3) (e := .nxt) (s' := fmS r (es ++ [encT (varT nm)]) ((i + 1 : Nat) : Int)) (ps := [Bn .lss 3 (.tmp 5) (.const (vi 3)) (vi ↑i) (vi 3) bT, (vi ↑r.l.length) = (vi (↑(List.map Raw.enc r.l).length)), Bn .lss 3 (.tmp 9) (.tmp 12) (vi ↑i) (vi ↑r.l.length) bF, Puk 10 [(inA 3)] (.dt (.row [[(.val (str userB)), (.val (str [120]))], [(.val (str userB)), (.val (str [121]))], [(.val (str userB)), (.val (str [122]))]])), Puk 19 [(inA (IntKind.i64.wrap (r.n + ↑i))), (inA 3)] (inA k), IxAt vars3 k 2 ([(.val (str userB)), (.val (str nm))]), Puk 11 [(syA userB nm)] (teA (varT nm)), (es.length) = (es.length), FitB 176 ((es ++ [encT (varT nm)]).length), SrcOK 11 [encT (varT nm)], Bn .add 3 (.tmp 7) (.const (vi 1)) (vi ↑i) (vi 1) (vi (↑(i + 1)))]) (by kernel_rfl)
    ⟨bin_ilt (decide_eq_true (by omega)), lenEncR _, bin_ilt (decide_eq_false (by omega)), p_vars3, h2, h1, h3, rfl, fit_of (by omega) (by simp; omega), src_te1 (varT nm), bin_iadd (by omega) (by omega) (by omega), trivial⟩
theorem fmB3 {r : Raw} {es : List (List Dt)} : Tri EX fmB (fmS r es ((3 : Nat) : Int)) (.out 0) (fmS r es ((3 : Nat) : Int)) :=
  twalk (c := subC (bodyOf Tryd.f7) [1,1,0,1,0,0]) (s := fmS r es ((3 : Nat) : Int)) (an := [yF]) (ls := []) (ft := [1,2,3,4]) (nb := 3) (e := .out 0) (s' := fmS r es ((3 : Nat) : Int)) (ps := [Bn .lss 3 (.tmp 5) (.const (vi 3)) (vi 3) (vi 3) bF]) (by kernel_rfl)
    ⟨bin_ilt (decide_eq_false (by decide)), trivial⟩
theorem fm_step {r : Raw} (h : ∀ x ∈ r.l, Puk 7 [rawA x] (teA (fmT x))) {es : List (List Dt)} {i : Nat} (hi : i < 3) (he : es.length = i) : Tri EX fmB (fmS r es i) .nxt (fmS r (es ++ [encT (fk r.n (r.l.map fmT) i)]) ((i + 1 : Nat) : Int)) := by
  unfold fk
  rw [List.getElem?_map]
  cases hx : r.l[i]? with
  | some x => exact fmB1 hi he hx (h x (List.mem_of_getElem? hx))
  | none => exact fmB2 hi he (List.getElem?_eq_none_iff.1 hx)
theorem fm_tri {r : Raw} (h : ∀ x ∈ r.l, Puk 7 [rawA x] (teA (fmT x))) : Tri EX (.loop fmB) ⟨stt 114 [(1, .ptr 0 0), (2, .ptr 1 0), (3, .nil), (4, inA 0)], fmX r⟩ (.out 0) (fmR r [encT (fk r.n (r.l.map fmT) 0), encT (fk r.n (r.l.map fmT) 1), encT (fk r.n (r.l.map fmT) 2)]) := by
  have h0 := fm_step h (es := []) (i := 0) (by decide) rfl
  have h1 := fm_step h (es := [] ++ [encT (fk r.n (r.l.map fmT) 0)]) (i := 1) (by decide) rfl
  have h2 := fm_step h (es := [] ++ [encT (fk r.n (r.l.map fmT) 0)] ++ [encT (fk r.n (r.l.map fmT) 1)]) (i := 2) (by decide) rfl
  exact Tri.frz (s' := fmS r [encT (fk r.n (r.l.map fmT) 0), encT (fk r.n (r.l.map fmT) 1), encT (fk r.n (r.l.map fmT) 2)] ((3 : Nat) : Int)) 3 2 (by show 3 < 114; omega) rfl rfl (Tri.own0 (s := ⟨stt 114 [(1, .ptr 0 0), (2, .ptr 1 0), (3, .nil), (4, inA 0)], fmX r⟩) 3 38 11 (by show 3 < 114; omega) rfl (Lps.more h0 (.more h1 (.more h2 (.stop fmB3 (fun h => by cases h))))).tri)
theorem ix3 (a b c : Te) : IxAt [encT a, encT b, encT c] 0 11 (encT a) ∧ IxAt [encT a, encT b, encT c] 1 11 (encT b) ∧ IxAt [encT a, encT b, encT c] 2 11 (encT c) := ⟨⟨by decide, rfl, rfl⟩, ⟨by decide, rfl, rfl⟩, ⟨by decide, rfl, rfl⟩⟩
theorem fm_k0 {r : Raw} {a b c : Te} {nm : List UInt8} {k : Int} (hm : Puk 19 [inA r.n, inA 3] (inA k)) (hx : IxAt vars3 k 2 (srow nm)) (ht : Tri EX (.loop fmB) ⟨stt 114 [(1, .ptr 0 0), (2, .ptr 1 0), (3, .nil), (4, inA 0)], fmX r⟩ (.out 0) (fmR r [encT a, encT b, encT c])) (hk : r.kind % 9 = 0) : Puk 7 [rawA r] (teA (varT nm)) :=
  pwalk (an := [.av (inA 0), .no, .av (.dt (.row vars3)), .av (inA k), .av (.pin [stA userB, stA nm]), .av (teA (varT nm))]) (ls := [.inv [1,2,3,4] 2 (.out 0) (fmR r [encT a, encT b, encT c])]) (ps := [Tri EX (.loop (subC (bodyOf Tryd.f7) [1,1,0,1,0,0])) (⟨stt 114 [(1, .ptr 0 0), (2, .ptr 1 0), (3, .nil), (4, inA 0)], fmX r⟩) (.out 0) (fmR r [encT a, encT b, encT c]), Puk 19 [(inA r.kind), (inA 9)] (inA 0), Puk 10 [(inA 3)] (.dt (.row [[(.val (str userB)), (.val (str [120]))], [(.val (str userB)), (.val (str [121]))], [(.val (str userB)), (.val (str [122]))]])), Puk 19 [(inA r.n), (inA 3)] (inA k), IxAt vars3 k 2 ([(.val (str userB)), (.val (str nm))]), Puk 11 [(syA userB nm)] (teA (varT nm))]) Tryd.func7 (by kernel_rfl) (by kernel_rfl) ⟨ht, (p_mod r.kind 9 (by decide) (by decide)).val (by rw [hk]), p_vars3, hm, hx, p_rVar nm, trivial⟩
theorem fm_k1 {r : Raw} {a b c : Te} {o : Ob} {k : Int} (hm : Puk 19 [inA r.n, inA 3] (inA k)) (hx : IxAt [encL nilO, encL tO, encL (Tr.num 0).ob] k 7 (encL o)) (ht : Tri EX (.loop fmB) ⟨stt 114 [(1, .ptr 0 0), (2, .ptr 1 0), (3, .nil), (4, inA 0)], fmX r⟩ (.out 0) (fmR r [encT a, encT b, encT c])) (hk : r.kind % 9 = 1) : Puk 7 [rawA r] (teA (con o)) :=
  pwalk (an := [.av (inA 1), .no, .no, .av (obA nilO), .av (obA tO), .av (obA (Tr.num 0).ob), .av (inA k), .av (.pin ((encL o).map .dt)), .av (teA (con o))]) (ls := [.inv [1,2,3,4] 2 (.out 0) (fmR r [encT a, encT b, encT c])]) (ps := [Tri EX (.loop (subC (bodyOf Tryd.f7) [1,1,0,1,0,0])) (⟨stt 114 [(1, .ptr 0 0), (2, .ptr 1 0), (3, .nil), (4, inA 0)], fmX r⟩) (.out 0) (fmR r [encT a, encT b, encT c]), Puk 19 [(inA r.kind), (inA 9)] (inA 1), Puk 21 [] (obA nilO), Puk 22 [] (obA tO), Puk 23 [inA 0] (obA (Tr.num 0).ob), Puk 19 [(inA r.n), (inA 3)] (inA k), IxAt [encL nilO, encL tO, encL (Tr.num 0).ob] k 7 (encL o), Puk 20 [(obA o)] (teA (con o))]) Tryd.func7 (by kernel_rfl) (by kernel_rfl) ⟨ht, (p_mod r.kind 9 (by decide) (by decide)).val (by rw [hk]), p_rNil, p_rT, p_rInt 0 (by decide) (by decide), hm, hx, p_rConst o, trivial⟩
theorem fm_k2 {r : Raw} {a b c : Te} (ht : Tri EX (.loop fmB) ⟨stt 114 [(1, .ptr 0 0), (2, .ptr 1 0), (3, .nil), (4, inA 0)], fmX r⟩ (.out 0) (fmR r [encT a, encT b, encT c])) (hk : r.kind % 9 = 2) : Puk 7 [rawA r] (teA (ap conspB [a])) :=
  pwalk (an := [.av (inA 2), .no, .no, .no, .av (.pin ((encT a).map .dt)), .av (teA (ap conspB [a]))]) (ls := [.inv [1,2,3,4] 2 (.out 0) (fmR r [encT a, encT b, encT c])]) (ps := [Tri EX (.loop (subC (bodyOf Tryd.f7) [1,1,0,1,0,0])) (⟨stt 114 [(1, .ptr 0 0), (2, .ptr 1 0), (3, .nil), (4, inA 0)], fmX r⟩) (.out 0) (fmR r [encT a, encT b, encT c]), Puk 19 [(inA r.kind), (inA 9)] (inA 2), IxAt ([encT a, encT b, encT c]) 0 11 (encT a), Puk 12 [(stA [99, 111, 110, 115, 112]), (.dt (.row [encT a]))] (teA (ap conspB [a]))]) Tryd.func7 (by kernel_rfl) (by kernel_rfl) ⟨ht, (p_mod r.kind 9 (by decide) (by decide)).val (by rw [hk]), (ix3 a b c).1, p_rLisp1 conspB a, trivial⟩
theorem fm_k3 {r : Raw} {a b c : Te} (ht : Tri EX (.loop fmB) ⟨stt 114 [(1, .ptr 0 0), (2, .ptr 1 0), (3, .nil), (4, inA 0)], fmX r⟩ (.out 0) (fmR r [encT a, encT b, encT c])) (hk : r.kind % 9 = 3) : Puk 7 [rawA r] (teA (ap notB [a])) :=
  pwalk (an := [.av (inA 3), .no, .no, .no, .no, .av (.pin ((encT a).map .dt)), .av (teA (ap notB [a]))]) (ls := [.inv [1,2,3,4] 2 (.out 0) (fmR r [encT a, encT b, encT c])]) (ps := [Tri EX (.loop (subC (bodyOf Tryd.f7) [1,1,0,1,0,0])) (⟨stt 114 [(1, .ptr 0 0), (2, .ptr 1 0), (3, .nil), (4, inA 0)], fmX r⟩) (.out 0) (fmR r [encT a, encT b, encT c]), Puk 19 [(inA r.kind), (inA 9)] (inA 3), IxAt ([encT a, encT b, encT c]) 0 11 (encT a), Puk 12 [(stA [110, 111, 116]), (.dt (.row [encT a]))] (teA (ap notB [a]))]) Tryd.func7 (by kernel_rfl) (by kernel_rfl) ⟨ht, (p_mod r.kind 9 (by decide) (by decide)).val (by rw [hk]), (ix3 a b c).1, p_rLisp1 notB a, trivial⟩
theorem fm_k4 {r : Raw} {a b c : Te} (ht : Tri EX (.loop fmB) ⟨stt 114 [(1, .ptr 0 0), (2, .ptr 1 0), (3, .nil), (4, inA 0)], fmX r⟩ (.out 0) (fmR r [encT a, encT b, encT c])) (hk : r.kind % 9 = 4) : Puk 7 [rawA r] (teA (ap impB [a, b])) :=
  pwalk (an := [.av (inA 4), .no, .no, .no, .no, .no, .av (.pin ((encT a).map .dt)), .av (.pin ((encT b).map .dt)), .av (teA (ap impB [a, b]))]) (ls := [.inv [1,2,3,4] 2 (.out 0) (fmR r [encT a, encT b, encT c])]) (ps := [Tri EX (.loop (subC (bodyOf Tryd.f7) [1,1,0,1,0,0])) (⟨stt 114 [(1, .ptr 0 0), (2, .ptr 1 0), (3, .nil), (4, inA 0)], fmX r⟩) (.out 0) (fmR r [encT a, encT b, encT c]), Puk 19 [(inA r.kind), (inA 9)] (inA 4), IxAt ([encT a, encT b, encT c]) 0 11 (encT a), IxAt ([encT a, encT b, encT c]) 1 11 (encT b), Puk 12 [(stA [105, 109, 112, 108, 105, 101, 115]), (.dt (.row [encT a, encT b]))] (teA (ap impB [a, b]))]) Tryd.func7 (by kernel_rfl) (by kernel_rfl) ⟨ht, (p_mod r.kind 9 (by decide) (by decide)).val (by rw [hk]), (ix3 a b c).1, (ix3 a b c).2.1, p_rLisp2 impB a b, trivial⟩
theorem fm_k5 {r : Raw} {a b c : Te} (ht : Tri EX (.loop fmB) ⟨stt 114 [(1, .ptr 0 0), (2, .ptr 1 0), (3, .nil), (4, inA 0)], fmX r⟩ (.out 0) (fmR r [encT a, encT b, encT c])) (hk : r.kind % 9 = 5) : Puk 7 [rawA r] (teA (ap iffB [a, b])) :=
  pwalk (an := [.av (inA 5), .no, .no, .no, .no, .no, .no, .av (.pin ((encT a).map .dt)), .av (.pin ((encT b).map .dt)), .av (teA (ap iffB [a, b]))]) (ls := [.inv [1,2,3,4] 2 (.out 0) (fmR r [encT a, encT b, encT c])]) (ps := [Tri EX (.loop (subC (bodyOf Tryd.f7) [1,1,0,1,0,0])) (⟨stt 114 [(1, .ptr 0 0), (2, .ptr 1 0), (3, .nil), (4, inA 0)], fmX r⟩) (.out 0) (fmR r [encT a, encT b, encT c]), Puk 19 [(inA r.kind), (inA 9)] (inA 5), IxAt ([encT a, encT b, encT c]) 0 11 (encT a), IxAt ([encT a, encT b, encT c]) 1 11 (encT b), Puk 12 [(stA [105, 102, 102]), (.dt (.row [encT a, encT b]))] (teA (ap iffB [a, b]))]) Tryd.func7 (by kernel_rfl) (by kernel_rfl) ⟨ht, (p_mod r.kind 9 (by decide) (by decide)).val (by rw [hk]), (ix3 a b c).1, (ix3 a b c).2.1, p_rLisp2 iffB a b, trivial⟩
theorem fm_k6 {r : Raw} {a b c : Te} (ht : Tri EX (.loop fmB) ⟨stt 114 [(1, .ptr 0 0), (2, .ptr 1 0), (3, .nil), (4, inA 0)], fmX r⟩ (.out 0) (fmR r [encT a, encT b, encT c])) (hk : r.kind % 9 = 6) : Puk 7 [rawA r] (teA (ap equalB [a, b])) :=
  pwalk (an := [.av (inA 6), .no, .no, .no, .no, .no, .no, .no, .av (.pin ((encT a).map .dt)), .av (.pin ((encT b).map .dt)), .av (teA (ap equalB [a, b]))]) (ls := [.inv [1,2,3,4] 2 (.out 0) (fmR r [encT a, encT b, encT c])]) (ps := [Tri EX (.loop (subC (bodyOf Tryd.f7) [1,1,0,1,0,0])) (⟨stt 114 [(1, .ptr 0 0), (2, .ptr 1 0), (3, .nil), (4, inA 0)], fmX r⟩) (.out 0) (fmR r [encT a, encT b, encT c]), Puk 19 [(inA r.kind), (inA 9)] (inA 6), IxAt ([encT a, encT b, encT c]) 0 11 (encT a), IxAt ([encT a, encT b, encT c]) 1 11 (encT b), Puk 12 [(stA [101, 113, 117, 97, 108]), (.dt (.row [encT a, encT b]))] (teA (ap equalB [a, b]))]) Tryd.func7 (by kernel_rfl) (by kernel_rfl) ⟨ht, (p_mod r.kind 9 (by decide) (by decide)).val (by rw [hk]), (ix3 a b c).1, (ix3 a b c).2.1, p_rLisp2 equalB a b, trivial⟩
theorem fm_k7 {r : Raw} {a b c : Te} (ht : Tri EX (.loop fmB) ⟨stt 114 [(1, .ptr 0 0), (2, .ptr 1 0), (3, .nil), (4, inA 0)], fmX r⟩ (.out 0) (fmR r [encT a, encT b, encT c])) (hk : r.kind % 9 = 7) : Puk 7 [rawA r] (teA (ap ifB [a, b, c])) :=
  pwalk (an := [.av (inA 7), .no, .no, .no, .no, .no, .no, .no, .av (.pin ((encT a).map .dt)), .av (.pin ((encT b).map .dt)), .av (.pin ((encT c).map .dt)), .av (teA (ap ifB [a, b, c]))]) (ls := [.inv [1,2,3,4] 2 (.out 0) (fmR r [encT a, encT b, encT c])]) (ps := [Tri EX (.loop (subC (bodyOf Tryd.f7) [1,1,0,1,0,0])) (⟨stt 114 [(1, .ptr 0 0), (2, .ptr 1 0), (3, .nil), (4, inA 0)], fmX r⟩) (.out 0) (fmR r [encT a, encT b, encT c]), Puk 19 [(inA r.kind), (inA 9)] (inA 7), IxAt ([encT a, encT b, encT c]) 0 11 (encT a), IxAt ([encT a, encT b, encT c]) 1 11 (encT b), IxAt ([encT a, encT b, encT c]) 2 11 (encT c), Puk 12 [(stA [105, 102]), (.dt (.row [encT a, encT b, encT c]))] (teA (ap ifB [a, b, c]))]) Tryd.func7 (by kernel_rfl) (by kernel_rfl) ⟨ht, (p_mod r.kind 9 (by decide) (by decide)).val (by rw [hk]), (ix3 a b c).1, (ix3 a b c).2.1, (ix3 a b c).2.2, p_rLisp3 ifB a b c, trivial⟩
theorem fm_k8 {r : Raw} {a b c : Te} (ht : Tri EX (.loop fmB) ⟨stt 114 [(1, .ptr 0 0), (2, .ptr 1 0), (3, .nil), (4, inA 0)], fmX r⟩ (.out 0) (fmR r [encT a, encT b, encT c])) (hk : r.kind % 9 = 8) : Puk 7 [rawA r] (teA (ap ifB [a, b, c])) :=
  pwalk (an := [.av (inA 8), .no, .no, .no, .no, .no, .no, .no, .av (.pin ((encT a).map .dt)), .av (.pin ((encT b).map .dt)), .av (.pin ((encT c).map .dt)), .av (teA (ap ifB [a, b, c]))]) (ls := [.inv [1,2,3,4] 2 (.out 0) (fmR r [encT a, encT b, encT c])]) (ps := [Tri EX (.loop (subC (bodyOf Tryd.f7) [1,1,0,1,0,0])) (⟨stt 114 [(1, .ptr 0 0), (2, .ptr 1 0), (3, .nil), (4, inA 0)], fmX r⟩) (.out 0) (fmR r [encT a, encT b, encT c]), Puk 19 [(inA r.kind), (inA 9)] (inA 8), IxAt ([encT a, encT b, encT c]) 0 11 (encT a), IxAt ([encT a, encT b, encT c]) 1 11 (encT b), IxAt ([encT a, encT b, encT c]) 2 11 (encT c), Puk 12 [(stA [105, 102]), (.dt (.row [encT a, encT b, encT c]))] (teA (ap ifB [a, b, c]))]) Tryd.func7 (by kernel_rfl) (by kernel_rfl) ⟨ht, (p_mod r.kind 9 (by decide) (by decide)).val (by rw [hk]), (ix3 a b c).1, (ix3 a b c).2.1, (ix3 a b c).2.2, p_rLisp3 ifB a b c, trivial⟩
theorem p_fm : ∀ (N : Nat) (r : Raw), r.size ≤ N → Puk 7 [rawA r] (teA (fmT r)) := by
  intro N
  induction N with
  | zero => intro r h; have := r.size_pos; omega
  | succ N ih =>
    intro r hN
    have ht := fm_tri (r := r) fun x hx => ih x (by have := Raw.size_l hx; omega)
    rw [fmT_eq]
    have e : ∀ k, k = r.kind % 9 → r.kind % 9 = k := fun k h => h.symm
    unfold fmK
    generalize fk r.n (r.l.map fmT) 0 = a at *
    generalize fk r.n (r.l.map fmT) 1 = b at *
    generalize fk r.n (r.l.map fmT) 2 = c at *
    have hm := p_mod r.n 3 (by decide) (by decide)
    by_cases h0 : r.kind % 9 = 0
    · rw [if_pos h0]; exact fm_k0 hm (ix_var r.n) ht h0
    rw [if_neg h0]
    by_cases h1 : r.kind % 9 = 1
    · rw [if_pos h1]; exact fm_k1 hm (ix_c3 r.n) ht h1
    rw [if_neg h1]
    by_cases h2 : r.kind % 9 = 2
    · rw [if_pos h2]; exact fm_k2 ht h2
    rw [if_neg h2]
    by_cases h3 : r.kind % 9 = 3
    · rw [if_pos h3]; exact fm_k3 ht h3
    rw [if_neg h3]
    by_cases h4 : r.kind % 9 = 4
    · rw [if_pos h4]; exact fm_k4 ht h4
    rw [if_neg h4]
    by_cases h5 : r.kind % 9 = 5
    · rw [if_pos h5]; exact fm_k5 ht h5
    rw [if_neg h5]
    by_cases h6 : r.kind % 9 = 6
    · rw [if_pos h6]; exact fm_k6 ht h6
    rw [if_neg h6]
    by_cases h7 : r.kind % 9 = 7
    · exact fm_k7 ht h7
    · exact fm_k8 ht (by omega)
/-- the formula of a raw tree is made -/
theorem p_formula (r : Raw) : Puk 7 [rawA r] (teA (fmT r)) := p_fm _ r (Nat.le_refl _)
theorem Te.var_gd (n : List UInt8) : (varT n).Gd := .mk _ zOb_wf (fun e => by cases e.1) (Nat.zero_le _) (fun x hx => by cases hx)
theorem Te.c3_ok (k : Int) : (c3 k).Wf ∧ ((c3 k).kind = 2 ∧ (c3 k).sp = lispB ∧ (c3 k).sn = nilB → c3 k = nilO) := by
  unfold c3
  split
  · exact ⟨symO_wf (by decide) (by decide), fun _ => rfl⟩
  split
  · exact ⟨symO_wf (by decide) (by decide), fun e => by cases e.2.2⟩
  · exact ⟨.mk _ (by decide +kernel) (by decide +kernel) (by decide +kernel) (by decide +kernel) (by decide +kernel) (by decide +kernel) (by decide +kernel) (by decide +kernel) (fun x hx => by cases hx), fun e => by cases e.1⟩
theorem Te.fmT_gd : ∀ (N : Nat) (r : Raw), r.size ≤ N → (fmT r).Gd := by
  intro N
  induction N with
  | zero => intro r h; have := r.size_pos; omega
  | succ N ih =>
    intro r hN
    have hk : ∀ i, (fk r.n (r.l.map fmT) i).Gd := fun i => by
      unfold fk
      rw [List.getElem?_map]
      cases hx : r.l[i]? with
      | some x => exact ih x (by have := Raw.size_l (List.mem_of_getElem? hx); omega)
      | none => exact var_gd _
    rw [fmT_eq]
    unfold fmK
    split
    · exact var_gd _
    split
    · exact .con (c3_ok _).1 (c3_ok _).2
    split
    · exact .ap (by show 1 ≤ 1000; omega) (gd1 (hk 0))
    split
    · exact .ap (by show 1 ≤ 1000; omega) (gd1 (hk 0))
    have g2 : ∀ x ∈ [fk r.n (r.l.map fmT) 0, fk r.n (r.l.map fmT) 1], x.Gd := fun x hx => by
      simp only [List.mem_cons, List.not_mem_nil, or_false] at hx
      rcases hx with rfl | rfl
      · exact hk 0
      · exact hk 1
    split
    · exact .ap (by show 2 ≤ 1000; omega) g2
    split
    · exact .ap (by show 2 ≤ 1000; omega) g2
    split
    · exact .ap (by show 2 ≤ 1000; omega) g2
    · exact .ap (by show 3 ≤ 1000; omega) (gd3 (hk 0) (hk 1) (hk 2))
end Go.Proofs.YtihkbnghdcmhfaaDoor
/- Lists of clauses; the copy of a slice; Add and Union of the code. -/
namespace Go.Proofs.YtihkbnghdcmhfaaDoor
open Go.RowKit
open Te

/-- a clause of Normalize: at most 60 literals -/
def ClsOK (c : List Te) : Prop := c.length ≤ 60 ∧ ∀ x ∈ c, x.Gd
theorem fail_cls {s : NS} (h : ∀ c ∈ s.out, ClsOK c) {c : List Te} (hc : ∀ x ∈ c, x.Gd) : ∀ d ∈ (s.fail id c).out, ClsOK d := by
  unfold NS.fail
  split
  · exact h
  · rename_i hn
    intro d hd
    rcases List.mem_append.1 hd with hd | hd
    · exact h d hd
    · rw [List.mem_singleton] at hd
      subst hd
      exact ⟨by have : ¬ 60 < d.length := fun e => hn (.inl e); omega, hc⟩
theorem negs_gd {qs : List Te} (h : ∀ q ∈ qs, q.Gd) : ∀ x ∈ qs.map neg, x.Gd := fun x hx => by
  obtain ⟨q, hq, rfl⟩ := List.mem_map.1 hx
  exact neg_wf (h q hq)
/-- all clauses of Normalize are so -/
theorem exm_cls : ∀ (f : Nat) (t : Te) (qs : List Te) (s : NS), t.Gd → (∀ q ∈ qs, q.Gd) → (∀ c ∈ s.out, ClsOK c) → ∀ c ∈ (exm id f t qs s).out, ClsOK c
  | 0, _, _, s, _, _, h => by rw [exm]; exact h
  | f + 1, t, qs, s, ht, hq, h => by
    rw [exm]
    split
    · exact h
    have hto : ∀ c ∈ s.tick.out, ClsOK c := h
    split
    · split
      · exact fail_cls hto (negs_gd hq)
      · exact hto
    split
    · rename_i t' ho
      exact exm_cls f t' qs _ (ht.opened ho) hq hto
    split
    · rename_i hi
      have h0 : (t.arg 0).Gd := ht.arg hi (by omega)
      have h1 : (t.arg 1).Gd := ht.arg hi (by omega)
      have h2 : (t.arg 2).Gd := ht.arg hi (by omega)
      split
      · exact exm_cls f _ qs _ h2 hq hto
      split
      · exact exm_cls f _ qs _ h1 hq hto
      split
      · rename_i hn; exact exm_cls f _ qs _ ((h0.arg hn (by omega)).if_ h2 h1) hq hto
      split
      · rename_i hn; exact exm_cls f _ qs _ ((h0.arg hn (show 0 < 3 by omega)).if_ ((h0.arg hn (show 1 < 3 by omega)).if_ h1 h2) ((h0.arg hn (show 2 < 3 by omega)).if_ h1 h2)) hq hto
      split
      · rename_i a' ho; exact exm_cls f _ qs _ ((h0.opened ho).if_ h1 h2) hq hto
      split
      · exact exm_cls f _ qs _ h1 hq hto
      split
      · exact exm_cls f _ qs _ h2 hq hto
      · exact exm_cls f _ _ _ h2 (gd_snoc hq h0.not) (exm_cls f _ _ _ h1 (gd_snoc hq h0) hto)
    · split
      · exact hto
      split
      · exact fail_cls hto (negs_gd hq)
      · exact fail_cls hto (gd_snoc (negs_gd hq) ht)
theorem ix_c {l : List (List Te)} {i : Nat} {c : List Te} (h : l[i]? = some c) : IxAt (l.map encC) (i : Int) 1 (encC c) := ⟨Int.natCast_nonneg _, by
  rw [Int.toNat_natCast, List.getElem?_map, h]
  rfl, rfl⟩
theorem lenC (l : List (List Te)) : Value.int .i64 (l.length : Int) = Value.int .i64 ((l.map encC).length : Int) := by rw [List.length_map]
abbrev smS (l : List (List Te)) (i : Int) : AS := ⟨stt 27 [(0, clsA l), (1, clsA l), (5, inA i)], []⟩
abbrev smN : AS := ⟨stt 27 [], []⟩
noncomputable abbrev smB : Code := subC (bodyOf Tryd.f9) [1, 1, 0, 1, 0, 0]
theorem smB1 {l : List (List Te)} {c : List Te} {i : Nat} (hx : l[i]? = some c) (hl : l.length ≤ 100000) (h : Puk 25 [tesA c, tesA c] (boA true)) : Tri EX smB (smS l i) .nxt (smS l ((i + 1 : Nat) : Int)) :=
  twalk (c := subC (bodyOf Tryd.f9) [1,1,0,1,0,0]) (s := smS l i) (an := [.av (inA l.length), yT, .av (.pin [tesA c]), .av (.pin [tesA c]), yT, .av (inA ((i + 1 : Nat) : Int))]) (ls := []) (ft := [0,1,5]) (nb := 0) (e := .nxt) (s' := smS l ((i + 1 : Nat) : Int)) (ps := [(vi ↑l.length) = (vi (↑(List.map encC l).length)), Bn .lss 3 (.tmp 11) (.tmp 13) (vi ↑i) (vi ↑l.length) bT, IxAt (List.map encC l) ↑i 1 ([(.row (List.map Te.enc c))]), IxAt (List.map encC l) ↑i 1 ([(.row (List.map Te.enc c))]), Puk 25 [(.dt (.row (List.map Te.enc c))), (.dt (.row (List.map Te.enc c)))] (boA true), Bn .add 3 (.tmp 15) (.const (vi 1)) (vi ↑i) (vi 1) (vi (↑(i + 1)))]) (by kernel_rfl)
    ⟨lenC _, bin_ilt (decide_eq_true (by have := (List.getElem?_eq_some_iff.1 hx).1; omega)), ix_c hx, ix_c hx, h, bin_iadd (by omega) (by omega) (by have := (List.getElem?_eq_some_iff.1 hx).1; omega), trivial⟩
theorem smB2 {l : List (List Te)} {i : Nat} (hi : i = l.length) : Tri EX smB (smS l i) (.out 0) smN :=
  twalk (c := subC (bodyOf Tryd.f9) [1,1,0,1,0,0]) (s := smS l i) (an := [.av (inA l.length), yF]) (ls := []) (ft := []) (nb := 0) (e := .out 0) (s' := smN) (ps := [(vi ↑l.length) = (vi (↑(List.map encC l).length)), Bn .lss 3 (.tmp 11) (.tmp 13) (vi ↑i) (vi ↑l.length) bF]) (by kernel_rfl)
    ⟨lenC _, bin_ilt (decide_eq_false (by omega)), trivial⟩
/-- a list of clauses is the same as itself -/
theorem p_same {l : List (List Te)} (hl : l.length ≤ 100000) (h : ∀ c ∈ l, ClsOK c) : Puk 9 [clsA l, clsA l] (boA true) := by
  have loop : ∀ (s : List (List Te)) (i : Nat), l.drop i = s → i ≤ l.length → Lps EX smB (smS l i) (.out 0) smN := by
    intro s
    induction s with
    | nil =>
      intro i hd hi
      have e1 := congrArg List.length hd
      rw [List.length_drop, List.length_nil] at e1
      exact .stop (smB2 (by omega)) (fun h => by cases h)
    | cons c s ih =>
      intro i hd hi
      have hx : l[i]? = some c := by rw [← List.head?_drop, hd]; rfl
      have hlt := (List.getElem?_eq_some_iff.1 hx).1
      obtain ⟨hc1, hc2⟩ := h c (List.mem_of_getElem? hx)
      have he := (p_eqAll (a := c) (b := c) (by omega) fun x hx => (hc2 x hx).wf).b (yesD rfl)
      exact .more (smB1 hx hl he) (ih (i + 1) (by rw [← List.drop_drop, hd]; rfl) (by omega))
  exact pwalk (an := [.av (inA l.length), .av (inA l.length), yF]) (ls := [.inv [0,1,5] 0 (.out 0) (smN)]) (ps := [(vi ↑l.length) = (vi (↑(List.map encC l).length)), (vi ↑l.length) = (vi (↑(List.map encC l).length)), Bn .neq 3 (.tmp 7) (.tmp 9) (vi ↑l.length) (vi ↑l.length) bF, Tri EX (.loop (subC (bodyOf Tryd.f9) [1, 1, 0, 1, 0, 0])) (smS l 0) (.out 0) (smN)]) Tryd.func9 (by kernel_rfl) (by kernel_rfl) ⟨lenC _, lenC _, bin_ine (by simp), (loop l 0 rfl (Nat.zero_le _)).tri, trivial⟩
/-- a function that returns no slice, seen as one that returns a growing row -/
theorem SOK.retNil {P : Program} {G : World → Prop} {f : FuncId} {args : List AV} {T : TypeId} {kk : Nat} (h : SOK P G f args [] .nil []) : SOK P G f args [] (.own 0 0) [some (.buf T kk [])] := by
  refine ⟨h.1, fun X M w vs hG hS hargs => (h.2 X M w vs hG hS hargs).mono ?_⟩
  rintro e w' ⟨v, M', h1, h2, h3, h4, h5⟩
  have hk : lk [] 0 = none := rfl
  refine ⟨v, M'.own0 0, h1, h2.trans (go_own0 h3 hk), ?_, h4, rv_own0 h5⟩
  have := sto_own0 h3 h2.below.size hk T kk
  rwa [show updX1 (lk []) 0 (.buf T kk []) = lk [some (.buf T kk [])] from funext fun b => by
    match b with
    | 0 => rfl
    | b + 1 => rfl] at this
/-- an empty slice: nil, or behind a pointer -/
theorem SOK.empty {P : Program} {G : World → Prop} {f : FuncId} {xs xs' : List (Option Bx)} {r : AV} (h0 : ∀ c, SOK P G f [.dt (.val (.slice none 0 c))] xs r xs') (h1 : ∀ A c, SOK P G f [.dt (.val (.slice (some A) 0 c))] xs r xs') : SOK P G f [.dt (.row [])] xs r xs' := by
  refine ⟨(h0 0).1, fun X M w vs hG hS hargs => ?_⟩
  obtain ⟨v, us, rfl, hv, hu⟩ := hargs
  obtain rfl : us = [] := hu
  have hv : Rd M.F w v (.row []) := hv
  cases hv with
  | nil A c =>
    cases A with
    | none => exact (h0 c).2 X M w _ hG hS ⟨_, [], rfl, Rd.val _, rfl⟩
    | some A => exact (h1 A c).2 X M w _ hG hS ⟨_, [], rfl, Rd.val _, rfl⟩
  | row b o n c k l f hn h0 => cases hn; exact absurd h0 (Nat.lt_irrefl _)
theorem bin_nil {t e : TypeId} {x y : Operand} {A : Option Addr} {n c : Nat} (hu : Tryd.prog.underlying t = some (.slice e)) : Bn .eql t x y (.slice A n c) (.slice none 0 0) (.bool A.isNone) := by
  intro w
  have := Lib.run_eql_slice_nil (P := Tryd.prog) w t e A n c 0 0 hu
  simp only [eqGuard, Sem.run_bind, Sem.run_pure, Result.andThen, Bool.not_true, Bool.false_eq_true, if_false, this]
theorem fitM0 : FitM 0 0 := ⟨by decide, by decide, by decide⟩
theorem p_clone0 : Suk 63 [.dt (.row [])] [] (.own 0 0) [some (.buf 38 11 [])] :=
  .empty (fun c => .retNil (psw (n := 0) (ks := []) (an := [yT]) (ls := []) (ps := [Bn .eql 46 (.tmp 3) (.const (Value.slice none 0 0)) (Value.slice none 0 c) (Value.slice none 0 0) bT]) Tryd.func63 (by kernel_rfl) (by kernel_rfl) ⟨bin_nil (e := 38) (by kernel_rfl), trivial⟩))
    fun A c => psw (n := 0) (ks := [0]) (an := [yF, .no]) (ls := []) (ps := [Bn .eql 46 (.tmp 3) (.const (Value.slice none 0 0)) (Value.slice (some A) 0 c) (Value.slice none 0 0) bF, FitM 0 0]) Tryd.func63 (by kernel_rfl) (by kernel_rfl) ⟨bin_nil (e := 38) (by kernel_rfl), fitM0, trivial⟩
theorem p_clone {es : List (List Dt)} (h0 : es ≠ []) (hl : es.length ≤ 1000) (hs : SrcOK 11 es) : Suk 63 [.dt (.row es)] [] (.own 0 es.length) [some (.buf 38 11 es)] :=
  psw (n := 0) (ks := [0]) (an := [.no, .av (.un)]) (ls := []) (ps := [es ≠ [], FitM 0 0, 0 = 0, FitB 176 (([] ++ es).length), SrcOK 11 es]) Tryd.func63 (by kernel_rfl) (by kernel_rfl) ⟨h0, fitM0, rfl, fit_of (by omega) (by rw [List.nil_append]; omega), hs, trivial⟩
theorem p_cloneA0 : Suk 78 [.dt (.row [])] [] (.own 0 0) [some (.buf 102 13 [])] :=
  .empty (fun c => .retNil (psw (n := 0) (ks := []) (an := [yT]) (ls := []) (ps := [Bn .eql 85 (.tmp 3) (.const (Value.slice none 0 0)) (Value.slice none 0 c) (Value.slice none 0 0) bT]) Tryd.func78 (by kernel_rfl) (by kernel_rfl) ⟨bin_nil (e := 102) (by kernel_rfl), trivial⟩))
    fun A c => psw (n := 0) (ks := [0]) (an := [yF, .no]) (ls := []) (ps := [Bn .eql 85 (.tmp 3) (.const (Value.slice none 0 0)) (Value.slice (some A) 0 c) (Value.slice none 0 0) bF, FitM 0 0]) Tryd.func78 (by kernel_rfl) (by kernel_rfl) ⟨bin_nil (e := 102) (by kernel_rfl), fitM0, trivial⟩
end Go.Proofs.YtihkbnghdcmhfaaDoor
/- Add, Union, Tautology and Subsumes of the code on small clauses. -/
namespace Go.Proofs.YtihkbnghdcmhfaaDoor
open Go.RowKit
open Te

theorem wfs1 {p : Te} (hp : p.Gd) : ∀ x ∈ [p], x.Wf := fun x hx => by rw [List.mem_singleton] at hx; subst hx; exact hp.wf
theorem wfs2 {p q : Te} (hp : p.Gd) (hq : q.Gd) : ∀ x ∈ [p, q], x.Wf := fun x hx => by
  simp only [List.mem_cons, List.not_mem_nil, or_false] at hx
  rcases hx with rfl | rfl
  · exact hp.wf
  · exact hq.wf
abbrev contF : FuncId := 35
theorem cont0 (t : Te) : Puk contF [.dt (.row []), teA t] (boA false) := (p_cont (c := []) (by decide) (fun x hx => by cases hx) t).b (noD (by simp))
theorem cont1 {p t : Te} (hp : p.Gd) {b : Bool} (h : decide (t ∈ [p]) = b) : Puk contF [.dt (.row [encT p]), teA t] (boA b) := by
  rw [row1]
  exact (p_cont (c := [p]) (by show 1 ≤ _; omega) (wfs1 hp) t).b h
theorem cont2 {p q t : Te} (hp : p.Gd) (hq : q.Gd) {b : Bool} (h : decide (t ∈ [p, q]) = b) : Puk contF [.dt (.row [encT p, encT q]), teA t] (boA b) := by
  rw [row2]
  exact (p_cont (c := [p, q]) (by show 2 ≤ _; omega) (wfs2 hp hq) t).b h
theorem p_add0 (p : Te) : Puk 39 [.dt (.row []), .dt (.row [encT p])] (.dt (.row [encT p])) :=
  pwalk (an := [.no, .no, .no, yF, .no, .no, .no]) (ls := [.scl 1 1 [] (.own 0 0) [some (.buf 38 11 [])], .run 2]) (ps := [Suk 63 [AV.dt (Dt.row [])] [] (AV.own 0 0) [some (Bx.buf 38 11 [])], Puk 35 [(.dt (.row [])), (teA p)] (boA false), 0 = 0, 1 = 1]) Tryd.func39 (by kernel_rfl) (by kernel_rfl) ⟨p_clone0, cont0 p, rfl, rfl, trivial⟩
theorem p_add1 {p q : Te} (hp : p.Gd) (hq : q.Gd) (hne : q ≠ p) : Puk 39 [.dt (.row [encT p]), .dt (.row [encT q, encT p])] (.dt (.row [encT p, encT q])) :=
  pwalk (an := [.no, .no, .no, yF, .no, .no, .no, .no, yT, .no, .no]) (ls := [.scl 1 1 [] (.own 0 1) [some (.buf 38 11 [encT p])], .run 3]) (ps := [Suk 63 [AV.dt (Dt.row [encT p])] [] (AV.own 0 1) [some (Bx.buf 38 11 [encT p])], Puk 35 [(.dt (.row [encT p])), (teA q)] (boA false), 1 = 1, Puk 35 [(.dt (.row [encT p, encT q])), (teA p)] (boA true), 2 = 2, 2 = 2]) Tryd.func39 (by kernel_rfl) (by kernel_rfl) ⟨p_clone (by simp) (by simp) (src_te1 p), cont1 hp (noD (by simp [hne])), rfl, cont2 hp hq (yesD (by simp)), rfl, rfl, trivial⟩
theorem p_union {p q : Te} (hp : p.Gd) (hq : q.Gd) (hne : q ≠ p) : Puk 16 [.dt (.row [[.row [encT p]], [.row [encT q, encT p]]])] (.dt (.row [encT p, encT q])) :=
  pwalk (an := [.no, .no, .no, .av (.dt (.row [encT p])), .no, .no, .no, .av (.dt (.row [encT p, encT q])), .no, .no]) (ls := [.run 3]) (ps := [Puk 39 [(.dt (.row [])), (.dt (.row [encT p]))] (.dt (.row [encT p])), Puk 39 [(.dt (.row [encT p])), (.dt (.row [encT q, encT p]))] (.dt (.row [encT p, encT q]))]) Tryd.func16 (by kernel_rfl) (by kernel_rfl) ⟨p_add0 p, p_add1 hp hq hne, trivial⟩
end Go.Proofs.YtihkbnghdcmhfaaDoor
