/- The code's normalizer: 'examine' and 'choose', walked. -/
import Derived.Test.YtihkbnghdcmhfaaDoorNG
namespace Go.Proofs.YtihkbnghdcmhfaaDoor
open Go.RowKit
open Te

theorem p_clip (qs : List Te) (hl : qs.length ≤ 9223372036854775807) : Puk 64 [tesA qs] (.ful (encTs qs)) :=
  walkF (E := EX) (fun _ _ h hb => h.below hb) Tryd.func64 (by kernel_rfl) (an := [.av (inA qs.length), .av (inA qs.length), .av (.dt (.row (qs.map Te.enc)))]) (ls := []) (ps := [(vi ↑qs.length) = (vi (↑(List.map Te.enc qs).length)), (vi ↑qs.length) = (vi (↑(List.map Te.enc qs).length)), SlcOK (List.map Te.enc qs) 11 ((none : Option Int).getD 0) ((some (qs.length : Int)).getD ((List.map Te.enc qs).length : Int)) (List.map Te.enc qs), (some (qs.length : Int)) = (none : Option Int) ∨ (some (qs.length : Int)) = (some (qs.length : Int))]) (by kernel_rfl)
    ⟨lenEncT _, lenEncT _, ⟨Int.le_refl _, by show (0 : Int) ≤ (qs.length : Int); omega, by show (qs.length : Int) ≤ _; rw [List.length_map]; omega, by
      show _ = List.drop 0 (List.take ((qs.length : Int)).toNat _)
      rw [Int.toNat_natCast, List.drop_zero, List.take_of_length_le (by rw [List.length_map]; omega)], .inl rfl⟩, .inr rfl, trivial⟩
theorem enc_snoc (qs : List Te) (a : Te) : encTs qs ++ [encT a] = encTs (qs ++ [a]) := by rw [row1]; exact List.map_append.symm
theorem ex_fail {P : Program} {G : World → Prop} {f : FuncId} {qs : List Te} {t : Te} {xs xs' : List (Option Bx)} {r : AV} (h : SOK P G f [.ptr 0 0, tesA qs, tesA [t]] xs r xs') : SOK P G f [.ptr 0 0, tesA qs, .dt (.row [encT t])] xs r xs' := by
  rw [row1]; exact h
theorem w_ex1 {t : Te} {qs : List Te} {cs : List (List Dt)} {ex er : Int} (hx0 : 0 ≤ ex) (hx1 : ex ≤ 100000) (hx : 20000 ≤ ex) : Suk 18 [.ptr 0 0, teA t, tesA qs] (bxN cs ex er) (.tup []) (bxN cs (ex + 1) 2) :=
  psw (n := 2) (ks := [0, 1]) (an := [.av (inA (ex + 1)), yT, yT]) (ls := []) (ps := [Bn .add 3 (.tmp 11) (.const (vi 1)) (vi ex) (vi 1) (vi (ex + 1)), Bn .gtr 3 (.tmp 18) (.const (vi 20000)) (vi (ex + 1)) (vi 20000) bT, Bn .neq 28 (.tmp 26) (.const (vi 0)) (vi 2) (vi 0) bT]) Tryd.func18 (by kernel_rfl) (by kernel_rfl) ⟨bin_iadd rfl (by omega) (by omega), bin_igt (decide_eq_true (by omega)), bin_ine rfl, trivial⟩
theorem w_ex2 {t : Te} {qs : List Te} {cs : List (List Dt)} {ex er : Int} (hx0 : 0 ≤ ex) (hx1 : ex ≤ 100000) (hx : ex < 20000) (he : er ≠ 0) : Suk 18 [.ptr 0 0, teA t, tesA qs] (bxN cs ex er) (.tup []) (bxN cs (ex + 1) er) :=
  psw (n := 2) (ks := [0, 1]) (an := [.av (inA (ex + 1)), yF, yT]) (ls := []) (ps := [Bn .add 3 (.tmp 11) (.const (vi 1)) (vi ex) (vi 1) (vi (ex + 1)), Bn .gtr 3 (.tmp 18) (.const (vi 20000)) (vi (ex + 1)) (vi 20000) bF, Bn .neq 28 (.tmp 26) (.const (vi 0)) (vi er) (vi 0) bT]) Tryd.func18 (by kernel_rfl) (by kernel_rfl) ⟨bin_iadd rfl (by omega) (by omega), bin_igt (decide_eq_false (by omega)), bin_ine (by simp [he]), trivial⟩
theorem w_ex3 {t : Te} {qs : List Te} {cs : List (List Dt)} {ex er : Int} {cs' : List (List Dt)} {ex' er' : Int} (hx0 : 0 ≤ ex) (hx1 : ex ≤ 100000) (hx : ex < 20000) (he : er = 0) (hk : t.kind = 2) (hn : Puk 31 [obA t.val] (boA true)) (hc : Suk 40 [.ptr 0 0, tesA qs, tesA []] (bxN cs (ex + 1) er) (.tup []) (bxN cs' ex' er'))  : Suk 18 [.ptr 0 0, teA t, tesA qs] (bxN cs ex er) (.tup []) (bxN cs' ex' er') :=
  psw (n := 2) (ks := [0, 1]) (an := [.av (inA (ex + 1)), yF, yF, yT, yT]) (ls := [.scl 7 2 [0, 1] (.tup []) [some (.cells [.own 1 cs'.length, inA ex', inA er']), some (.buf 46 1 cs')]]) (ps := [Bn .add 3 (.tmp 11) (.const (vi 1)) (vi ex) (vi 1) (vi (ex + 1)), Bn .gtr 3 (.tmp 18) (.const (vi 20000)) (vi (ex + 1)) (vi 20000) bF, Bn .neq 28 (.tmp 26) (.const (vi 0)) (vi er) (vi 0) bF, Bn .eql 3 (.tmp 29) (.const (vi 2)) (vi t.kind) (vi 2) bT, Puk 31 [(obA t.val)] (boA true), Suk 40 [AV.ptr 0 0, AV.dt (Dt.row (List.map Te.enc qs)), AV.dt (Dt.row [])] [some (Bx.cells [AV.own 1 cs.length, AV.dt (Dt.val (vi (ex + 1))), AV.dt (Dt.val (vi er))]), some (Bx.buf 46 1 cs)] (AV.tup []) [some (Bx.cells [AV.own 1 cs'.length, inA ex', inA er']), some (Bx.buf 46 1 cs')]]) Tryd.func18 (by kernel_rfl) (by kernel_rfl) ⟨bin_iadd rfl (by omega) (by omega), bin_igt (decide_eq_false (by omega)), bin_ine (by simp [he]), bin_ieq (by simp [hk]), hn, hc, trivial⟩
theorem w_ex4 {t : Te} {qs : List Te} {cs : List (List Dt)} {ex er : Int} (hx0 : 0 ≤ ex) (hx1 : ex ≤ 100000) (hx : ex < 20000) (he : er = 0) (hk : t.kind = 2) (hn : Puk 31 [obA t.val] (boA false)) : Suk 18 [.ptr 0 0, teA t, tesA qs] (bxN cs ex er) (.tup []) (bxN cs (ex + 1) er) :=
  psw (n := 2) (ks := [0, 1]) (an := [.av (inA (ex + 1)), yF, yF, yT, yF]) (ls := []) (ps := [Bn .add 3 (.tmp 11) (.const (vi 1)) (vi ex) (vi 1) (vi (ex + 1)), Bn .gtr 3 (.tmp 18) (.const (vi 20000)) (vi (ex + 1)) (vi 20000) bF, Bn .neq 28 (.tmp 26) (.const (vi 0)) (vi er) (vi 0) bF, Bn .eql 3 (.tmp 29) (.const (vi 2)) (vi t.kind) (vi 2) bT, Puk 31 [(obA t.val)] (boA false)]) Tryd.func18 (by kernel_rfl) (by kernel_rfl) ⟨bin_iadd rfl (by omega) (by omega), bin_igt (decide_eq_false (by omega)), bin_ine (by simp [he]), bin_ieq (by simp [hk]), hn, trivial⟩
theorem w_ex5 {t : Te} {qs : List Te} {cs : List (List Dt)} {ex er : Int} {cs' : List (List Dt)} {ex' er' : Int} {a : Te} (hx0 : 0 ≤ ex) (hx1 : ex ≤ 100000) (hx : ex < 20000) (he : er = 0) (hk : t.kind ≠ 2) (hn : opened t = some a) (hc : Suk 18 [.ptr 0 0, teA a, tesA qs] (bxN cs (ex + 1) er) (.tup []) (bxN cs' ex' er'))  : Suk 18 [.ptr 0 0, teA t, tesA qs] (bxN cs ex er) (.tup []) (bxN cs' ex' er') :=
  psw (n := 2) (ks := [0, 1]) (an := [.av (inA (ex + 1)), yF, yF, yF, .av (.tup [teA a, boA true])]) (ls := [.scl 10 3 [0, 1] (.tup []) [some (.cells [.own 1 cs'.length, inA ex', inA er']), some (.buf 46 1 cs')]]) (ps := [Bn .add 3 (.tmp 11) (.const (vi 1)) (vi ex) (vi 1) (vi (ex + 1)), Bn .gtr 3 (.tmp 18) (.const (vi 20000)) (vi (ex + 1)) (vi 20000) bF, Bn .neq 28 (.tmp 26) (.const (vi 0)) (vi er) (vi 0) bF, Bn .eql 3 (.tmp 29) (.const (vi 2)) (vi t.kind) (vi 2) bF, Puk 41 [(teA t)] (.tup [(teA a), (boA true)]), Suk 18 [AV.ptr 0 0, teA a, AV.dt (Dt.row (List.map Te.enc qs))] [some (Bx.cells [AV.own 1 cs.length, AV.dt (Dt.val (vi (ex + 1))), AV.dt (Dt.val (vi er))]), some (Bx.buf 46 1 cs)] (AV.tup []) [some (Bx.cells [AV.own 1 cs'.length, inA ex', inA er']), some (Bx.buf 46 1 cs')]]) Tryd.func18 (by kernel_rfl) (by kernel_rfl) ⟨bin_iadd rfl (by omega) (by omega), bin_igt (decide_eq_false (by omega)), bin_ine (by simp [he]), bin_ieq (by simp [hk]), (p_opened t).val (by rw [hn]), hc, trivial⟩
theorem w_ex6 {t : Te} {qs : List Te} {cs : List (List Dt)} {ex er : Int} {cs' : List (List Dt)} {ex' er' : Int} {a d e : Te} (hx0 : 0 ≤ ex) (hx1 : ex ≤ 100000) (hx : ex < 20000) (he : er = 0) (hk : t.kind ≠ 2) (hn : opened t = none) (hi : is t ifB 3) (h0 : t.args[0]? = some a) (h1 : t.args[1]? = some d) (h2 : t.args[2]? = some e) (hc : Suk 42 [.ptr 0 0, teA a, teA d, teA e, tesA qs] (bxN cs (ex + 1) er) (.tup []) (bxN cs' ex' er'))  : Suk 18 [.ptr 0 0, teA t, tesA qs] (bxN cs ex er) (.tup []) (bxN cs' ex' er') :=
  psw (n := 2) (ks := [0, 1]) (an := [.av (inA (ex + 1)), yF, yF, yF, .av (.tup [teA zTe, boA false]), yT, .av (.pin ((encT a).map .dt)), .av (.pin ((encT d).map .dt)), .av (.pin ((encT e).map .dt))]) (ls := [.scl 12 14 [0, 1] (.tup []) [some (.cells [.own 1 cs'.length, inA ex', inA er']), some (.buf 46 1 cs')]]) (ps := [Bn .add 3 (.tmp 11) (.const (vi 1)) (vi ex) (vi 1) (vi (ex + 1)), Bn .gtr 3 (.tmp 18) (.const (vi 20000)) (vi (ex + 1)) (vi 20000) bF, Bn .neq 28 (.tmp 26) (.const (vi 0)) (vi er) (vi 0) bF, Bn .eql 3 (.tmp 29) (.const (vi 2)) (vi t.kind) (vi 2) bF, Puk 41 [(teA t)] (.tup [(.agg [(inA 0), (stA zTe.np), (stA zTe.nn), (inA 0), (stA zTe.val.num), (stA zTe.val.den), (stA zTe.val.sp), (stA zTe.val.sn), (stA zTe.val.text), (.dt (.row (List.map Ob.enc zTe.val.pair))), (.dt (.row (List.map Te.enc zTe.args)))]), (boA false)]), Puk 32 [(teA t), (stA [105, 102]), (inA 3)] (boA true), IxAt (List.map Te.enc t.args) 0 11 (encT a), IxAt (List.map Te.enc t.args) 1 11 (encT d), IxAt (List.map Te.enc t.args) 2 11 (encT e), Suk 42 [AV.ptr 0 0, teA a, teA d, teA e, AV.dt (Dt.row (List.map Te.enc qs))] [some (Bx.cells [AV.own 1 cs.length, AV.dt (Dt.val (vi (ex + 1))), AV.dt (Dt.val (vi er))]), some (Bx.buf 46 1 cs)] (AV.tup []) [some (Bx.cells [AV.own 1 cs'.length, inA ex', inA er']), some (Bx.buf 46 1 cs')]]) Tryd.func18 (by kernel_rfl) (by kernel_rfl) ⟨bin_iadd rfl (by omega) (by omega), bin_igt (decide_eq_false (by omega)), bin_ine (by simp [he]), bin_ieq (by simp [hk]), (p_opened t).val (by rw [hn]), (p_is t ifB 3).b (yesD hi), ix_te h0, ix_te h1, ix_te h2, hc, trivial⟩
theorem w_ex7 {t : Te} {qs : List Te} {cs : List (List Dt)} {ex er : Int} (hx0 : 0 ≤ ex) (hx1 : ex ≤ 100000) (hx : ex < 20000) (he : er = 0) (hk : t.kind ≠ 2) (hn : opened t = none) (hi : ¬ is t ifB 3) (hl : qs.length ≤ 9223372036854775807) (hq : ∀ q ∈ qs, q.Wf) (hm : t ∈ qs) : Suk 18 [.ptr 0 0, teA t, tesA qs] (bxN cs ex er) (.tup []) (bxN cs (ex + 1) er) :=
  psw (n := 2) (ks := [0, 1]) (an := [.av (inA (ex + 1)), yF, yF, yF, .av (.tup [teA zTe, boA false]), yF, yT]) (ls := []) (ps := [Bn .add 3 (.tmp 11) (.const (vi 1)) (vi ex) (vi 1) (vi (ex + 1)), Bn .gtr 3 (.tmp 18) (.const (vi 20000)) (vi (ex + 1)) (vi 20000) bF, Bn .neq 28 (.tmp 26) (.const (vi 0)) (vi er) (vi 0) bF, Bn .eql 3 (.tmp 29) (.const (vi 2)) (vi t.kind) (vi 2) bF, Puk 41 [(teA t)] (.tup [(.agg [(inA 0), (stA zTe.np), (stA zTe.nn), (inA 0), (stA zTe.val.num), (stA zTe.val.den), (stA zTe.val.sp), (stA zTe.val.sn), (stA zTe.val.text), (.dt (.row (List.map Ob.enc zTe.val.pair))), (.dt (.row (List.map Te.enc zTe.args)))]), (boA false)]), Puk 32 [(teA t), (stA [105, 102]), (inA 3)] (boA false), Puk 35 [(.dt (.row (List.map Te.enc qs))), (teA t)] (boA true)]) Tryd.func18 (by kernel_rfl) (by kernel_rfl) ⟨bin_iadd rfl (by omega) (by omega), bin_igt (decide_eq_false (by omega)), bin_ine (by simp [he]), bin_ieq (by simp [hk]), (p_opened t).val (by rw [hn]), (p_is t ifB 3).b (noD hi), (p_cont hl hq t).b (yesD hm), trivial⟩
theorem w_ex8 {t : Te} {qs : List Te} {cs : List (List Dt)} {ex er : Int} {cs' : List (List Dt)} {ex' er' : Int} (hx0 : 0 ≤ ex) (hx1 : ex ≤ 100000) (hx : ex < 20000) (he : er = 0) (hk : t.kind ≠ 2) (hn : opened t = none) (hi : ¬ is t ifB 3) (hl : qs.length ≤ 9223372036854775807) (hq : ∀ q ∈ qs, q.Wf) (hm : t ∉ qs) (hm2 : ap notB [t] ∈ qs) (hc : Suk 40 [.ptr 0 0, tesA qs, tesA []] (bxN cs (ex + 1) er) (.tup []) (bxN cs' ex' er'))  : Suk 18 [.ptr 0 0, teA t, tesA qs] (bxN cs ex er) (.tup []) (bxN cs' ex' er') :=
  psw (n := 2) (ks := [0, 1]) (an := [.av (inA (ex + 1)), yF, yF, yF, .av (.tup [teA zTe, boA false]), yF, yF, .av (teA (ap notB [t])), yT]) (ls := [.scl 16 2 [0, 1] (.tup []) [some (.cells [.own 1 cs'.length, inA ex', inA er']), some (.buf 46 1 cs')]]) (ps := [Bn .add 3 (.tmp 11) (.const (vi 1)) (vi ex) (vi 1) (vi (ex + 1)), Bn .gtr 3 (.tmp 18) (.const (vi 20000)) (vi (ex + 1)) (vi 20000) bF, Bn .neq 28 (.tmp 26) (.const (vi 0)) (vi er) (vi 0) bF, Bn .eql 3 (.tmp 29) (.const (vi 2)) (vi t.kind) (vi 2) bF, Puk 41 [(teA t)] (.tup [(.agg [(inA 0), (stA zTe.np), (stA zTe.nn), (inA 0), (stA zTe.val.num), (stA zTe.val.den), (stA zTe.val.sp), (stA zTe.val.sn), (stA zTe.val.text), (.dt (.row (List.map Ob.enc zTe.val.pair))), (.dt (.row (List.map Te.enc zTe.args)))]), (boA false)]), Puk 32 [(teA t), (stA [105, 102]), (inA 3)] (boA false), Puk 35 [(.dt (.row (List.map Te.enc qs))), (teA t)] (boA false), Puk 36 [(stA [110, 111, 116]), (.dt (.row [encT t]))] (teA (ap notB [t])), Puk 35 [(.dt (.row (List.map Te.enc qs))), (teA (ap notB [t]))] (boA true), Suk 40 [AV.ptr 0 0, AV.dt (Dt.row (List.map Te.enc qs)), AV.dt (Dt.row [])] [some (Bx.cells [AV.own 1 cs.length, AV.dt (Dt.val (vi (ex + 1))), AV.dt (Dt.val (vi er))]), some (Bx.buf 46 1 cs)] (AV.tup []) [some (Bx.cells [AV.own 1 cs'.length, inA ex', inA er']), some (Bx.buf 46 1 cs')]]) Tryd.func18 (by kernel_rfl) (by kernel_rfl) ⟨bin_iadd rfl (by omega) (by omega), bin_igt (decide_eq_false (by omega)), bin_ine (by simp [he]), bin_ieq (by simp [hk]), (p_opened t).val (by rw [hn]), (p_is t ifB 3).b (noD hi), (p_cont hl hq t).b (noD hm), p_tLisp1 notB t, (p_cont hl hq (ap notB [t])).b (yesD hm2), hc, trivial⟩
theorem w_ex9 {t : Te} {qs : List Te} {cs : List (List Dt)} {ex er : Int} {cs' : List (List Dt)} {ex' er' : Int} (hx0 : 0 ≤ ex) (hx1 : ex ≤ 100000) (hx : ex < 20000) (he : er = 0) (hk : t.kind ≠ 2) (hn : opened t = none) (hi : ¬ is t ifB 3) (hl : qs.length ≤ 9223372036854775807) (hq : ∀ q ∈ qs, q.Wf) (hm : t ∉ qs) (hm2 : ap notB [t] ∉ qs) (hc : Suk 40 [.ptr 0 0, tesA qs, tesA [t]] (bxN cs (ex + 1) er) (.tup []) (bxN cs' ex' er'))  : Suk 18 [.ptr 0 0, teA t, tesA qs] (bxN cs ex er) (.tup []) (bxN cs' ex' er') :=
  psw (n := 2) (ks := [0, 1]) (an := [.av (inA (ex + 1)), yF, yF, yF, .av (.tup [teA zTe, boA false]), yF, yF, .av (teA (ap notB [t])), yF]) (ls := [.scl 13 4 [0, 1] (.tup []) [some (.cells [.own 1 cs'.length, inA ex', inA er']), some (.buf 46 1 cs')]]) (ps := [Bn .add 3 (.tmp 11) (.const (vi 1)) (vi ex) (vi 1) (vi (ex + 1)), Bn .gtr 3 (.tmp 18) (.const (vi 20000)) (vi (ex + 1)) (vi 20000) bF, Bn .neq 28 (.tmp 26) (.const (vi 0)) (vi er) (vi 0) bF, Bn .eql 3 (.tmp 29) (.const (vi 2)) (vi t.kind) (vi 2) bF, Puk 41 [(teA t)] (.tup [(.agg [(inA 0), (stA zTe.np), (stA zTe.nn), (inA 0), (stA zTe.val.num), (stA zTe.val.den), (stA zTe.val.sp), (stA zTe.val.sn), (stA zTe.val.text), (.dt (.row (List.map Ob.enc zTe.val.pair))), (.dt (.row (List.map Te.enc zTe.args)))]), (boA false)]), Puk 32 [(teA t), (stA [105, 102]), (inA 3)] (boA false), Puk 35 [(.dt (.row (List.map Te.enc qs))), (teA t)] (boA false), Puk 36 [(stA [110, 111, 116]), (.dt (.row [encT t]))] (teA (ap notB [t])), Puk 35 [(.dt (.row (List.map Te.enc qs))), (teA (ap notB [t]))] (boA false), Suk 40 [AV.ptr 0 0, AV.dt (Dt.row (List.map Te.enc qs)), AV.dt (Dt.row ([encT t]))] [some (Bx.cells [AV.own 1 cs.length, AV.dt (Dt.val (vi (ex + 1))), AV.dt (Dt.val (vi er))]), some (Bx.buf 46 1 cs)] (AV.tup []) [some (Bx.cells [AV.own 1 cs'.length, inA ex', inA er']), some (Bx.buf 46 1 cs')]]) Tryd.func18 (by kernel_rfl) (by kernel_rfl) ⟨bin_iadd rfl (by omega) (by omega), bin_igt (decide_eq_false (by omega)), bin_ine (by simp [he]), bin_ieq (by simp [hk]), (p_opened t).val (by rw [hn]), (p_is t ifB 3).b (noD hi), (p_cont hl hq t).b (noD hm), p_tLisp1 notB t, (p_cont hl hq (ap notB [t])).b (noD hm2), ex_fail hc, trivial⟩
theorem w_c1 {a d e : Te} {qs : List Te} {cs : List (List Dt)} {ex er : Int} {cs' : List (List Dt)} {ex' er' : Int} (hk : a.kind = 2) (hn : Puk 31 [obA a.val] (boA true)) (hc : Suk 18 [.ptr 0 0, teA e, tesA qs] (bxN cs ex er) (.tup []) (bxN cs' ex' er'))  : Suk 42 [.ptr 0 0, teA a, teA d, teA e, tesA qs] (bxN cs ex er) (.tup []) (bxN cs' ex' er') :=
  psw (n := 2) (ks := [0, 1]) (an := [.av (teA (ap notB [a])), yT, yT]) (ls := [.scl 3 3 [0, 1] (.tup []) [some (.cells [.own 1 cs'.length, inA ex', inA er']), some (.buf 46 1 cs')]]) (ps := [Puk 36 [(stA [110, 111, 116]), (.dt (.row [encT a]))] (teA (ap notB [a])), Bn .eql 3 (.tmp 18) (.const (vi 2)) (vi a.kind) (vi 2) bT, Puk 31 [(obA a.val)] (boA true), Suk 18 [AV.ptr 0 0, teA e, AV.dt (Dt.row (List.map Te.enc qs))] [some (Bx.cells [AV.own 1 cs.length, AV.dt (Dt.val (vi ex)), AV.dt (Dt.val (vi er))]), some (Bx.buf 46 1 cs)] (AV.tup []) [some (Bx.cells [AV.own 1 cs'.length, inA ex', inA er']), some (Bx.buf 46 1 cs')]]) Tryd.func42 (by kernel_rfl) (by kernel_rfl) ⟨p_tLisp1 notB a, bin_ieq (by simp [hk]), hn, hc, trivial⟩
theorem w_c2 {a d e : Te} {qs : List Te} {cs : List (List Dt)} {ex er : Int} {cs' : List (List Dt)} {ex' er' : Int} (hk : a.kind = 2) (hn : Puk 31 [obA a.val] (boA false)) (hc : Suk 18 [.ptr 0 0, teA d, tesA qs] (bxN cs ex er) (.tup []) (bxN cs' ex' er'))  : Suk 42 [.ptr 0 0, teA a, teA d, teA e, tesA qs] (bxN cs ex er) (.tup []) (bxN cs' ex' er') :=
  psw (n := 2) (ks := [0, 1]) (an := [.av (teA (ap notB [a])), yT, yF, yT]) (ls := [.scl 5 3 [0, 1] (.tup []) [some (.cells [.own 1 cs'.length, inA ex', inA er']), some (.buf 46 1 cs')]]) (ps := [Puk 36 [(stA [110, 111, 116]), (.dt (.row [encT a]))] (teA (ap notB [a])), Bn .eql 3 (.tmp 18) (.const (vi 2)) (vi a.kind) (vi 2) bT, Puk 31 [(obA a.val)] (boA false), Bn .eql 3 (.tmp 31) (.const (vi 2)) (vi a.kind) (vi 2) bT, Suk 18 [AV.ptr 0 0, teA d, AV.dt (Dt.row (List.map Te.enc qs))] [some (Bx.cells [AV.own 1 cs.length, AV.dt (Dt.val (vi ex)), AV.dt (Dt.val (vi er))]), some (Bx.buf 46 1 cs)] (AV.tup []) [some (Bx.cells [AV.own 1 cs'.length, inA ex', inA er']), some (Bx.buf 46 1 cs')]]) Tryd.func42 (by kernel_rfl) (by kernel_rfl) ⟨p_tLisp1 notB a, bin_ieq (by simp [hk]), hn, bin_ieq (by simp [hk]), hc, trivial⟩
theorem w_c3 {a d e : Te} {qs : List Te} {cs : List (List Dt)} {ex er : Int} {cs' : List (List Dt)} {ex' er' : Int} {a0 : Te} (hk : a.kind ≠ 2) (hi : is a notB 1) (h0 : a.args[0]? = some a0) (hc : Suk 18 [.ptr 0 0, teA (ap ifB [a0, e, d]), tesA qs] (bxN cs ex er) (.tup []) (bxN cs' ex' er'))  : Suk 42 [.ptr 0 0, teA a, teA d, teA e, tesA qs] (bxN cs ex er) (.tup []) (bxN cs' ex' er') :=
  psw (n := 2) (ks := [0, 1]) (an := [.av (teA (ap notB [a])), yF, yF, yT, .av (.pin ((encT a0).map .dt)), .av (teA (ap ifB [a0, e, d]))]) (ls := [.scl 7 10 [0, 1] (.tup []) [some (.cells [.own 1 cs'.length, inA ex', inA er']), some (.buf 46 1 cs')]]) (ps := [Puk 36 [(stA [110, 111, 116]), (.dt (.row [encT a]))] (teA (ap notB [a])), Bn .eql 3 (.tmp 18) (.const (vi 2)) (vi a.kind) (vi 2) bF, Bn .eql 3 (.tmp 31) (.const (vi 2)) (vi a.kind) (vi 2) bF, Puk 32 [(teA a), (stA [110, 111, 116]), (inA 1)] (boA true), IxAt (List.map Te.enc a.args) 0 11 (encT a0), Puk 36 [(stA [105, 102]), (.dt (.row [encT a0, encT e, encT d]))] (teA (ap ifB [a0, e, d])), Suk 18 [AV.ptr 0 0, teA (ap ifB [a0, e, d]), AV.dt (Dt.row (List.map Te.enc qs))] [some (Bx.cells [AV.own 1 cs.length, AV.dt (Dt.val (vi ex)), AV.dt (Dt.val (vi er))]), some (Bx.buf 46 1 cs)] (AV.tup []) [some (Bx.cells [AV.own 1 cs'.length, inA ex', inA er']), some (Bx.buf 46 1 cs')]]) Tryd.func42 (by kernel_rfl) (by kernel_rfl) ⟨p_tLisp1 notB a, bin_ieq (by simp [hk]), bin_ieq (by simp [hk]), (p_is a notB 1).b (yesD hi), ix_te h0, p_tLisp3 ifB a0 e d, hc, trivial⟩
theorem w_c4 {a d e : Te} {qs : List Te} {cs : List (List Dt)} {ex er : Int} {cs' : List (List Dt)} {ex' er' : Int} {a0 a1 a2 : Te} (hk : a.kind ≠ 2) (hi : ¬ is a notB 1) (hj : is a ifB 3) (h0 : a.args[0]? = some a0) (h1 : a.args[1]? = some a1) (h2 : a.args[2]? = some a2) (hc : Suk 18 [.ptr 0 0, teA (ap ifB [a0, ap ifB [a1, d, e], ap ifB [a2, d, e]]), tesA qs] (bxN cs ex er) (.tup []) (bxN cs' ex' er'))  : Suk 42 [.ptr 0 0, teA a, teA d, teA e, tesA qs] (bxN cs ex er) (.tup []) (bxN cs' ex' er') :=
  psw (n := 2) (ks := [0, 1]) (an := [.av (teA (ap notB [a])), yF, yF, yF, yT, .av (.pin ((encT a0).map .dt)), .av (.pin ((encT a1).map .dt)), .av (teA (ap ifB [a1, d, e])), .av (.pin ((encT a2).map .dt)), .av (teA (ap ifB [a2, d, e])), .av (teA (ap ifB [a0, ap ifB [a1, d, e], ap ifB [a2, d, e]]))]) (ls := [.scl 9 24 [0, 1] (.tup []) [some (.cells [.own 1 cs'.length, inA ex', inA er']), some (.buf 46 1 cs')]]) (ps := [Puk 36 [(stA [110, 111, 116]), (.dt (.row [encT a]))] (teA (ap notB [a])), Bn .eql 3 (.tmp 18) (.const (vi 2)) (vi a.kind) (vi 2) bF, Bn .eql 3 (.tmp 31) (.const (vi 2)) (vi a.kind) (vi 2) bF, Puk 32 [(teA a), (stA [110, 111, 116]), (inA 1)] (boA false), Puk 32 [(teA a), (stA [105, 102]), (inA 3)] (boA true), IxAt (List.map Te.enc a.args) 0 11 (encT a0), IxAt (List.map Te.enc a.args) 1 11 (encT a1), Puk 36 [(stA [105, 102]), (.dt (.row [encT a1, encT d, encT e]))] (teA (ap ifB [a1, d, e])), IxAt (List.map Te.enc a.args) 2 11 (encT a2), Puk 36 [(stA [105, 102]), (.dt (.row [encT a2, encT d, encT e]))] (teA (ap ifB [a2, d, e])), Puk 36 [(stA [105, 102]), (.dt (.row [encT a0, encT (ap ifB [a1, d, e]), encT (ap ifB [a2, d, e])]))] (teA (ap ifB [a0, ap ifB [a1, d, e], ap ifB [a2, d, e]])), Suk 18 [AV.ptr 0 0, teA (ap ifB [a0, ap ifB [a1, d, e], ap ifB [a2, d, e]]), AV.dt (Dt.row (List.map Te.enc qs))] [some (Bx.cells [AV.own 1 cs.length, AV.dt (Dt.val (vi ex)), AV.dt (Dt.val (vi er))]), some (Bx.buf 46 1 cs)] (AV.tup []) [some (Bx.cells [AV.own 1 cs'.length, inA ex', inA er']), some (Bx.buf 46 1 cs')]]) Tryd.func42 (by kernel_rfl) (by kernel_rfl) ⟨p_tLisp1 notB a, bin_ieq (by simp [hk]), bin_ieq (by simp [hk]), (p_is a notB 1).b (noD hi), (p_is a ifB 3).b (yesD hj), ix_te h0, ix_te h1, p_tLisp3 ifB a1 d e, ix_te h2, p_tLisp3 ifB a2 d e, p_tLisp3 ifB a0 (ap ifB [a1, d, e]) (ap ifB [a2, d, e]), hc, trivial⟩
theorem w_c5 {a d e : Te} {qs : List Te} {cs : List (List Dt)} {ex er : Int} {cs' : List (List Dt)} {ex' er' : Int} {b : Te} (hk : a.kind ≠ 2) (hi : ¬ is a notB 1) (hj : ¬ is a ifB 3) (hn : opened a = some b) (hc : Suk 18 [.ptr 0 0, teA (ap ifB [b, d, e]), tesA qs] (bxN cs ex er) (.tup []) (bxN cs' ex' er'))  : Suk 42 [.ptr 0 0, teA a, teA d, teA e, tesA qs] (bxN cs ex er) (.tup []) (bxN cs' ex' er') :=
  psw (n := 2) (ks := [0, 1]) (an := [.av (teA (ap notB [a])), yF, yF, yF, yF, .av (.tup [teA b, boA true]), .av (teA (ap ifB [b, d, e]))]) (ls := [.scl 12 7 [0, 1] (.tup []) [some (.cells [.own 1 cs'.length, inA ex', inA er']), some (.buf 46 1 cs')]]) (ps := [Puk 36 [(stA [110, 111, 116]), (.dt (.row [encT a]))] (teA (ap notB [a])), Bn .eql 3 (.tmp 18) (.const (vi 2)) (vi a.kind) (vi 2) bF, Bn .eql 3 (.tmp 31) (.const (vi 2)) (vi a.kind) (vi 2) bF, Puk 32 [(teA a), (stA [110, 111, 116]), (inA 1)] (boA false), Puk 32 [(teA a), (stA [105, 102]), (inA 3)] (boA false), Puk 41 [(teA a)] (.tup [(teA b), (boA true)]), Puk 36 [(stA [105, 102]), (.dt (.row [encT b, encT d, encT e]))] (teA (ap ifB [b, d, e])), Suk 18 [AV.ptr 0 0, teA (ap ifB [b, d, e]), AV.dt (Dt.row (List.map Te.enc qs))] [some (Bx.cells [AV.own 1 cs.length, AV.dt (Dt.val (vi ex)), AV.dt (Dt.val (vi er))]), some (Bx.buf 46 1 cs)] (AV.tup []) [some (Bx.cells [AV.own 1 cs'.length, inA ex', inA er']), some (Bx.buf 46 1 cs')]]) Tryd.func42 (by kernel_rfl) (by kernel_rfl) ⟨p_tLisp1 notB a, bin_ieq (by simp [hk]), bin_ieq (by simp [hk]), (p_is a notB 1).b (noD hi), (p_is a ifB 3).b (noD hj), (p_opened a).val (by rw [hn]), p_tLisp3 ifB b d e, hc, trivial⟩
theorem w_c6 {a d e : Te} {qs : List Te} {cs : List (List Dt)} {ex er : Int} {cs' : List (List Dt)} {ex' er' : Int} (hk : a.kind ≠ 2) (hi : ¬ is a notB 1) (hj : ¬ is a ifB 3) (hn : opened a = none) (hl : qs.length ≤ 100000) (hq : ∀ q ∈ qs, q.Wf) (hm : a ∈ qs) (hc : Suk 18 [.ptr 0 0, teA d, tesA qs] (bxN cs ex er) (.tup []) (bxN cs' ex' er'))  : Suk 42 [.ptr 0 0, teA a, teA d, teA e, tesA qs] (bxN cs ex er) (.tup []) (bxN cs' ex' er') :=
  psw (n := 2) (ks := [0, 1]) (an := [.av (teA (ap notB [a])), yF, yF, yF, yF, .av (.tup [teA zTe, boA false]), yT]) (ls := [.scl 16 3 [0, 1] (.tup []) [some (.cells [.own 1 cs'.length, inA ex', inA er']), some (.buf 46 1 cs')]]) (ps := [Puk 36 [(stA [110, 111, 116]), (.dt (.row [encT a]))] (teA (ap notB [a])), Bn .eql 3 (.tmp 18) (.const (vi 2)) (vi a.kind) (vi 2) bF, Bn .eql 3 (.tmp 31) (.const (vi 2)) (vi a.kind) (vi 2) bF, Puk 32 [(teA a), (stA [110, 111, 116]), (inA 1)] (boA false), Puk 32 [(teA a), (stA [105, 102]), (inA 3)] (boA false), Puk 41 [(teA a)] (.tup [(.agg [(inA 0), (stA zTe.np), (stA zTe.nn), (inA 0), (stA zTe.val.num), (stA zTe.val.den), (stA zTe.val.sp), (stA zTe.val.sn), (stA zTe.val.text), (.dt (.row (List.map Ob.enc zTe.val.pair))), (.dt (.row (List.map Te.enc zTe.args)))]), (boA false)]), Puk 35 [(.dt (.row (List.map Te.enc qs))), (teA a)] (boA true), Suk 18 [AV.ptr 0 0, teA d, AV.dt (Dt.row (List.map Te.enc qs))] [some (Bx.cells [AV.own 1 cs.length, AV.dt (Dt.val (vi ex)), AV.dt (Dt.val (vi er))]), some (Bx.buf 46 1 cs)] (AV.tup []) [some (Bx.cells [AV.own 1 cs'.length, inA ex', inA er']), some (Bx.buf 46 1 cs')]]) Tryd.func42 (by kernel_rfl) (by kernel_rfl) ⟨p_tLisp1 notB a, bin_ieq (by simp [hk]), bin_ieq (by simp [hk]), (p_is a notB 1).b (noD hi), (p_is a ifB 3).b (noD hj), (p_opened a).val (by rw [hn]), (p_cont (by omega) hq a).b (yesD hm), hc, trivial⟩
theorem w_c7 {a d e : Te} {qs : List Te} {cs : List (List Dt)} {ex er : Int} {cs' : List (List Dt)} {ex' er' : Int} (hk : a.kind ≠ 2) (hi : ¬ is a notB 1) (hj : ¬ is a ifB 3) (hn : opened a = none) (hl : qs.length ≤ 100000) (hq : ∀ q ∈ qs, q.Wf) (hm : a ∉ qs) (hm2 : ap notB [a] ∈ qs) (hc : Suk 18 [.ptr 0 0, teA e, tesA qs] (bxN cs ex er) (.tup []) (bxN cs' ex' er'))  : Suk 42 [.ptr 0 0, teA a, teA d, teA e, tesA qs] (bxN cs ex er) (.tup []) (bxN cs' ex' er') :=
  psw (n := 2) (ks := [0, 1]) (an := [.av (teA (ap notB [a])), yF, yF, yF, yF, .av (.tup [teA zTe, boA false]), yF, yT]) (ls := [.scl 18 3 [0, 1] (.tup []) [some (.cells [.own 1 cs'.length, inA ex', inA er']), some (.buf 46 1 cs')]]) (ps := [Puk 36 [(stA [110, 111, 116]), (.dt (.row [encT a]))] (teA (ap notB [a])), Bn .eql 3 (.tmp 18) (.const (vi 2)) (vi a.kind) (vi 2) bF, Bn .eql 3 (.tmp 31) (.const (vi 2)) (vi a.kind) (vi 2) bF, Puk 32 [(teA a), (stA [110, 111, 116]), (inA 1)] (boA false), Puk 32 [(teA a), (stA [105, 102]), (inA 3)] (boA false), Puk 41 [(teA a)] (.tup [(.agg [(inA 0), (stA zTe.np), (stA zTe.nn), (inA 0), (stA zTe.val.num), (stA zTe.val.den), (stA zTe.val.sp), (stA zTe.val.sn), (stA zTe.val.text), (.dt (.row (List.map Ob.enc zTe.val.pair))), (.dt (.row (List.map Te.enc zTe.args)))]), (boA false)]), Puk 35 [(.dt (.row (List.map Te.enc qs))), (teA a)] (boA false), Puk 35 [(.dt (.row (List.map Te.enc qs))), (teA (ap notB [a]))] (boA true), Suk 18 [AV.ptr 0 0, teA e, AV.dt (Dt.row (List.map Te.enc qs))] [some (Bx.cells [AV.own 1 cs.length, AV.dt (Dt.val (vi ex)), AV.dt (Dt.val (vi er))]), some (Bx.buf 46 1 cs)] (AV.tup []) [some (Bx.cells [AV.own 1 cs'.length, inA ex', inA er']), some (Bx.buf 46 1 cs')]]) Tryd.func42 (by kernel_rfl) (by kernel_rfl) ⟨p_tLisp1 notB a, bin_ieq (by simp [hk]), bin_ieq (by simp [hk]), (p_is a notB 1).b (noD hi), (p_is a ifB 3).b (noD hj), (p_opened a).val (by rw [hn]), (p_cont (by omega) hq a).b (noD hm), (p_cont (by omega) hq (ap notB [a])).b (yesD hm2), hc, trivial⟩
theorem w_c8 {a d e : Te} {qs : List Te} {cs : List (List Dt)} {ex er : Int} {cs1 : List (List Dt)} {ex1 er1 : Int} {cs' : List (List Dt)} {ex' er' : Int} (hk : a.kind ≠ 2) (hi : ¬ is a notB 1) (hj : ¬ is a ifB 3) (hn : opened a = none) (hl : qs.length ≤ 100000) (hq : ∀ q ∈ qs, q.Wf) (hm : a ∉ qs) (hm2 : ap notB [a] ∉ qs) (hc1 : Suk 18 [.ptr 0 0, teA d, tesA (qs ++ [a])] (bxN cs ex er) (.tup []) (bxN cs1 ex1 er1)) (hc2 : Suk 18 [.ptr 0 0, teA e, tesA (qs ++ [ap notB [a]])] (bxN cs1 ex1 er1) (.tup []) (bxN cs' ex' er'))  : Suk 42 [.ptr 0 0, teA a, teA d, teA e, tesA qs] (bxN cs ex er) (.tup []) (bxN cs' ex' er') :=
  psw (n := 2) (ks := [0, 1]) (an := [.av (teA (ap notB [a])), yF, yF, yF, yF, .av (.tup [teA zTe, boA false]), yF, yF, .av (.ful (encTs qs)), .av (.un), .av (.ful (encTs qs)), .av (.un)]) (ls := [.scl 13 7 [0, 1] (.tup []) [some (.cells [.own 1 cs1.length, inA ex1, inA er1]), some (.buf 46 1 cs1)], .scl 14 7 [0, 1] (.tup []) [some (.cells [.own 1 cs'.length, inA ex', inA er']), some (.buf 46 1 cs')]]) (ps := [Puk 36 [(stA [110, 111, 116]), (.dt (.row [encT a]))] (teA (ap notB [a])), Bn .eql 3 (.tmp 18) (.const (vi 2)) (vi a.kind) (vi 2) bF, Bn .eql 3 (.tmp 31) (.const (vi 2)) (vi a.kind) (vi 2) bF, Puk 32 [(teA a), (stA [110, 111, 116]), (inA 1)] (boA false), Puk 32 [(teA a), (stA [105, 102]), (inA 3)] (boA false), Puk 41 [(teA a)] (.tup [(.agg [(inA 0), (stA zTe.np), (stA zTe.nn), (inA 0), (stA zTe.val.num), (stA zTe.val.den), (stA zTe.val.sp), (stA zTe.val.sn), (stA zTe.val.text), (.dt (.row (List.map Ob.enc zTe.val.pair))), (.dt (.row (List.map Te.enc zTe.args)))]), (boA false)]), Puk 35 [(.dt (.row (List.map Te.enc qs))), (teA a)] (boA false), Puk 35 [(.dt (.row (List.map Te.enc qs))), (teA (ap notB [a]))] (boA false), Puk 64 [(.dt (.row (List.map Te.enc qs)))] (.ful (encTs qs)), 1 ≤ (([encT a]).length), FitB 176 ((encTs qs ++ [encT a]).length), SrcOK 11 (encTs qs ++ [encT a]), Suk 18 [AV.ptr 0 0, teA d, AV.dt (Dt.row (encTs qs ++ [encT a]))] [some (Bx.cells [AV.own 1 cs.length, AV.dt (Dt.val (vi ex)), AV.dt (Dt.val (vi er))]), some (Bx.buf 46 1 cs)] (AV.tup []) [some (Bx.cells [AV.own 1 cs1.length, inA ex1, inA er1]), some (Bx.buf 46 1 cs1)], ((encTs qs ++ [encT a]).length) = ((encTs qs ++ [encT a]).length), Puk 64 [(.dt (.row (List.map Te.enc qs)))] (.ful (encTs qs)), 1 ≤ (([encT (ap notB [a])]).length), FitB 176 ((encTs qs ++ [encT (ap notB [a])]).length), SrcOK 11 (encTs qs ++ [encT (ap notB [a])]), Suk 18 [AV.ptr 0 0, teA e, AV.dt (Dt.row (encTs qs ++ [encT (ap notB [a])]))] [some (Bx.cells [AV.own 1 cs1.length, AV.dt (Dt.val (vi ex1)), AV.dt (Dt.val (vi er1))]), some (Bx.buf 46 1 cs1)] (AV.tup []) [some (Bx.cells [AV.own 1 cs'.length, inA ex', inA er']), some (Bx.buf 46 1 cs')], ((encTs qs ++ [encT (ap notB [a])]).length) = ((encTs qs ++ [encT (ap notB [a])]).length)]) Tryd.func42 (by kernel_rfl) (by kernel_rfl) ⟨p_tLisp1 notB a, bin_ieq (by simp [hk]), bin_ieq (by simp [hk]), (p_is a notB 1).b (noD hi), (p_is a ifB 3).b (noD hj), (p_opened a).val (by rw [hn]), (p_cont (by omega) hq a).b (noD hm), (p_cont (by omega) hq (ap notB [a])).b (noD hm2), p_clip qs (by omega), Nat.le_refl 1, fit_of (by omega) (by simp; omega), enc_snoc qs a ▸ src_te _, enc_snoc qs a ▸ hc1, rfl, p_clip qs (by omega), Nat.le_refl 1, fit_of (by omega) (by simp; omega), enc_snoc qs (ap notB [a]) ▸ src_te _, enc_snoc qs (ap notB [a]) ▸ hc2, rfl, trivial⟩
end Go.Proofs.YtihkbnghdcmhfaaDoor
/- The code's normalizer: what it leaves. -/
namespace Go.Proofs.YtihkbnghdcmhfaaDoor
open Go.RowKit
open Te

namespace Te
/-- nothing but the symbol nil looks like nil, all the way down -/
inductive Gd : Te → Prop
  | mk (t : Te) (hv : t.val.Wf) (hn : t.val.kind = 2 ∧ t.val.sp = lispB ∧ t.val.sn = nilB → t.val = nilO) (hl : t.args.length ≤ 9223372036854775807) (h : ∀ x ∈ t.args, Gd x) : Gd t
theorem Gd.val {t : Te} (h : t.Gd) : t.val.Wf := by cases h with | mk _ hv hn hl hh => exact hv
theorem Gd.nil {t : Te} (h : t.Gd) : t.val.kind = 2 ∧ t.val.sp = lispB ∧ t.val.sn = nilB ↔ t.val = nilO := by
  cases h with | mk _ hv hn hl hh => exact ⟨hn, fun e => by rw [e]; exact ⟨rfl, rfl, rfl⟩⟩
theorem Gd.kids {t x : Te} (h : t.Gd) (hx : x ∈ t.args) : x.Gd := by cases h with | mk _ hv hn hl hh => exact hh x hx
theorem Gd.wf {t : Te} (h : t.Gd) : t.Wf := by
  induction h with
  | mk t hv hn hl hh ih => exact .mk t hv hl ih
theorem zOb_wf : zOb.Wf := .mk _ (by decide) (by decide) (by decide) (by decide) (by decide) (by decide) (by decide) (by decide) (fun x hx => by cases hx)
theorem symO_wf {p n : List UInt8} (hp : p.length ≤ 1000) (hn : n.length ≤ 1000) : (symO p n).Wf := .mk _ (by show (-9223372036854775808 : Int) ≤ 2; omega) (by show (2 : Int) ≤ 9223372036854775807; omega) (Nat.zero_le _) (Nat.zero_le _) (by show p.length ≤ _; omega) (by show n.length ≤ _; omega) (Nat.zero_le _) (Nat.zero_le _) (fun x hx => by cases hx)
theorem Gd.ap {n : List UInt8} {l : List Te} (hl : l.length ≤ 1000) (h : ∀ x ∈ l, x.Gd) : (Te.ap n l).Gd := .mk _ zOb_wf (fun e => by cases e.1) (by show l.length ≤ _; omega) h
theorem Gd.con {o : Ob} (hv : o.Wf) (hn : o.kind = 2 ∧ o.sp = lispB ∧ o.sn = nilB → o = nilO) : (Te.con o).Gd := .mk _ hv hn (Nat.zero_le _) (fun x hx => by cases hx)
theorem yes_gd : yesT.Gd := .con (symO_wf (by decide) (by decide)) (fun e => by cases e.2.2)
theorem no_gd : noT.Gd := .con (symO_wf (by decide) (by decide)) (fun _ => rfl)
theorem Gd.arg {t : Te} {n : List UInt8} {k i : Nat} (h : t.Gd) (hi : is t n k) (hk : i < k) : (t.arg i).Gd := h.kids (List.mem_of_getElem? (arg_at hi hk))
theorem gd1 {a : Te} (ha : a.Gd) : ∀ x ∈ [a], x.Gd := fun x hx => by rw [List.mem_singleton] at hx; subst hx; exact ha
theorem gd3 {a b c : Te} (ha : a.Gd) (hb : b.Gd) (hc : c.Gd) : ∀ x ∈ [a, b, c], x.Gd := fun x hx => by
  simp only [List.mem_cons, List.not_mem_nil, or_false] at hx
  rcases hx with rfl | rfl | rfl
  · exact ha
  · exact hb
  · exact hc
theorem Gd.not {a : Te} (h : a.Gd) : (Te.ap notB [a]).Gd := .ap (by show 1 ≤ 1000; omega) (gd1 h)
theorem Gd.if_ {a b c : Te} (ha : a.Gd) (hb : b.Gd) (hc : c.Gd) : (Te.ap ifB [a, b, c]).Gd := .ap (by show 3 ≤ 1000; omega) (gd3 ha hb hc)
theorem Gd.opened {t a : Te} (h : t.Gd) (e : Te.opened t = some a) : a.Gd := by
  unfold Te.opened at e
  split at e
  · rename_i hi; cases e; exact (h.arg hi (by omega)).if_ no_gd yes_gd
  split at e
  · rename_i hi; cases e; exact (h.arg hi (show 0 < 2 by omega)).if_ ((h.arg hi (show 1 < 2 by omega)).if_ yes_gd no_gd) yes_gd
  split at e
  · rename_i hi; cases e; exact (h.arg hi (show 0 < 2 by omega)).if_ ((h.arg hi (show 1 < 2 by omega)).if_ yes_gd no_gd) ((h.arg hi (show 1 < 2 by omega)).if_ no_gd yes_gd)
  · cases e
end Te
theorem fail_ex (D : List Te → List Te) (s : NS) (c : List Te) : (s.fail D c).ex = s.ex := by unfold NS.fail; split <;> rfl
theorem fail_out (D : List Te → List Te) (s : NS) (c : List Te) (h : s.out.length ≤ 400) : (s.fail D c).out.length ≤ 400 := by
  unfold NS.fail
  split
  · exact h
  · rename_i hn
    show (s.out ++ [D c]).length ≤ 400
    rw [List.length_append, List.length_singleton]
    omega
theorem tick_ex (s : NS) : s.tick.ex = s.ex + 1 := rfl
theorem tick_er {s : NS} (h : ¬ s.tick.er ≠ 0) : s.ex < 20000 ∧ s.er = 0 ∧ s.tick = ⟨s.out, s.ex + 1, s.er⟩ := by
  unfold NS.tick at h ⊢
  split at h
  · exact absurd (show (2 : Int) ≠ 0 by decide) h
  · rename_i h1
    rw [if_neg h1]
    exact ⟨by omega, by simpa using h, rfl⟩
/-- examinations are counted; clauses are at most 400 -/
theorem exm_inv (D : List Te → List Te) : ∀ (f : Nat) (t : Te) (qs : List Te) (s : NS), s.out.length ≤ 400 → s.ex ≤ (exm D f t qs s).ex ∧ (exm D f t qs s).ex ≤ max (s.ex + 1) (20000 + f) ∧ (exm D f t qs s).out.length ≤ 400
  | 0, _, _, s, h => by rw [exm]; exact ⟨Int.le_refl _, by omega, h⟩
  | f + 1, t, qs, s, h => by
    rw [exm]
    split
    · rw [tick_ex]; exact ⟨by omega, by omega, h⟩
    rename_i he
    obtain ⟨h1, h2, h3⟩ := tick_er he
    have hto : s.tick.out.length ≤ 400 := h
    have hte := tick_ex s
    have step : ∀ t' qs', s.ex ≤ (exm D f t' qs' s.tick).ex ∧ (exm D f t' qs' s.tick).ex ≤ max (s.ex + 1) (20000 + (f + 1 : Nat)) ∧ (exm D f t' qs' s.tick).out.length ≤ 400 := fun t' qs' => by
      obtain ⟨k1, k2, k3⟩ := exm_inv D f t' qs' s.tick hto
      exact ⟨by omega, by omega, k3⟩
    have fl : ∀ c, s.ex ≤ (s.tick.fail D c).ex ∧ (s.tick.fail D c).ex ≤ max (s.ex + 1) (20000 + (f + 1 : Nat)) ∧ (s.tick.fail D c).out.length ≤ 400 := fun c => by
      rw [fail_ex]
      exact ⟨by omega, by omega, fail_out D _ c hto⟩
    have st : s.ex ≤ s.tick.ex ∧ s.tick.ex ≤ max (s.ex + 1) (20000 + (f + 1 : Nat)) ∧ s.tick.out.length ≤ 400 := ⟨by omega, by omega, hto⟩
    split
    · split
      · exact fl _
      · exact st
    split
    · exact step _ _
    split
    · split
      · exact step _ _
      split
      · exact step _ _
      split
      · exact step _ _
      split
      · exact step _ _
      split
      · exact step _ _
      split
      · exact step _ _
      split
      · exact step _ _
      · obtain ⟨k1, k2, k3⟩ := exm_inv D f (t.arg 1) (qs ++ [t.arg 0]) s.tick hto
        obtain ⟨m1, m2, m3⟩ := exm_inv D f (t.arg 2) (qs ++ [ap notB [t.arg 0]]) _ k3
        exact ⟨by omega, by
          rcases Nat.eq_zero_or_pos f with h0 | h0
          · subst h0
            rw [exm, exm]
            omega
          · omega, m3⟩
    · split
      · exact st
      split
      · exact fl _
      · exact fl _
/-- what 'choose' leaves -/
def chs (D : List Te → List Te) (f : Nat) (a d e : Te) (qs : List Te) (s : NS) : NS :=
  if a.kind = 2 ∧ a.val = nilO then exm D f e qs s
  else if a.kind = 2 then exm D f d qs s
  else if is a notB 1 then exm D f (ap ifB [a.arg 0, e, d]) qs s
  else if is a ifB 3 then exm D f (ap ifB [a.arg 0, ap ifB [a.arg 1, d, e], ap ifB [a.arg 2, d, e]]) qs s
  else match opened a with
    | some a' => exm D f (ap ifB [a', d, e]) qs s
    | none =>
      if a ∈ qs then exm D f d qs s
      else if ap notB [a] ∈ qs then exm D f e qs s
      else exm D f e (qs ++ [ap notB [a]]) (exm D f d (qs ++ [a]) s)
theorem exm_succ (D : List Te → List Te) (f : Nat) (t : Te) (qs : List Te) (s : NS) : exm D (f + 1) t qs s =
    if s.tick.er ≠ 0 then s.tick else
    if t.kind = 2 then (if t.val = nilO then s.tick.fail D (qs.map neg) else s.tick) else
    match opened t with
    | some t' => exm D f t' qs s.tick
    | none =>
      if is t ifB 3 then chs D f (t.arg 0) (t.arg 1) (t.arg 2) qs s.tick
      else if t ∈ qs then s.tick
      else if ap notB [t] ∈ qs then s.tick.fail D (qs.map neg)
      else s.tick.fail D (qs.map neg ++ [t]) := by rw [exm]; rfl
/-- the contract of 'examine' -/
def Exm (f : Nat) : Prop := ∀ (t : Te) (qs : List Te) (s : NS), t.Gd → (∀ q ∈ qs, q.Gd) → (qs.length : Int) ≤ s.ex → s.ex ≤ 45000 → 20001 ≤ s.ex + f → 1 ≤ f → s.out.length ≤ 400 → Suk 18 [.ptr 0 0, teA t, tesA qs] (bxS s) (.tup []) (bxS (exm id f t qs s))
theorem p_isNilY {t : Te} (h : t.Gd) (e : t.val = nilO) : Puk 31 [obA t.val] (boA true) := (p_oIsNil t.val).b (decide_eq_true (h.nil.2 e))
theorem p_isNilN {t : Te} (h : t.Gd) (e : t.val ≠ nilO) : Puk 31 [obA t.val] (boA false) := (p_oIsNil t.val).b (decide_eq_false fun h' => e (h.nil.1 h'))
theorem gd_snoc {qs : List Te} {a : Te} (h : ∀ q ∈ qs, q.Gd) (ha : a.Gd) : ∀ q ∈ qs ++ [a], q.Gd := fun q hq => by
  rcases List.mem_append.1 hq with hq | hq
  · exact h q hq
  · exact gd1 ha q hq
theorem p_choose {f : Nat} (hE : Exm f) (hf2 : f ≤ 20002) (a d e : Te) (qs : List Te) (s : NS) (ha : a.Gd) (hd : d.Gd) (he : e.Gd) (hq : ∀ q ∈ qs, q.Gd) (hl : (qs.length : Int) + 1 ≤ s.ex) (hx : s.ex ≤ 20000) (hf : 20001 ≤ s.ex + f) (ho : s.out.length ≤ 400) : Suk 42 [.ptr 0 0, teA a, teA d, teA e, tesA qs] (bxS s) (.tup []) (bxS (chs id f a d e qs s)) := by
  have ex : ∀ t, t.Gd → Suk 18 [.ptr 0 0, teA t, tesA qs] (bxS s) (.tup []) (bxS (exm id f t qs s)) := fun t ht => hE t qs s ht hq (by omega) (by omega) hf (by omega) ho
  have hqw : ∀ q ∈ qs, q.Wf := fun q h => (hq q h).wf
  have hl2 : qs.length ≤ 100000 := by omega
  unfold chs
  split
  · rename_i hk
    exact w_c1 hk.1 (p_isNilY ha hk.2) (ex e he)
  rename_i hnk
  split
  · rename_i hk
    exact w_c2 hk (p_isNilN ha fun h => hnk ⟨hk, h⟩) (ex d hd)
  rename_i hk
  split
  · rename_i hi
    exact w_c3 hk hi (arg_at hi (by omega)) (ex _ ((ha.arg hi (by omega)).if_ he hd))
  rename_i hi
  split
  · rename_i hj
    exact w_c4 hk hi hj (arg_at hj (show 0 < 3 by omega)) (arg_at hj (show 1 < 3 by omega)) (arg_at hj (show 2 < 3 by omega)) (ex _ ((ha.arg hj (show 0 < 3 by omega)).if_ ((ha.arg hj (show 1 < 3 by omega)).if_ hd he) ((ha.arg hj (show 2 < 3 by omega)).if_ hd he)))
  rename_i hj
  split
  · rename_i b hn
    exact w_c5 hk hi hj hn (ex _ ((ha.opened hn).if_ hd he))
  rename_i hn
  split
  · rename_i hm
    exact w_c6 hk hi hj hn hl2 hqw hm (ex d hd)
  rename_i hm
  split
  · rename_i hm2
    exact w_c7 hk hi hj hn hl2 hqw hm hm2 (ex e he)
  rename_i hm2
  obtain ⟨k1, k2, k3⟩ := exm_inv id f d (qs ++ [a]) s ho
  exact w_c8 hk hi hj hn hl2 hqw hm hm2 (hE d (qs ++ [a]) s hd (gd_snoc hq ha) (by simp; omega) (by omega) hf (by omega) ho) (hE e (qs ++ [ap notB [a]]) _ he (gd_snoc hq ha.not) (by simp; omega) (by omega) (by omega) (by omega) k3)
theorem p_exam : ∀ f : Nat, f ≤ 20002 → Exm f
  | 0, _ => fun t qs s _ _ _ _ _ h => by omega
  | f + 1, hf2 => fun t qs s ht hq hl hx hf _ ho => by
    have hqw : ∀ q ∈ qs, q.Wf := fun q h => (hq q h).wf
    have hl0 : (0 : Int) ≤ s.ex := by omega
    rw [exm_succ]
    split
    · rename_i he
      by_cases h1 : 20000 < s.ex + 1
      · have e : s.tick = ⟨s.out, s.ex + 1, 2⟩ := by unfold NS.tick; rw [if_pos h1]
        rw [e]
        exact w_ex1 hl0 (by omega) (by omega)
      · have e : s.tick = ⟨s.out, s.ex + 1, s.er⟩ := by unfold NS.tick; rw [if_neg h1]
        rw [e] at he ⊢
        exact w_ex2 hl0 (by omega) (by omega) he
    rename_i he
    obtain ⟨h1, h2, h3⟩ := tick_er he
    rw [h3]
    have hl2 : qs.length ≤ 100000 := by omega
    have pf : ∀ ms, ms.length ≤ 1000 → Suk 40 [.ptr 0 0, tesA qs, tesA ms] (bxS ⟨s.out, s.ex + 1, s.er⟩) (.tup []) (bxS (NS.fail id ⟨s.out, s.ex + 1, s.er⟩ (qs.map neg ++ ms))) := fun ms hm => p_fail _ qs ms hl2 hm ho
    have pf0 := pf [] (by decide)
    rw [List.append_nil] at pf0
    split
    · rename_i hk
      split
      · rename_i hn
        exact w_ex3 hl0 (by omega) h1 h2 hk (p_isNilY ht hn) pf0
      · rename_i hn
        exact w_ex4 hl0 (by omega) h1 h2 hk (p_isNilN ht hn)
    rename_i hk
    split
    · rename_i a hn
      exact w_ex5 hl0 (by omega) h1 h2 hk hn (p_exam f (by omega) a qs ⟨s.out, s.ex + 1, s.er⟩ (ht.opened hn) hq (by show (qs.length : Int) ≤ s.ex + 1; omega) (by show s.ex + 1 ≤ 45000; omega) (by show 20001 ≤ s.ex + 1 + f; omega) (by omega) ho)
    rename_i hn
    split
    · rename_i hi
      exact w_ex6 hl0 (by omega) h1 h2 hk hn hi (arg_at hi (show 0 < 3 by omega)) (arg_at hi (show 1 < 3 by omega)) (arg_at hi (show 2 < 3 by omega)) (p_choose (p_exam f (by omega)) (by omega) _ _ _ qs ⟨s.out, s.ex + 1, s.er⟩ (ht.arg hi (show 0 < 3 by omega)) (ht.arg hi (show 1 < 3 by omega)) (ht.arg hi (show 2 < 3 by omega)) hq (by show (qs.length : Int) + 1 ≤ s.ex + 1; omega) (by show s.ex + 1 ≤ 20000; omega) (by show 20001 ≤ s.ex + 1 + f; omega) ho)
    rename_i hi
    split
    · rename_i hm
      exact w_ex7 hl0 (by omega) h1 h2 hk hn hi (by omega) hqw hm
    rename_i hm
    split
    · rename_i hm2
      exact w_ex8 hl0 (by omega) h1 h2 hk hn hi (by omega) hqw hm hm2 pf0
    · rename_i hm2
      exact w_ex9 hl0 (by omega) h1 h2 hk hn hi (by omega) hqw hm hm2 (pf [t] (by show 1 ≤ 1000; omega))
end Go.Proofs.YtihkbnghdcmhfaaDoor
/- Normalize of the code; the reference's Negated, Add and put. -/
namespace Go.Proofs.YtihkbnghdcmhfaaDoor
open Go.RowKit
open Te

/-- what Normalize returns -/
abbrev nrmA (s : NS) : AV := if s.er = 0 then .tup [clsA s.out, inA 0] else .tup [.dt (.row []), inA s.er]
theorem w_nrm {t : Te} {cs : List (List Dt)} {ex er : Int} (hc : Suk 18 [.ptr 0 0, teA t, .dt (.row [])] [some (.cells [.nil, inA 0, inA 0])] (.tup []) (bxN cs ex er)) : Puk 6 [teA t] (if er = 0 then .tup [.dt (.row cs), inA 0] else .tup [.dt (.row []), inA er]) := by
  by_cases h : er = 0
  · rw [if_pos h]
    exact pwalk (an := [yF]) (ls := [.scl 2 2 [1] (.tup []) [some (.cells [.own 1 cs.length, inA ex, inA er]), some (.buf 46 1 cs)]]) (ps := [Suk 18 [AV.ptr 0 0, teA t, AV.dt (Dt.row [])] [some (Bx.cells [AV.nil, AV.dt (Dt.val (vi 0)), AV.dt (Dt.val (vi 0))])] (AV.tup []) [some (Bx.cells [AV.own 1 cs.length, inA ex, inA er]), some (Bx.buf 46 1 cs)], Bn .neq 28 (.tmp 13) (.const (vi 0)) (vi er) (vi 0) bF, (cs.length) = (cs.length)]) Tryd.func6 (by kernel_rfl) (by kernel_rfl) ⟨hc, bin_ine (by simp [h]), rfl, trivial⟩
  · rw [if_neg h]
    exact pwalk (an := [yT]) (ls := [.scl 2 2 [1] (.tup []) [some (.cells [.own 1 cs.length, inA ex, inA er]), some (.buf 46 1 cs)]]) (ps := [Suk 18 [AV.ptr 0 0, teA t, AV.dt (Dt.row [])] [some (Bx.cells [AV.nil, AV.dt (Dt.val (vi 0)), AV.dt (Dt.val (vi 0))])] (AV.tup []) [some (Bx.cells [AV.own 1 cs.length, inA ex, inA er]), some (Bx.buf 46 1 cs)], Bn .neq 28 (.tmp 13) (.const (vi 0)) (vi er) (vi 0) bT]) Tryd.func6 (by kernel_rfl) (by kernel_rfl) ⟨hc, bin_ine (by simp [h]), trivial⟩
theorem p_normalize {t : Te} (ht : t.Gd) : Puk 6 [teA t] (nrmA (exm id 20002 t [] ⟨[], 0, 0⟩)) :=
  w_nrm (SOK.own0 (p_exam 20002 (Nat.le_refl _) t [] ⟨[], 0, 0⟩ ht (fun q hq => by cases hq) (by decide) (by decide) (by decide) (by decide) (by decide)))
/- the reference -/
abbrev ngS (l : List Te) (es : List (List Dt)) (i : Int) : AS := ⟨stt 20 [(0, tesA l), (3, .own 0 es.length), (4, inA i)], [some (.buf 38 11 es)]⟩
noncomputable abbrev ngB : Code := subC (bodyOf Tryd.f69) [1, 1, 0, 1, 0, 0]
theorem ngB1 {l : List Te} {x y : Te} {i : Nat} {es : List (List Dt)} (hx : l[i]? = some x) (hl : l.length ≤ 100000) (he : es.length ≤ 100000) (h : Puk 77 [teA x] (teA y)) : Tri EX ngB (ngS l es i) .nxt (ngS l (es ++ [encT y]) ((i + 1 : Nat) : Int)) :=
  twalk (c := subC (bodyOf Tryd.f69) [1,1,0,1,0,0]) (s := ngS l es i) (an := [.av (inA l.length), yT, .av (.pin ((encT x).map .dt)), .av (teA y), .av (.un), .av (inA ((i+1 : Nat) : Int))]) (ls := []) (ft := [0,3,4]) (nb := 1) (e := .nxt) (s' := ngS l (es ++ [encT y]) ((i + 1 : Nat) : Int)) (ps := [(vi ↑l.length) = (vi (↑(List.map Te.enc l).length)), Bn .lss 3 (.tmp 5) (.tmp 7) (vi ↑i) (vi ↑l.length) bT, IxAt (List.map Te.enc l) ↑i 11 (encT x), Puk 77 [(teA x)] (teA y), (es.length) = (es.length), FitB 176 ((es ++ [encT y]).length), SrcOK 11 [encT y], Bn .add 3 (.tmp 9) (.const (vi 1)) (vi ↑i) (vi 1) (vi (↑(i + 1)))]) (by kernel_rfl)
    ⟨lenEncT _, bin_ilt (decide_eq_true (by have := (List.getElem?_eq_some_iff.1 hx).1; omega)), ix_te hx, h, rfl, fit_of (by omega) (by simp; omega), src_te1 y, bin_iadd (by omega) (by omega) (by have := (List.getElem?_eq_some_iff.1 hx).1; omega), trivial⟩
theorem ngB2 {l : List Te} {i : Nat} {es : List (List Dt)} (hi : i = l.length) : Tri EX ngB (ngS l es i) (.out 0) (ngS l es i) :=
  twalk (c := subC (bodyOf Tryd.f69) [1,1,0,1,0,0]) (s := ngS l es i) (an := [.av (inA l.length), yF]) (ls := []) (ft := [0,3,4]) (nb := 1) (e := .out 0) (s' := ngS l es i) (ps := [(vi ↑l.length) = (vi (↑(List.map Te.enc l).length)), Bn .lss 3 (.tmp 5) (.tmp 7) (vi ↑i) (vi ↑l.length) bF]) (by kernel_rfl)
    ⟨lenEncT _, bin_ilt (decide_eq_false (by omega)), trivial⟩
theorem ng_loop {l : List Te} (hl : l.length ≤ 100000) : ∀ (s : List Te) (i : Nat) (es : List (List Dt)), l.drop i = s → i ≤ l.length → es.length = i → Lps EX ngB (ngS l es i) (.out 0) (ngS l (es ++ encTs (s.map neg)) l.length) := by
  intro s
  induction s with
  | nil =>
    intro i es hd hi he
    have e1 := congrArg List.length hd
    rw [List.length_drop, List.length_nil] at e1
    obtain rfl : i = l.length := by omega
    rw [List.map_nil, show encTs [] = [] from rfl, List.append_nil]
    exact .stop (ngB2 rfl) (fun h => by cases h)
  | cons x s ih =>
    intro i es hd hi he
    have hx : l[i]? = some x := by rw [← List.head?_drop, hd]; rfl
    have hlt := (List.getElem?_eq_some_iff.1 hx).1
    have := ih (i + 1) (es ++ [encT (neg x)]) (by rw [← List.drop_drop, hd]; rfl) (by omega) (by simp [he])
    rw [List.append_assoc] at this
    have e : [encT (neg x)] ++ encTs (s.map neg) = encTs ((x :: s).map neg) := by rw [row1]; rfl
    rw [e] at this
    exact .more (ngB1 hx hl (by omega) (p_rneg x)) this
theorem ng_tri {l : List Te} (hl : l.length ≤ 100000) : Tri EX (.loop ngB) ⟨stt 20 [(0, tesA l), (3, .nil), (4, inA 0)], []⟩ (.out 0) (ngS l (encTs (l.map neg)) l.length) := by
  have h := (ng_loop hl l 0 [] rfl (Nat.zero_le _) rfl).tri
  exact Tri.own0 3 38 11 (by show 3 < 20; omega) rfl h
theorem p_negated {l : List Te} (hl : l.length ≤ 100000) : Suk 69 [tesA l] [] (.own 0 (encTs (l.map neg)).length) [some (.buf 38 11 (encTs (l.map neg)))] := by
  have ht := ng_tri hl
  generalize encTs (l.map neg) = es at *
  exact psw (n := 0) (ks := [0]) (an := []) (ls := [.inv [0,3,4] 0 (.out 0) (ngS l es l.length)]) (ps := [Tri (EXn 0) (.loop (subC (bodyOf Tryd.f69) [1,1,0,1,0,0])) (⟨stt 20 [(0, tesA l), (3, .nil), (4, inA 0)], []⟩) (.out 0) (ngS l es l.length)]) Tryd.func69 (by kernel_rfl) (by kernel_rfl) ⟨ht, trivial⟩
abbrev adS (l out : List Te) (i : Int) : AS := ⟨stt 36 [(1, tesA l), (5, .own 0 (encTs out).length), (6, inA i)], [some (.buf 38 11 (encTs out))]⟩
noncomputable abbrev adB : Code := subC (bodyOf Tryd.f68) [1, 1, 0, 1, 0, 0]
theorem adB1 {l out : List Te} {x : Te} {i : Nat} (hx : l[i]? = some x) (hl : l.length ≤ 100000) (hw : ∀ y ∈ out, y.Wf) (ho : out.length ≤ 200000) (hm : x ∈ out) : Tri EX adB (adS l out i) .nxt (adS l out ((i + 1 : Nat) : Int)) :=
  twalk (c := subC (bodyOf Tryd.f68) [1,1,0,1,0,0]) (s := adS l out i) (an := [.av (inA l.length), yT, .av (.pin ((encT x).map .dt)), yT, .av (inA ((i+1 : Nat) : Int))]) (ls := []) (ft := [1,5,6]) (nb := 1) (e := .nxt) (s' := adS l out ((i + 1 : Nat) : Int)) (ps := [(vi ↑l.length) = (vi (↑(List.map Te.enc l).length)), Bn .lss 3 (.tmp 15) (.tmp 17) (vi ↑i) (vi ↑l.length) bT, IxAt (List.map Te.enc l) ↑i 11 (encT x), Puk 50 [(.dt (.row (encTs out))), (teA x)] (boA true), ((encTs out).length) = ((encTs out).length), Bn .add 3 (.tmp 19) (.const (vi 1)) (vi ↑i) (vi 1) (vi (↑(i + 1)))]) (by kernel_rfl)
    ⟨lenEncT _, bin_ilt (decide_eq_true (by have := (List.getElem?_eq_some_iff.1 hx).1; omega)), ix_te hx, (p_rcont (by omega) hw x).b (yesD hm), rfl, bin_iadd (by omega) (by omega) (by have := (List.getElem?_eq_some_iff.1 hx).1; omega), trivial⟩
theorem adB3 {l out : List Te} {x : Te} {i : Nat} (hx : l[i]? = some x) (hl : l.length ≤ 100000) (hw : ∀ y ∈ out, y.Wf) (ho : out.length ≤ 200000) (hm : x ∉ out) : Tri EX adB (adS l out i) .nxt (adS l (out ++ [x]) ((i + 1 : Nat) : Int)) := by
  rw [show adS l (out ++ [x]) ((i + 1 : Nat) : Int) = ⟨stt 36 [(1, tesA l), (5, .own 0 (encTs out ++ [encT x]).length), (6, inA ((i + 1 : Nat) : Int))], [some (.buf 38 11 (encTs out ++ [encT x]))]⟩ by rw [enc_snoc]]
  exact twalk (c := subC (bodyOf Tryd.f68) [1,1,0,1,0,0]) (s := adS l out i) (an := [.av (inA l.length), yT, .av (.pin ((encT x).map .dt)), yF, .av (.pin ((encT x).map .dt)), .av (.un), .av (inA ((i+1 : Nat) : Int))]) (ls := []) (ft := [1,5,6]) (nb := 1) (e := .nxt) (s' := ⟨stt 36 [(1, tesA l), (5, .own 0 (encTs out ++ [encT x]).length), (6, inA ((i + 1 : Nat) : Int))], [some (.buf 38 11 (encTs out ++ [encT x]))]⟩) (ps := [(vi ↑l.length) = (vi (↑(List.map Te.enc l).length)), Bn .lss 3 (.tmp 15) (.tmp 17) (vi ↑i) (vi ↑l.length) bT, IxAt (List.map Te.enc l) ↑i 11 (encT x), Puk 50 [(.dt (.row (encTs out))), (teA x)] (boA false), ((encTs out).length) = ((encTs out).length), IxAt (List.map Te.enc l) ↑i 11 (encT x), ((encTs out).length) = ((encTs out).length), FitB 176 ((encTs out ++ [encT x]).length), SrcOK 11 [encT x], Bn .add 3 (.tmp 19) (.const (vi 1)) (vi ↑i) (vi 1) (vi (↑(i + 1)))]) (by kernel_rfl)
    ⟨lenEncT _, bin_ilt (decide_eq_true (by have := (List.getElem?_eq_some_iff.1 hx).1; omega)), ix_te hx, (p_rcont (by omega) hw x).b (noD hm), rfl, ix_te hx, rfl, fit_of (by omega) (by simp; omega), src_te1 x, bin_iadd (by omega) (by omega) (by have := (List.getElem?_eq_some_iff.1 hx).1; omega), trivial⟩
theorem adB2 {l out : List Te} {i : Nat} (hi : i = l.length) : Tri EX adB (adS l out i) (.out 0) (adS l out i) :=
  twalk (c := subC (bodyOf Tryd.f68) [1,1,0,1,0,0]) (s := adS l out i) (an := [.av (inA l.length), yF]) (ls := []) (ft := [1,5,6]) (nb := 1) (e := .out 0) (s' := adS l out i) (ps := [(vi ↑l.length) = (vi (↑(List.map Te.enc l).length)), Bn .lss 3 (.tmp 15) (.tmp 17) (vi ↑i) (vi ↑l.length) bF]) (by kernel_rfl)
    ⟨lenEncT _, bin_ilt (decide_eq_false (by omega)), trivial⟩
theorem ad_loop {l : List Te} (hl : l.length ≤ 100000) (hw : ∀ y ∈ l, y.Wf) : ∀ (s : List Te) (i : Nat) (out : List Te), l.drop i = s → i ≤ l.length → (∀ y ∈ out, y.Wf) → out.length + s.length ≤ 200000 → Lps EX adB (adS l out i) (.out 0) (adS l (addN out s) l.length) := by
  intro s
  induction s with
  | nil =>
    intro i out hd hi he _
    have e1 := congrArg List.length hd
    rw [List.length_drop, List.length_nil] at e1
    obtain rfl : i = l.length := by omega
    rw [addN]
    exact .stop (adB2 rfl) (fun h => by cases h)
  | cons x s ih =>
    intro i out hd hi he ho
    have hx : l[i]? = some x := by rw [← List.head?_drop, hd]; rfl
    have hlt := (List.getElem?_eq_some_iff.1 hx).1
    rw [List.length_cons] at ho
    rw [addN]
    by_cases hm : x ∈ out
    · rw [if_pos hm]
      exact .more (adB1 hx hl he (by omega) hm) (ih (i + 1) out (by rw [← List.drop_drop, hd]; rfl) (by omega) he (by omega))
    · rw [if_neg hm]
      refine .more (adB3 hx hl he (by omega) hm) (ih (i + 1) (out ++ [x]) (by rw [← List.drop_drop, hd]; rfl) (by omega) (fun y hy => ?_) (by rw [List.length_append, List.length_singleton]; omega))
      rcases List.mem_append.1 hy with hy | hy
      · exact he y hy
      · rw [List.mem_singleton] at hy; subst hy; exact hw _ (List.mem_of_getElem? hx)
theorem p_rAdd {c l : List Te} (hc : c.length ≤ 100000) (hl : l.length ≤ 100000) (hcw : ∀ y ∈ c, y.Wf) (hw : ∀ y ∈ l, y.Wf) : Puk 68 [tesA c, tesA l] (tesA (addN c l)) := by
  have ht := (ad_loop hl hw l 0 c rfl (Nat.zero_le _) hcw (by omega)).tri
  generalize addN c l = r at *
  exact pwalk (an := [.av (inA c.length), .av (inA l.length), .av (inA (c.length + l.length : Nat)), .no, .av (.un)]) (ls := [.inv [1,5,6] 1 (.out 0) (adS l r l.length)]) (ps := [(vi ↑c.length) = (vi (↑(List.map Te.enc c).length)), (vi ↑l.length) = (vi (↑(List.map Te.enc l).length)), Bn .add 3 (.tmp 8) (.tmp 10) (vi ↑c.length) (vi ↑l.length) (vi (↑(c.length + l.length))), FitM 176 (↑(c.length + l.length)), 0 = 0, FitB 176 (([] ++ List.map Te.enc c).length), SrcOK 11 (List.map Te.enc c), Tri EX (.loop (subC (bodyOf Tryd.f68) [1,1,0,1,0,0])) (adS l c 0) (.out 0) (adS l r l.length), ((encTs r).length) = ((encTs r).length)]) Tryd.func68 (by kernel_rfl) (by kernel_rfl) ⟨lenEncT _, lenEncT _, bin_iadd (by omega) (by omega) (by omega), ⟨by omega, by omega, by show ((c.length + l.length : Nat) : Int) ≤ ((2 ^ 63 - 1 : Nat) : Int); omega⟩, rfl, fit_of (by omega) (by simp; omega), src_te c, ht, rfl, trivial⟩
abbrev rbN (cs : List (List Dt)) (left : Int) (bad : Bool) : List (Option Bx) := [some (.cells [.own 1 cs.length, inA left, boA bad]), some (.buf 46 1 cs)]
/-- the reference's normalizer -/
abbrev rbS (s : NS) : List (Option Bx) := rbN (s.out.map encC) (20000 - s.ex) (decide (s.er ≠ 0))
theorem put_len {D : List Te → List Te} {s : NS} {c : List Te} : (s.fail D c) = if 60 < (D c).length then { s with er := 2 } else if 400 ≤ s.out.length then { s with er := 2 } else { s with out := s.out ++ [D c] } := by
  unfold NS.fail
  by_cases h1 : 60 < (D c).length
  · rw [if_pos (.inl h1), if_pos h1]
  · rw [if_neg h1]
    by_cases h2 : 400 ≤ s.out.length
    · rw [if_pos (.inr h2), if_pos h2]
    · rw [if_neg (fun h => h.elim h1 h2), if_neg h2]
theorem addN_len : ∀ (l out : List Te), (addN out l).length ≤ out.length + l.length
  | [], out => by rw [addN]; exact Nat.le_refl _
  | x :: l, out => by
    rw [addN, List.length_cons]
    refine Nat.le_trans (addN_len l _) ?_
    split
    · omega
    · rw [List.length_append, List.length_singleton]; omega
theorem neg_wf {t : Te} (h : t.Gd) : (neg t).Gd := by
  unfold neg
  split
  · rename_i hi; exact h.arg hi (by omega)
  · exact h.not
theorem p_put (s : NS) (qs ms : List Te) (hl : qs.length ≤ 50000) (hm : ms.length ≤ 1000) (ho : s.out.length ≤ 400) (hq : ∀ q ∈ qs, q.Gd) (hms : ∀ q ∈ ms, q.Gd) (he : s.er = 0) : Suk 47 [.ptr 0 0, tesA qs, tesA ms] (rbS s) (.tup []) (rbS (s.fail (addN []) (qs.map neg ++ ms))) := by
  obtain ⟨out, ex, er⟩ := s
  dsimp only at ho he
  have ht := p_negated (l := qs) (by omega)
  have hlen := neg_len qs
  have hbad : decide (er ≠ 0) = false := decide_eq_false (by omega)
  have happ : encTs (qs.map neg) ++ encTs ms = encTs (qs.map neg ++ ms) := List.map_append.symm
  have hgd : ∀ q ∈ qs.map neg ++ ms, q.Wf := fun q h => by
    rcases List.mem_append.1 h with h | h
    · obtain ⟨x, hx, rfl⟩ := List.mem_map.1 h; exact (neg_wf (hq x hx)).wf
    · exact (hms q h).wf
  have hL : (qs.map neg ++ ms).length ≤ 60000 := by simp; omega
  have ha : Puk 68 [tesA [], .dt (.row (encTs (qs.map neg) ++ encTs ms))] (tesA (addN [] (qs.map neg ++ ms))) := by rw [happ]; exact p_rAdd (c := []) (Nat.zero_le _) (by omega) (fun y hy => by cases hy) hgd
  have hal := addN_len (qs.map neg ++ ms) []
  rw [put_len]
  generalize addN [] (qs.map neg ++ ms) = r at *
  generalize encTs (qs.map neg) = es at *
  have hrl : r.length ≤ 60000 := by simp at hal hL; omega
  show Suk _ _ (rbN (out.map encC) (20000 - ex) (decide (er ≠ 0))) _ _
  rw [hbad]
  by_cases h1 : 60 < r.length
  · rw [if_pos h1]
    show Suk _ _ _ _ (rbN (out.map encC) (20000 - ex) true)
    generalize out.map encC = cs at *
    generalize 20000 - ex = left at *
    exact psw (n := 2) (ks := [0, 1]) (an := [.av (.un), .av (tesA r), .av (inA r.length), yT]) (ls := [.scl 0 1 [] (.own 0 es.length) [some (.buf 38 11 es)]]) (ps := [Suk 69 [AV.dt (Dt.row (List.map Te.enc qs))] [] (AV.own 0 es.length) [some (Bx.buf 38 11 es)], (es.length) = (es.length), FitB 176 ((es ++ List.map Te.enc ms).length), SrcOK 11 (List.map Te.enc ms), Puk 68 [(.dt (.row [])), (.dt (.row (es ++ List.map Te.enc ms)))] (.dt (.row (List.map Te.enc r))), ((es ++ List.map Te.enc ms).length) = ((es ++ List.map Te.enc ms).length), (vi ↑r.length) = (vi (↑(List.map Te.enc r).length)), Bn .gtr 3 (.tmp 13) (.const (vi 60)) (vi ↑r.length) (vi 60) bT]) Tryd.func47 (by kernel_rfl) (by kernel_rfl) ⟨ht, rfl, fit_of (by omega) (by simp; omega), src_te ms, ha, rfl, lenEncT _, bin_igt (decide_eq_true (by omega)), trivial⟩
  · rw [if_neg h1]
    have hout : (out.map encC).length = out.length := List.length_map ..
    by_cases h2 : 400 ≤ out.length
    · rw [if_pos h2]
      show Suk _ _ _ _ (rbN (out.map encC) (20000 - ex) true)
      generalize out.map encC = cs at *
      generalize 20000 - ex = left at *
      exact psw (n := 2) (ks := [0, 1]) (an := [.av (.un), .av (tesA r), .av (inA r.length), yF, .no, yT]) (ls := [.scl 0 1 [] (.own 0 es.length) [some (.buf 38 11 es)]]) (ps := [Suk 69 [AV.dt (Dt.row (List.map Te.enc qs))] [] (AV.own 0 es.length) [some (Bx.buf 38 11 es)], (es.length) = (es.length), FitB 176 ((es ++ List.map Te.enc ms).length), SrcOK 11 (List.map Te.enc ms), Puk 68 [(.dt (.row [])), (.dt (.row (es ++ List.map Te.enc ms)))] (.dt (.row (List.map Te.enc r))), ((es ++ List.map Te.enc ms).length) = ((es ++ List.map Te.enc ms).length), (vi ↑r.length) = (vi (↑(List.map Te.enc r).length)), Bn .gtr 3 (.tmp 13) (.const (vi 60)) (vi ↑r.length) (vi 60) bF, Bn .geq 3 (.tmp 20) (.const (vi 400)) (vi ↑cs.length) (vi 400) bT]) Tryd.func47 (by kernel_rfl) (by kernel_rfl) ⟨ht, rfl, fit_of (by omega) (by simp; omega), src_te ms, ha, rfl, lenEncT _, bin_igt (decide_eq_false (by omega)), bin_ige (decide_eq_true (by omega)), trivial⟩
    · rw [if_neg h2]
      have hadd : (out ++ [r]).map encC = out.map encC ++ [[.row (encTs r)]] := by rw [List.map_append]; rfl
      show Suk _ _ _ _ (rbN ((out ++ [r]).map encC) (20000 - ex) (decide (er ≠ 0)))
      rw [hbad, hadd]
      generalize out.map encC = cs at *
      generalize 20000 - ex = left at *
      exact psw (n := 2) (ks := [0, 1]) (an := [.av (.un), .av (tesA r), .av (inA r.length), yF, .no, yF, .av (.un)]) (ls := [.scl 0 1 [] (.own 0 es.length) [some (.buf 38 11 es)]]) (ps := [Suk 69 [AV.dt (Dt.row (List.map Te.enc qs))] [] (AV.own 0 es.length) [some (Bx.buf 38 11 es)], (es.length) = (es.length), FitB 176 ((es ++ List.map Te.enc ms).length), SrcOK 11 (List.map Te.enc ms), Puk 68 [(.dt (.row [])), (.dt (.row (es ++ List.map Te.enc ms)))] (.dt (.row (List.map Te.enc r))), ((es ++ List.map Te.enc ms).length) = ((es ++ List.map Te.enc ms).length), (vi ↑r.length) = (vi (↑(List.map Te.enc r).length)), Bn .gtr 3 (.tmp 13) (.const (vi 60)) (vi ↑r.length) (vi 60) bF, Bn .geq 3 (.tmp 20) (.const (vi 400)) (vi ↑cs.length) (vi 400) bF, (cs.length) = (cs.length), FitB 24 ((cs ++ [[Dt.row (List.map Te.enc r)]]).length), SrcOK 1 [[(.row (List.map Te.enc r))]]]) Tryd.func47 (by kernel_rfl) (by kernel_rfl) ⟨ht, rfl, fit_of (by omega) (by simp; omega), src_te ms, ha, rfl, lenEncT _, bin_igt (decide_eq_false (by omega)), bin_ige (decide_eq_false (by omega)), rfl, fit_of (by omega) (by simp; omega), src_c _, trivial⟩
end Go.Proofs.YtihkbnghdcmhfaaDoor
