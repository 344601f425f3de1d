/- The code's normalizer: 'examine' and 'choose', walked. -/
import Derived.Test.YtendgffijciehaaGreatDoorEH
import Derived.Test.YtendgffijciehaaGreatDoorEC
import Derived.Lib.SliceRun
import Derived.Test.YtendgffijciehaaGreatDoorEG
namespace Go.Proofs.YtendgffijciehaaGreatDoor
open Go.RowKit
open Te

theorem p_clip (qs : List Te) (hl : qs.length ≤ 9223372036854775807) : Puk 114 [tesA qs] (.ful (encTs qs)) :=
  walkF (E := EX) (fun _ _ h hb => h.below hb) Tryz.func114 (by kernel_rfl) (an := [.av (inA qs.length), .av (inA qs.length), .av (.dt (.row (qs.map Te.enc)))]) (ls := []) (ps := [(vi ↑qs.length) = (vi (↑(List.map Te.enc qs).length)), (vi ↑qs.length) = (vi (↑(List.map Te.enc qs).length)), SlcOK (List.map Te.enc qs) 11 ((none : Option Int).getD 0) ((some (qs.length : Int)).getD ((List.map Te.enc qs).length : Int)) (List.map Te.enc qs), (some (qs.length : Int)) = (none : Option Int) ∨ (some (qs.length : Int)) = (some (qs.length : Int))]) (by kernel_rfl)
    ⟨lenEncT _, lenEncT _, ⟨Int.le_refl _, by show (0 : Int) ≤ (qs.length : Int); omega, by show (qs.length : Int) ≤ _; rw [List.length_map]; omega, by
      show _ = List.drop 0 (List.take ((qs.length : Int)).toNat _)
      rw [Int.toNat_natCast, List.drop_zero, List.take_of_length_le (by rw [List.length_map]; omega)], .inl rfl⟩, .inr rfl, trivial⟩
theorem enc_snoc (qs : List Te) (a : Te) : encTs qs ++ [encT a] = encTs (qs ++ [a]) := by rw [row1]; exact List.map_append.symm
theorem ex_fail {P : Program} {G : World → Prop} {f : FuncId} {qs : List Te} {t : Te} {xs xs' : List (Option Bx)} {r : AV} (h : SOK P G f [.ptr 0 0, tesA qs, tesA [t]] xs r xs') : SOK P G f [.ptr 0 0, tesA qs, .dt (.row [encT t])] xs r xs' := by
  rw [row1]; exact h
theorem w_ex1 {t : Te} {qs : List Te} {cs : List (List Dt)} {ex er : Int} (hx0 : 0 ≤ ex) (hx1 : ex ≤ 100000) (hx : 20000 ≤ ex) : Suk 71 [.ptr 0 0, teA t, tesA qs] (bxN cs ex er) (.tup []) (bxN cs (ex + 1) 2) :=
  psw (n := 2) (ks := [0, 1]) (an := [.av (inA (ex + 1)), yT, yT]) (ls := []) (ps := [Bn .add 3 (.tmp 11) (.const (vi 1)) (vi ex) (vi 1) (vi (ex + 1)), Bn .gtr 3 (.tmp 18) (.const (vi 20000)) (vi (ex + 1)) (vi 20000) bT, Bn .neq 65 (.tmp 26) (.const (vi 0)) (vi 2) (vi 0) bT]) Tryz.func71 (by kernel_rfl) (by kernel_rfl) ⟨bin_iadd rfl (by omega) (by omega), bin_igt (decide_eq_true (by omega)), bin_ine rfl, trivial⟩
theorem w_ex2 {t : Te} {qs : List Te} {cs : List (List Dt)} {ex er : Int} (hx0 : 0 ≤ ex) (hx1 : ex ≤ 100000) (hx : ex < 20000) (he : er ≠ 0) : Suk 71 [.ptr 0 0, teA t, tesA qs] (bxN cs ex er) (.tup []) (bxN cs (ex + 1) er) :=
  psw (n := 2) (ks := [0, 1]) (an := [.av (inA (ex + 1)), yF, yT]) (ls := []) (ps := [Bn .add 3 (.tmp 11) (.const (vi 1)) (vi ex) (vi 1) (vi (ex + 1)), Bn .gtr 3 (.tmp 18) (.const (vi 20000)) (vi (ex + 1)) (vi 20000) bF, Bn .neq 65 (.tmp 26) (.const (vi 0)) (vi er) (vi 0) bT]) Tryz.func71 (by kernel_rfl) (by kernel_rfl) ⟨bin_iadd rfl (by omega) (by omega), bin_igt (decide_eq_false (by omega)), bin_ine (by simp [he]), trivial⟩
theorem w_ex3 {t : Te} {qs : List Te} {cs : List (List Dt)} {ex er : Int} {cs' : List (List Dt)} {ex' er' : Int} (hx0 : 0 ≤ ex) (hx1 : ex ≤ 100000) (hx : ex < 20000) (he : er = 0) (hk : t.kind = 2) (hn : Puk 55 [obA t.val] (boA true)) (hc : Suk 92 [.ptr 0 0, tesA qs, tesA []] (bxN cs (ex + 1) er) (.tup []) (bxN cs' ex' er'))  : Suk 71 [.ptr 0 0, teA t, tesA qs] (bxN cs ex er) (.tup []) (bxN cs' ex' er') :=
  psw (n := 2) (ks := [0, 1]) (an := [.av (inA (ex + 1)), yF, yF, yT, yT]) (ls := [.scl 7 2 [0, 1] (.tup []) [some (.cells [.own 1 cs'.length, inA ex', inA er']), some (.buf 29 1 cs')]]) (ps := [Bn .add 3 (.tmp 11) (.const (vi 1)) (vi ex) (vi 1) (vi (ex + 1)), Bn .gtr 3 (.tmp 18) (.const (vi 20000)) (vi (ex + 1)) (vi 20000) bF, Bn .neq 65 (.tmp 26) (.const (vi 0)) (vi er) (vi 0) bF, Bn .eql 3 (.tmp 29) (.const (vi 2)) (vi t.kind) (vi 2) bT, Puk 55 [(obA t.val)] (boA true), Suk 92 [AV.ptr 0 0, AV.dt (Dt.row (List.map Te.enc qs)), AV.dt (Dt.row [])] [some (Bx.cells [AV.own 1 cs.length, AV.dt (Dt.val (vi (ex + 1))), AV.dt (Dt.val (vi er))]), some (Bx.buf 29 1 cs)] (AV.tup []) [some (Bx.cells [AV.own 1 cs'.length, inA ex', inA er']), some (Bx.buf 29 1 cs')]]) Tryz.func71 (by kernel_rfl) (by kernel_rfl) ⟨bin_iadd rfl (by omega) (by omega), bin_igt (decide_eq_false (by omega)), bin_ine (by simp [he]), bin_ieq (by simp [hk]), hn, hc, trivial⟩
theorem w_ex4 {t : Te} {qs : List Te} {cs : List (List Dt)} {ex er : Int} (hx0 : 0 ≤ ex) (hx1 : ex ≤ 100000) (hx : ex < 20000) (he : er = 0) (hk : t.kind = 2) (hn : Puk 55 [obA t.val] (boA false)) : Suk 71 [.ptr 0 0, teA t, tesA qs] (bxN cs ex er) (.tup []) (bxN cs (ex + 1) er) :=
  psw (n := 2) (ks := [0, 1]) (an := [.av (inA (ex + 1)), yF, yF, yT, yF]) (ls := []) (ps := [Bn .add 3 (.tmp 11) (.const (vi 1)) (vi ex) (vi 1) (vi (ex + 1)), Bn .gtr 3 (.tmp 18) (.const (vi 20000)) (vi (ex + 1)) (vi 20000) bF, Bn .neq 65 (.tmp 26) (.const (vi 0)) (vi er) (vi 0) bF, Bn .eql 3 (.tmp 29) (.const (vi 2)) (vi t.kind) (vi 2) bT, Puk 55 [(obA t.val)] (boA false)]) Tryz.func71 (by kernel_rfl) (by kernel_rfl) ⟨bin_iadd rfl (by omega) (by omega), bin_igt (decide_eq_false (by omega)), bin_ine (by simp [he]), bin_ieq (by simp [hk]), hn, trivial⟩
theorem w_ex5 {t : Te} {qs : List Te} {cs : List (List Dt)} {ex er : Int} {cs' : List (List Dt)} {ex' er' : Int} {a : Te} (hx0 : 0 ≤ ex) (hx1 : ex ≤ 100000) (hx : ex < 20000) (he : er = 0) (hk : t.kind ≠ 2) (hn : opened t = some a) (hc : Suk 71 [.ptr 0 0, teA a, tesA qs] (bxN cs (ex + 1) er) (.tup []) (bxN cs' ex' er'))  : Suk 71 [.ptr 0 0, teA t, tesA qs] (bxN cs ex er) (.tup []) (bxN cs' ex' er') :=
  psw (n := 2) (ks := [0, 1]) (an := [.av (inA (ex + 1)), yF, yF, yF, .av (.tup [teA a, boA true])]) (ls := [.scl 10 3 [0, 1] (.tup []) [some (.cells [.own 1 cs'.length, inA ex', inA er']), some (.buf 29 1 cs')]]) (ps := [Bn .add 3 (.tmp 11) (.const (vi 1)) (vi ex) (vi 1) (vi (ex + 1)), Bn .gtr 3 (.tmp 18) (.const (vi 20000)) (vi (ex + 1)) (vi 20000) bF, Bn .neq 65 (.tmp 26) (.const (vi 0)) (vi er) (vi 0) bF, Bn .eql 3 (.tmp 29) (.const (vi 2)) (vi t.kind) (vi 2) bF, Puk 93 [(teA t)] (.tup [(teA a), (boA true)]), Suk 71 [AV.ptr 0 0, teA a, AV.dt (Dt.row (List.map Te.enc qs))] [some (Bx.cells [AV.own 1 cs.length, AV.dt (Dt.val (vi (ex + 1))), AV.dt (Dt.val (vi er))]), some (Bx.buf 29 1 cs)] (AV.tup []) [some (Bx.cells [AV.own 1 cs'.length, inA ex', inA er']), some (Bx.buf 29 1 cs')]]) Tryz.func71 (by kernel_rfl) (by kernel_rfl) ⟨bin_iadd rfl (by omega) (by omega), bin_igt (decide_eq_false (by omega)), bin_ine (by simp [he]), bin_ieq (by simp [hk]), (p_opened t).val (by rw [hn]), hc, trivial⟩
theorem w_ex6 {t : Te} {qs : List Te} {cs : List (List Dt)} {ex er : Int} {cs' : List (List Dt)} {ex' er' : Int} {a d e : Te} (hx0 : 0 ≤ ex) (hx1 : ex ≤ 100000) (hx : ex < 20000) (he : er = 0) (hk : t.kind ≠ 2) (hn : opened t = none) (hi : is t ifB 3) (h0 : t.args[0]? = some a) (h1 : t.args[1]? = some d) (h2 : t.args[2]? = some e) (hc : Suk 94 [.ptr 0 0, teA a, teA d, teA e, tesA qs] (bxN cs (ex + 1) er) (.tup []) (bxN cs' ex' er'))  : Suk 71 [.ptr 0 0, teA t, tesA qs] (bxN cs ex er) (.tup []) (bxN cs' ex' er') :=
  psw (n := 2) (ks := [0, 1]) (an := [.av (inA (ex + 1)), yF, yF, yF, .av (.tup [teA zTe, boA false]), yT, .av (.pin ((encT a).map .dt)), .av (.pin ((encT d).map .dt)), .av (.pin ((encT e).map .dt))]) (ls := [.scl 12 14 [0, 1] (.tup []) [some (.cells [.own 1 cs'.length, inA ex', inA er']), some (.buf 29 1 cs')]]) (ps := [Bn .add 3 (.tmp 11) (.const (vi 1)) (vi ex) (vi 1) (vi (ex + 1)), Bn .gtr 3 (.tmp 18) (.const (vi 20000)) (vi (ex + 1)) (vi 20000) bF, Bn .neq 65 (.tmp 26) (.const (vi 0)) (vi er) (vi 0) bF, Bn .eql 3 (.tmp 29) (.const (vi 2)) (vi t.kind) (vi 2) bF, Puk 93 [(teA t)] (.tup [(.agg [(inA 0), (stA zTe.np), (stA zTe.nn), (inA 0), (stA zTe.val.num), (stA zTe.val.den), (stA zTe.val.sp), (stA zTe.val.sn), (stA zTe.val.text), (.dt (.row (List.map Ob.enc zTe.val.pair))), (.dt (.row (List.map Te.enc zTe.args)))]), (boA false)]), Puk 56 [(teA t), (stA [105, 102]), (inA 3)] (boA true), IxAt (List.map Te.enc t.args) 0 11 (encT a), IxAt (List.map Te.enc t.args) 1 11 (encT d), IxAt (List.map Te.enc t.args) 2 11 (encT e), Suk 94 [AV.ptr 0 0, teA a, teA d, teA e, AV.dt (Dt.row (List.map Te.enc qs))] [some (Bx.cells [AV.own 1 cs.length, AV.dt (Dt.val (vi (ex + 1))), AV.dt (Dt.val (vi er))]), some (Bx.buf 29 1 cs)] (AV.tup []) [some (Bx.cells [AV.own 1 cs'.length, inA ex', inA er']), some (Bx.buf 29 1 cs')]]) Tryz.func71 (by kernel_rfl) (by kernel_rfl) ⟨bin_iadd rfl (by omega) (by omega), bin_igt (decide_eq_false (by omega)), bin_ine (by simp [he]), bin_ieq (by simp [hk]), (p_opened t).val (by rw [hn]), (p_is t ifB 3).b (yesD hi), ix_te h0, ix_te h1, ix_te h2, hc, trivial⟩
theorem w_ex7 {t : Te} {qs : List Te} {cs : List (List Dt)} {ex er : Int} (hx0 : 0 ≤ ex) (hx1 : ex ≤ 100000) (hx : ex < 20000) (he : er = 0) (hk : t.kind ≠ 2) (hn : opened t = none) (hi : ¬ is t ifB 3) (hl : qs.length ≤ 9223372036854775807) (hq : ∀ q ∈ qs, q.Wf) (hm : t ∈ qs) : Suk 71 [.ptr 0 0, teA t, tesA qs] (bxN cs ex er) (.tup []) (bxN cs (ex + 1) er) :=
  psw (n := 2) (ks := [0, 1]) (an := [.av (inA (ex + 1)), yF, yF, yF, .av (.tup [teA zTe, boA false]), yF, yT]) (ls := []) (ps := [Bn .add 3 (.tmp 11) (.const (vi 1)) (vi ex) (vi 1) (vi (ex + 1)), Bn .gtr 3 (.tmp 18) (.const (vi 20000)) (vi (ex + 1)) (vi 20000) bF, Bn .neq 65 (.tmp 26) (.const (vi 0)) (vi er) (vi 0) bF, Bn .eql 3 (.tmp 29) (.const (vi 2)) (vi t.kind) (vi 2) bF, Puk 93 [(teA t)] (.tup [(.agg [(inA 0), (stA zTe.np), (stA zTe.nn), (inA 0), (stA zTe.val.num), (stA zTe.val.den), (stA zTe.val.sp), (stA zTe.val.sn), (stA zTe.val.text), (.dt (.row (List.map Ob.enc zTe.val.pair))), (.dt (.row (List.map Te.enc zTe.args)))]), (boA false)]), Puk 56 [(teA t), (stA [105, 102]), (inA 3)] (boA false), Puk 24 [(.dt (.row (List.map Te.enc qs))), (teA t)] (boA true)]) Tryz.func71 (by kernel_rfl) (by kernel_rfl) ⟨bin_iadd rfl (by omega) (by omega), bin_igt (decide_eq_false (by omega)), bin_ine (by simp [he]), bin_ieq (by simp [hk]), (p_opened t).val (by rw [hn]), (p_is t ifB 3).b (noD hi), (p_cont hl hq t).b (yesD hm), trivial⟩
theorem w_ex8 {t : Te} {qs : List Te} {cs : List (List Dt)} {ex er : Int} {cs' : List (List Dt)} {ex' er' : Int} (hx0 : 0 ≤ ex) (hx1 : ex ≤ 100000) (hx : ex < 20000) (he : er = 0) (hk : t.kind ≠ 2) (hn : opened t = none) (hi : ¬ is t ifB 3) (hl : qs.length ≤ 9223372036854775807) (hq : ∀ q ∈ qs, q.Wf) (hm : t ∉ qs) (hm2 : ap notB [t] ∈ qs) (hc : Suk 92 [.ptr 0 0, tesA qs, tesA []] (bxN cs (ex + 1) er) (.tup []) (bxN cs' ex' er'))  : Suk 71 [.ptr 0 0, teA t, tesA qs] (bxN cs ex er) (.tup []) (bxN cs' ex' er') :=
  psw (n := 2) (ks := [0, 1]) (an := [.av (inA (ex + 1)), yF, yF, yF, .av (.tup [teA zTe, boA false]), yF, yF, .av (teA (ap notB [t])), yT]) (ls := [.scl 16 2 [0, 1] (.tup []) [some (.cells [.own 1 cs'.length, inA ex', inA er']), some (.buf 29 1 cs')]]) (ps := [Bn .add 3 (.tmp 11) (.const (vi 1)) (vi ex) (vi 1) (vi (ex + 1)), Bn .gtr 3 (.tmp 18) (.const (vi 20000)) (vi (ex + 1)) (vi 20000) bF, Bn .neq 65 (.tmp 26) (.const (vi 0)) (vi er) (vi 0) bF, Bn .eql 3 (.tmp 29) (.const (vi 2)) (vi t.kind) (vi 2) bF, Puk 93 [(teA t)] (.tup [(.agg [(inA 0), (stA zTe.np), (stA zTe.nn), (inA 0), (stA zTe.val.num), (stA zTe.val.den), (stA zTe.val.sp), (stA zTe.val.sn), (stA zTe.val.text), (.dt (.row (List.map Ob.enc zTe.val.pair))), (.dt (.row (List.map Te.enc zTe.args)))]), (boA false)]), Puk 56 [(teA t), (stA [105, 102]), (inA 3)] (boA false), Puk 24 [(.dt (.row (List.map Te.enc qs))), (teA t)] (boA false), Puk 61 [(stA [110, 111, 116]), (.dt (.row [encT t]))] (teA (ap notB [t])), Puk 24 [(.dt (.row (List.map Te.enc qs))), (teA (ap notB [t]))] (boA true), Suk 92 [AV.ptr 0 0, AV.dt (Dt.row (List.map Te.enc qs)), AV.dt (Dt.row [])] [some (Bx.cells [AV.own 1 cs.length, AV.dt (Dt.val (vi (ex + 1))), AV.dt (Dt.val (vi er))]), some (Bx.buf 29 1 cs)] (AV.tup []) [some (Bx.cells [AV.own 1 cs'.length, inA ex', inA er']), some (Bx.buf 29 1 cs')]]) Tryz.func71 (by kernel_rfl) (by kernel_rfl) ⟨bin_iadd rfl (by omega) (by omega), bin_igt (decide_eq_false (by omega)), bin_ine (by simp [he]), bin_ieq (by simp [hk]), (p_opened t).val (by rw [hn]), (p_is t ifB 3).b (noD hi), (p_cont hl hq t).b (noD hm), p_tLisp1 notB t, (p_cont hl hq (ap notB [t])).b (yesD hm2), hc, trivial⟩
theorem w_ex9 {t : Te} {qs : List Te} {cs : List (List Dt)} {ex er : Int} {cs' : List (List Dt)} {ex' er' : Int} (hx0 : 0 ≤ ex) (hx1 : ex ≤ 100000) (hx : ex < 20000) (he : er = 0) (hk : t.kind ≠ 2) (hn : opened t = none) (hi : ¬ is t ifB 3) (hl : qs.length ≤ 9223372036854775807) (hq : ∀ q ∈ qs, q.Wf) (hm : t ∉ qs) (hm2 : ap notB [t] ∉ qs) (hc : Suk 92 [.ptr 0 0, tesA qs, tesA [t]] (bxN cs (ex + 1) er) (.tup []) (bxN cs' ex' er'))  : Suk 71 [.ptr 0 0, teA t, tesA qs] (bxN cs ex er) (.tup []) (bxN cs' ex' er') :=
  psw (n := 2) (ks := [0, 1]) (an := [.av (inA (ex + 1)), yF, yF, yF, .av (.tup [teA zTe, boA false]), yF, yF, .av (teA (ap notB [t])), yF]) (ls := [.scl 13 4 [0, 1] (.tup []) [some (.cells [.own 1 cs'.length, inA ex', inA er']), some (.buf 29 1 cs')]]) (ps := [Bn .add 3 (.tmp 11) (.const (vi 1)) (vi ex) (vi 1) (vi (ex + 1)), Bn .gtr 3 (.tmp 18) (.const (vi 20000)) (vi (ex + 1)) (vi 20000) bF, Bn .neq 65 (.tmp 26) (.const (vi 0)) (vi er) (vi 0) bF, Bn .eql 3 (.tmp 29) (.const (vi 2)) (vi t.kind) (vi 2) bF, Puk 93 [(teA t)] (.tup [(.agg [(inA 0), (stA zTe.np), (stA zTe.nn), (inA 0), (stA zTe.val.num), (stA zTe.val.den), (stA zTe.val.sp), (stA zTe.val.sn), (stA zTe.val.text), (.dt (.row (List.map Ob.enc zTe.val.pair))), (.dt (.row (List.map Te.enc zTe.args)))]), (boA false)]), Puk 56 [(teA t), (stA [105, 102]), (inA 3)] (boA false), Puk 24 [(.dt (.row (List.map Te.enc qs))), (teA t)] (boA false), Puk 61 [(stA [110, 111, 116]), (.dt (.row [encT t]))] (teA (ap notB [t])), Puk 24 [(.dt (.row (List.map Te.enc qs))), (teA (ap notB [t]))] (boA false), Suk 92 [AV.ptr 0 0, AV.dt (Dt.row (List.map Te.enc qs)), AV.dt (Dt.row ([encT t]))] [some (Bx.cells [AV.own 1 cs.length, AV.dt (Dt.val (vi (ex + 1))), AV.dt (Dt.val (vi er))]), some (Bx.buf 29 1 cs)] (AV.tup []) [some (Bx.cells [AV.own 1 cs'.length, inA ex', inA er']), some (Bx.buf 29 1 cs')]]) Tryz.func71 (by kernel_rfl) (by kernel_rfl) ⟨bin_iadd rfl (by omega) (by omega), bin_igt (decide_eq_false (by omega)), bin_ine (by simp [he]), bin_ieq (by simp [hk]), (p_opened t).val (by rw [hn]), (p_is t ifB 3).b (noD hi), (p_cont hl hq t).b (noD hm), p_tLisp1 notB t, (p_cont hl hq (ap notB [t])).b (noD hm2), ex_fail hc, trivial⟩
theorem w_c1 {a d e : Te} {qs : List Te} {cs : List (List Dt)} {ex er : Int} {cs' : List (List Dt)} {ex' er' : Int} (hk : a.kind = 2) (hn : Puk 55 [obA a.val] (boA true)) (hc : Suk 71 [.ptr 0 0, teA e, tesA qs] (bxN cs ex er) (.tup []) (bxN cs' ex' er'))  : Suk 94 [.ptr 0 0, teA a, teA d, teA e, tesA qs] (bxN cs ex er) (.tup []) (bxN cs' ex' er') :=
  psw (n := 2) (ks := [0, 1]) (an := [.av (teA (ap notB [a])), yT, yT]) (ls := [.scl 3 3 [0, 1] (.tup []) [some (.cells [.own 1 cs'.length, inA ex', inA er']), some (.buf 29 1 cs')]]) (ps := [Puk 61 [(stA [110, 111, 116]), (.dt (.row [encT a]))] (teA (ap notB [a])), Bn .eql 3 (.tmp 18) (.const (vi 2)) (vi a.kind) (vi 2) bT, Puk 55 [(obA a.val)] (boA true), Suk 71 [AV.ptr 0 0, teA e, AV.dt (Dt.row (List.map Te.enc qs))] [some (Bx.cells [AV.own 1 cs.length, AV.dt (Dt.val (vi ex)), AV.dt (Dt.val (vi er))]), some (Bx.buf 29 1 cs)] (AV.tup []) [some (Bx.cells [AV.own 1 cs'.length, inA ex', inA er']), some (Bx.buf 29 1 cs')]]) Tryz.func94 (by kernel_rfl) (by kernel_rfl) ⟨p_tLisp1 notB a, bin_ieq (by simp [hk]), hn, hc, trivial⟩
theorem w_c2 {a d e : Te} {qs : List Te} {cs : List (List Dt)} {ex er : Int} {cs' : List (List Dt)} {ex' er' : Int} (hk : a.kind = 2) (hn : Puk 55 [obA a.val] (boA false)) (hc : Suk 71 [.ptr 0 0, teA d, tesA qs] (bxN cs ex er) (.tup []) (bxN cs' ex' er'))  : Suk 94 [.ptr 0 0, teA a, teA d, teA e, tesA qs] (bxN cs ex er) (.tup []) (bxN cs' ex' er') :=
  psw (n := 2) (ks := [0, 1]) (an := [.av (teA (ap notB [a])), yT, yF, yT]) (ls := [.scl 5 3 [0, 1] (.tup []) [some (.cells [.own 1 cs'.length, inA ex', inA er']), some (.buf 29 1 cs')]]) (ps := [Puk 61 [(stA [110, 111, 116]), (.dt (.row [encT a]))] (teA (ap notB [a])), Bn .eql 3 (.tmp 18) (.const (vi 2)) (vi a.kind) (vi 2) bT, Puk 55 [(obA a.val)] (boA false), Bn .eql 3 (.tmp 31) (.const (vi 2)) (vi a.kind) (vi 2) bT, Suk 71 [AV.ptr 0 0, teA d, AV.dt (Dt.row (List.map Te.enc qs))] [some (Bx.cells [AV.own 1 cs.length, AV.dt (Dt.val (vi ex)), AV.dt (Dt.val (vi er))]), some (Bx.buf 29 1 cs)] (AV.tup []) [some (Bx.cells [AV.own 1 cs'.length, inA ex', inA er']), some (Bx.buf 29 1 cs')]]) Tryz.func94 (by kernel_rfl) (by kernel_rfl) ⟨p_tLisp1 notB a, bin_ieq (by simp [hk]), hn, bin_ieq (by simp [hk]), hc, trivial⟩
theorem w_c3 {a d e : Te} {qs : List Te} {cs : List (List Dt)} {ex er : Int} {cs' : List (List Dt)} {ex' er' : Int} {a0 : Te} (hk : a.kind ≠ 2) (hi : is a notB 1) (h0 : a.args[0]? = some a0) (hc : Suk 71 [.ptr 0 0, teA (ap ifB [a0, e, d]), tesA qs] (bxN cs ex er) (.tup []) (bxN cs' ex' er'))  : Suk 94 [.ptr 0 0, teA a, teA d, teA e, tesA qs] (bxN cs ex er) (.tup []) (bxN cs' ex' er') :=
  psw (n := 2) (ks := [0, 1]) (an := [.av (teA (ap notB [a])), yF, yF, yT, .av (.pin ((encT a0).map .dt)), .av (teA (ap ifB [a0, e, d]))]) (ls := [.scl 7 10 [0, 1] (.tup []) [some (.cells [.own 1 cs'.length, inA ex', inA er']), some (.buf 29 1 cs')]]) (ps := [Puk 61 [(stA [110, 111, 116]), (.dt (.row [encT a]))] (teA (ap notB [a])), Bn .eql 3 (.tmp 18) (.const (vi 2)) (vi a.kind) (vi 2) bF, Bn .eql 3 (.tmp 31) (.const (vi 2)) (vi a.kind) (vi 2) bF, Puk 56 [(teA a), (stA [110, 111, 116]), (inA 1)] (boA true), IxAt (List.map Te.enc a.args) 0 11 (encT a0), Puk 61 [(stA [105, 102]), (.dt (.row [encT a0, encT e, encT d]))] (teA (ap ifB [a0, e, d])), Suk 71 [AV.ptr 0 0, teA (ap ifB [a0, e, d]), AV.dt (Dt.row (List.map Te.enc qs))] [some (Bx.cells [AV.own 1 cs.length, AV.dt (Dt.val (vi ex)), AV.dt (Dt.val (vi er))]), some (Bx.buf 29 1 cs)] (AV.tup []) [some (Bx.cells [AV.own 1 cs'.length, inA ex', inA er']), some (Bx.buf 29 1 cs')]]) Tryz.func94 (by kernel_rfl) (by kernel_rfl) ⟨p_tLisp1 notB a, bin_ieq (by simp [hk]), bin_ieq (by simp [hk]), (p_is a notB 1).b (yesD hi), ix_te h0, p_tLisp3 ifB a0 e d, hc, trivial⟩
theorem w_c4 {a d e : Te} {qs : List Te} {cs : List (List Dt)} {ex er : Int} {cs' : List (List Dt)} {ex' er' : Int} {a0 a1 a2 : Te} (hk : a.kind ≠ 2) (hi : ¬ is a notB 1) (hj : is a ifB 3) (h0 : a.args[0]? = some a0) (h1 : a.args[1]? = some a1) (h2 : a.args[2]? = some a2) (hc : Suk 71 [.ptr 0 0, teA (ap ifB [a0, ap ifB [a1, d, e], ap ifB [a2, d, e]]), tesA qs] (bxN cs ex er) (.tup []) (bxN cs' ex' er'))  : Suk 94 [.ptr 0 0, teA a, teA d, teA e, tesA qs] (bxN cs ex er) (.tup []) (bxN cs' ex' er') :=
  psw (n := 2) (ks := [0, 1]) (an := [.av (teA (ap notB [a])), yF, yF, yF, yT, .av (.pin ((encT a0).map .dt)), .av (.pin ((encT a1).map .dt)), .av (teA (ap ifB [a1, d, e])), .av (.pin ((encT a2).map .dt)), .av (teA (ap ifB [a2, d, e])), .av (teA (ap ifB [a0, ap ifB [a1, d, e], ap ifB [a2, d, e]]))]) (ls := [.scl 9 24 [0, 1] (.tup []) [some (.cells [.own 1 cs'.length, inA ex', inA er']), some (.buf 29 1 cs')]]) (ps := [Puk 61 [(stA [110, 111, 116]), (.dt (.row [encT a]))] (teA (ap notB [a])), Bn .eql 3 (.tmp 18) (.const (vi 2)) (vi a.kind) (vi 2) bF, Bn .eql 3 (.tmp 31) (.const (vi 2)) (vi a.kind) (vi 2) bF, Puk 56 [(teA a), (stA [110, 111, 116]), (inA 1)] (boA false), Puk 56 [(teA a), (stA [105, 102]), (inA 3)] (boA true), IxAt (List.map Te.enc a.args) 0 11 (encT a0), IxAt (List.map Te.enc a.args) 1 11 (encT a1), Puk 61 [(stA [105, 102]), (.dt (.row [encT a1, encT d, encT e]))] (teA (ap ifB [a1, d, e])), IxAt (List.map Te.enc a.args) 2 11 (encT a2), Puk 61 [(stA [105, 102]), (.dt (.row [encT a2, encT d, encT e]))] (teA (ap ifB [a2, d, e])), Puk 61 [(stA [105, 102]), (.dt (.row [encT a0, encT (ap ifB [a1, d, e]), encT (ap ifB [a2, d, e])]))] (teA (ap ifB [a0, ap ifB [a1, d, e], ap ifB [a2, d, e]])), Suk 71 [AV.ptr 0 0, teA (ap ifB [a0, ap ifB [a1, d, e], ap ifB [a2, d, e]]), AV.dt (Dt.row (List.map Te.enc qs))] [some (Bx.cells [AV.own 1 cs.length, AV.dt (Dt.val (vi ex)), AV.dt (Dt.val (vi er))]), some (Bx.buf 29 1 cs)] (AV.tup []) [some (Bx.cells [AV.own 1 cs'.length, inA ex', inA er']), some (Bx.buf 29 1 cs')]]) Tryz.func94 (by kernel_rfl) (by kernel_rfl) ⟨p_tLisp1 notB a, bin_ieq (by simp [hk]), bin_ieq (by simp [hk]), (p_is a notB 1).b (noD hi), (p_is a ifB 3).b (yesD hj), ix_te h0, ix_te h1, p_tLisp3 ifB a1 d e, ix_te h2, p_tLisp3 ifB a2 d e, p_tLisp3 ifB a0 (ap ifB [a1, d, e]) (ap ifB [a2, d, e]), hc, trivial⟩
theorem w_c5 {a d e : Te} {qs : List Te} {cs : List (List Dt)} {ex er : Int} {cs' : List (List Dt)} {ex' er' : Int} {b : Te} (hk : a.kind ≠ 2) (hi : ¬ is a notB 1) (hj : ¬ is a ifB 3) (hn : opened a = some b) (hc : Suk 71 [.ptr 0 0, teA (ap ifB [b, d, e]), tesA qs] (bxN cs ex er) (.tup []) (bxN cs' ex' er'))  : Suk 94 [.ptr 0 0, teA a, teA d, teA e, tesA qs] (bxN cs ex er) (.tup []) (bxN cs' ex' er') :=
  psw (n := 2) (ks := [0, 1]) (an := [.av (teA (ap notB [a])), yF, yF, yF, yF, .av (.tup [teA b, boA true]), .av (teA (ap ifB [b, d, e]))]) (ls := [.scl 12 7 [0, 1] (.tup []) [some (.cells [.own 1 cs'.length, inA ex', inA er']), some (.buf 29 1 cs')]]) (ps := [Puk 61 [(stA [110, 111, 116]), (.dt (.row [encT a]))] (teA (ap notB [a])), Bn .eql 3 (.tmp 18) (.const (vi 2)) (vi a.kind) (vi 2) bF, Bn .eql 3 (.tmp 31) (.const (vi 2)) (vi a.kind) (vi 2) bF, Puk 56 [(teA a), (stA [110, 111, 116]), (inA 1)] (boA false), Puk 56 [(teA a), (stA [105, 102]), (inA 3)] (boA false), Puk 93 [(teA a)] (.tup [(teA b), (boA true)]), Puk 61 [(stA [105, 102]), (.dt (.row [encT b, encT d, encT e]))] (teA (ap ifB [b, d, e])), Suk 71 [AV.ptr 0 0, teA (ap ifB [b, d, e]), AV.dt (Dt.row (List.map Te.enc qs))] [some (Bx.cells [AV.own 1 cs.length, AV.dt (Dt.val (vi ex)), AV.dt (Dt.val (vi er))]), some (Bx.buf 29 1 cs)] (AV.tup []) [some (Bx.cells [AV.own 1 cs'.length, inA ex', inA er']), some (Bx.buf 29 1 cs')]]) Tryz.func94 (by kernel_rfl) (by kernel_rfl) ⟨p_tLisp1 notB a, bin_ieq (by simp [hk]), bin_ieq (by simp [hk]), (p_is a notB 1).b (noD hi), (p_is a ifB 3).b (noD hj), (p_opened a).val (by rw [hn]), p_tLisp3 ifB b d e, hc, trivial⟩
theorem w_c6 {a d e : Te} {qs : List Te} {cs : List (List Dt)} {ex er : Int} {cs' : List (List Dt)} {ex' er' : Int} (hk : a.kind ≠ 2) (hi : ¬ is a notB 1) (hj : ¬ is a ifB 3) (hn : opened a = none) (hl : qs.length ≤ 100000) (hq : ∀ q ∈ qs, q.Wf) (hm : a ∈ qs) (hc : Suk 71 [.ptr 0 0, teA d, tesA qs] (bxN cs ex er) (.tup []) (bxN cs' ex' er'))  : Suk 94 [.ptr 0 0, teA a, teA d, teA e, tesA qs] (bxN cs ex er) (.tup []) (bxN cs' ex' er') :=
  psw (n := 2) (ks := [0, 1]) (an := [.av (teA (ap notB [a])), yF, yF, yF, yF, .av (.tup [teA zTe, boA false]), yT]) (ls := [.scl 16 3 [0, 1] (.tup []) [some (.cells [.own 1 cs'.length, inA ex', inA er']), some (.buf 29 1 cs')]]) (ps := [Puk 61 [(stA [110, 111, 116]), (.dt (.row [encT a]))] (teA (ap notB [a])), Bn .eql 3 (.tmp 18) (.const (vi 2)) (vi a.kind) (vi 2) bF, Bn .eql 3 (.tmp 31) (.const (vi 2)) (vi a.kind) (vi 2) bF, Puk 56 [(teA a), (stA [110, 111, 116]), (inA 1)] (boA false), Puk 56 [(teA a), (stA [105, 102]), (inA 3)] (boA false), Puk 93 [(teA a)] (.tup [(.agg [(inA 0), (stA zTe.np), (stA zTe.nn), (inA 0), (stA zTe.val.num), (stA zTe.val.den), (stA zTe.val.sp), (stA zTe.val.sn), (stA zTe.val.text), (.dt (.row (List.map Ob.enc zTe.val.pair))), (.dt (.row (List.map Te.enc zTe.args)))]), (boA false)]), Puk 24 [(.dt (.row (List.map Te.enc qs))), (teA a)] (boA true), Suk 71 [AV.ptr 0 0, teA d, AV.dt (Dt.row (List.map Te.enc qs))] [some (Bx.cells [AV.own 1 cs.length, AV.dt (Dt.val (vi ex)), AV.dt (Dt.val (vi er))]), some (Bx.buf 29 1 cs)] (AV.tup []) [some (Bx.cells [AV.own 1 cs'.length, inA ex', inA er']), some (Bx.buf 29 1 cs')]]) Tryz.func94 (by kernel_rfl) (by kernel_rfl) ⟨p_tLisp1 notB a, bin_ieq (by simp [hk]), bin_ieq (by simp [hk]), (p_is a notB 1).b (noD hi), (p_is a ifB 3).b (noD hj), (p_opened a).val (by rw [hn]), (p_cont (by omega) hq a).b (yesD hm), hc, trivial⟩
theorem w_c7 {a d e : Te} {qs : List Te} {cs : List (List Dt)} {ex er : Int} {cs' : List (List Dt)} {ex' er' : Int} (hk : a.kind ≠ 2) (hi : ¬ is a notB 1) (hj : ¬ is a ifB 3) (hn : opened a = none) (hl : qs.length ≤ 100000) (hq : ∀ q ∈ qs, q.Wf) (hm : a ∉ qs) (hm2 : ap notB [a] ∈ qs) (hc : Suk 71 [.ptr 0 0, teA e, tesA qs] (bxN cs ex er) (.tup []) (bxN cs' ex' er'))  : Suk 94 [.ptr 0 0, teA a, teA d, teA e, tesA qs] (bxN cs ex er) (.tup []) (bxN cs' ex' er') :=
  psw (n := 2) (ks := [0, 1]) (an := [.av (teA (ap notB [a])), yF, yF, yF, yF, .av (.tup [teA zTe, boA false]), yF, yT]) (ls := [.scl 18 3 [0, 1] (.tup []) [some (.cells [.own 1 cs'.length, inA ex', inA er']), some (.buf 29 1 cs')]]) (ps := [Puk 61 [(stA [110, 111, 116]), (.dt (.row [encT a]))] (teA (ap notB [a])), Bn .eql 3 (.tmp 18) (.const (vi 2)) (vi a.kind) (vi 2) bF, Bn .eql 3 (.tmp 31) (.const (vi 2)) (vi a.kind) (vi 2) bF, Puk 56 [(teA a), (stA [110, 111, 116]), (inA 1)] (boA false), Puk 56 [(teA a), (stA [105, 102]), (inA 3)] (boA false), Puk 93 [(teA a)] (.tup [(.agg [(inA 0), (stA zTe.np), (stA zTe.nn), (inA 0), (stA zTe.val.num), (stA zTe.val.den), (stA zTe.val.sp), (stA zTe.val.sn), (stA zTe.val.text), (.dt (.row (List.map Ob.enc zTe.val.pair))), (.dt (.row (List.map Te.enc zTe.args)))]), (boA false)]), Puk 24 [(.dt (.row (List.map Te.enc qs))), (teA a)] (boA false), Puk 24 [(.dt (.row (List.map Te.enc qs))), (teA (ap notB [a]))] (boA true), Suk 71 [AV.ptr 0 0, teA e, AV.dt (Dt.row (List.map Te.enc qs))] [some (Bx.cells [AV.own 1 cs.length, AV.dt (Dt.val (vi ex)), AV.dt (Dt.val (vi er))]), some (Bx.buf 29 1 cs)] (AV.tup []) [some (Bx.cells [AV.own 1 cs'.length, inA ex', inA er']), some (Bx.buf 29 1 cs')]]) Tryz.func94 (by kernel_rfl) (by kernel_rfl) ⟨p_tLisp1 notB a, bin_ieq (by simp [hk]), bin_ieq (by simp [hk]), (p_is a notB 1).b (noD hi), (p_is a ifB 3).b (noD hj), (p_opened a).val (by rw [hn]), (p_cont (by omega) hq a).b (noD hm), (p_cont (by omega) hq (ap notB [a])).b (yesD hm2), hc, trivial⟩
theorem w_c8 {a d e : Te} {qs : List Te} {cs : List (List Dt)} {ex er : Int} {cs1 : List (List Dt)} {ex1 er1 : Int} {cs' : List (List Dt)} {ex' er' : Int} (hk : a.kind ≠ 2) (hi : ¬ is a notB 1) (hj : ¬ is a ifB 3) (hn : opened a = none) (hl : qs.length ≤ 100000) (hq : ∀ q ∈ qs, q.Wf) (hm : a ∉ qs) (hm2 : ap notB [a] ∉ qs) (hc1 : Suk 71 [.ptr 0 0, teA d, tesA (qs ++ [a])] (bxN cs ex er) (.tup []) (bxN cs1 ex1 er1)) (hc2 : Suk 71 [.ptr 0 0, teA e, tesA (qs ++ [ap notB [a]])] (bxN cs1 ex1 er1) (.tup []) (bxN cs' ex' er'))  : Suk 94 [.ptr 0 0, teA a, teA d, teA e, tesA qs] (bxN cs ex er) (.tup []) (bxN cs' ex' er') :=
  psw (n := 2) (ks := [0, 1]) (an := [.av (teA (ap notB [a])), yF, yF, yF, yF, .av (.tup [teA zTe, boA false]), yF, yF, .av (.ful (encTs qs)), .av (.un), .av (.ful (encTs qs)), .av (.un)]) (ls := [.scl 13 7 [0, 1] (.tup []) [some (.cells [.own 1 cs1.length, inA ex1, inA er1]), some (.buf 29 1 cs1)], .scl 14 7 [0, 1] (.tup []) [some (.cells [.own 1 cs'.length, inA ex', inA er']), some (.buf 29 1 cs')]]) (ps := [Puk 61 [(stA [110, 111, 116]), (.dt (.row [encT a]))] (teA (ap notB [a])), Bn .eql 3 (.tmp 18) (.const (vi 2)) (vi a.kind) (vi 2) bF, Bn .eql 3 (.tmp 31) (.const (vi 2)) (vi a.kind) (vi 2) bF, Puk 56 [(teA a), (stA [110, 111, 116]), (inA 1)] (boA false), Puk 56 [(teA a), (stA [105, 102]), (inA 3)] (boA false), Puk 93 [(teA a)] (.tup [(.agg [(inA 0), (stA zTe.np), (stA zTe.nn), (inA 0), (stA zTe.val.num), (stA zTe.val.den), (stA zTe.val.sp), (stA zTe.val.sn), (stA zTe.val.text), (.dt (.row (List.map Ob.enc zTe.val.pair))), (.dt (.row (List.map Te.enc zTe.args)))]), (boA false)]), Puk 24 [(.dt (.row (List.map Te.enc qs))), (teA a)] (boA false), Puk 24 [(.dt (.row (List.map Te.enc qs))), (teA (ap notB [a]))] (boA false), Puk 114 [(.dt (.row (List.map Te.enc qs)))] (.ful (encTs qs)), 1 ≤ (([encT a]).length), FitB 176 ((encTs qs ++ [encT a]).length), SrcOK 11 (encTs qs ++ [encT a]), Suk 71 [AV.ptr 0 0, teA d, AV.dt (Dt.row (encTs qs ++ [encT a]))] [some (Bx.cells [AV.own 1 cs.length, AV.dt (Dt.val (vi ex)), AV.dt (Dt.val (vi er))]), some (Bx.buf 29 1 cs)] (AV.tup []) [some (Bx.cells [AV.own 1 cs1.length, inA ex1, inA er1]), some (Bx.buf 29 1 cs1)], ((encTs qs ++ [encT a]).length) = ((encTs qs ++ [encT a]).length), Puk 114 [(.dt (.row (List.map Te.enc qs)))] (.ful (encTs qs)), 1 ≤ (([encT (ap notB [a])]).length), FitB 176 ((encTs qs ++ [encT (ap notB [a])]).length), SrcOK 11 (encTs qs ++ [encT (ap notB [a])]), Suk 71 [AV.ptr 0 0, teA e, AV.dt (Dt.row (encTs qs ++ [encT (ap notB [a])]))] [some (Bx.cells [AV.own 1 cs1.length, AV.dt (Dt.val (vi ex1)), AV.dt (Dt.val (vi er1))]), some (Bx.buf 29 1 cs1)] (AV.tup []) [some (Bx.cells [AV.own 1 cs'.length, inA ex', inA er']), some (Bx.buf 29 1 cs')], ((encTs qs ++ [encT (ap notB [a])]).length) = ((encTs qs ++ [encT (ap notB [a])]).length)]) Tryz.func94 (by kernel_rfl) (by kernel_rfl) ⟨p_tLisp1 notB a, bin_ieq (by simp [hk]), bin_ieq (by simp [hk]), (p_is a notB 1).b (noD hi), (p_is a ifB 3).b (noD hj), (p_opened a).val (by rw [hn]), (p_cont (by omega) hq a).b (noD hm), (p_cont (by omega) hq (ap notB [a])).b (noD hm2), p_clip qs (by omega), Nat.le_refl 1, fit_of (by omega) (by simp; omega), enc_snoc qs a ▸ src_te _, enc_snoc qs a ▸ hc1, rfl, p_clip qs (by omega), Nat.le_refl 1, fit_of (by omega) (by simp; omega), enc_snoc qs (ap notB [a]) ▸ src_te _, enc_snoc qs (ap notB [a]) ▸ hc2, rfl, trivial⟩
end Go.Proofs.YtendgffijciehaaGreatDoor
/- The code's normalizer: what it leaves. -/
namespace Go.Proofs.YtendgffijciehaaGreatDoor
open Go.RowKit
open Te

namespace Te
/-- nothing but the symbol nil looks like nil, all the way down -/
inductive Gd : Te → Prop
  | mk (t : Te) (hv : t.val.Wf) (hn : t.val.kind = 2 ∧ t.val.sp = lispB ∧ t.val.sn = nilB → t.val = nilO) (hl : t.args.length ≤ 9223372036854775807) (h : ∀ x ∈ t.args, Gd x) : Gd t
theorem Gd.nil {t : Te} (h : t.Gd) : t.val.kind = 2 ∧ t.val.sp = lispB ∧ t.val.sn = nilB ↔ t.val = nilO := by
  cases h with | mk _ hv hn hl hh => exact ⟨hn, fun e => by rw [e]; exact ⟨rfl, rfl, rfl⟩⟩
theorem Gd.kids {t x : Te} (h : t.Gd) (hx : x ∈ t.args) : x.Gd := by cases h with | mk _ hv hn hl hh => exact hh x hx
theorem Gd.wf {t : Te} (h : t.Gd) : t.Wf := by
  induction h with
  | mk t hv hn hl hh ih => exact .mk t hv hl ih
theorem zOb_wf : zOb.Wf := .mk _ (by decide) (by decide) (by decide) (by decide) (by decide) (by decide) (by decide) (by decide) (fun x hx => by cases hx)
theorem symO_wf {p n : List UInt8} (hp : p.length ≤ 1000) (hn : n.length ≤ 1000) : (symO p n).Wf := .mk _ (by show (-9223372036854775808 : Int) ≤ 2; omega) (by show (2 : Int) ≤ 9223372036854775807; omega) (Nat.zero_le _) (Nat.zero_le _) (by show p.length ≤ _; omega) (by show n.length ≤ _; omega) (Nat.zero_le _) (Nat.zero_le _) (fun x hx => by cases hx)
theorem Gd.ap {n : List UInt8} {l : List Te} (hl : l.length ≤ 1000) (h : ∀ x ∈ l, x.Gd) : (Te.ap n l).Gd := .mk _ zOb_wf (fun e => by cases e.1) (by show l.length ≤ _; omega) h
theorem Gd.con {o : Ob} (hv : o.Wf) (hn : o.kind = 2 ∧ o.sp = lispB ∧ o.sn = nilB → o = nilO) : (Te.con o).Gd := .mk _ hv hn (Nat.zero_le _) (fun x hx => by cases hx)
theorem yes_gd : yesT.Gd := .con (symO_wf (by decide) (by decide)) (fun e => by cases e.2.2)
theorem no_gd : noT.Gd := .con (symO_wf (by decide) (by decide)) (fun _ => rfl)
theorem Gd.arg {t : Te} {n : List UInt8} {k i : Nat} (h : t.Gd) (hi : is t n k) (hk : i < k) : (t.arg i).Gd := h.kids (List.mem_of_getElem? (arg_at hi hk))
theorem gd1 {a : Te} (ha : a.Gd) : ∀ x ∈ [a], x.Gd := fun x hx => by rw [List.mem_singleton] at hx; subst hx; exact ha
theorem gd3 {a b c : Te} (ha : a.Gd) (hb : b.Gd) (hc : c.Gd) : ∀ x ∈ [a, b, c], x.Gd := fun x hx => by
  simp only [List.mem_cons, List.not_mem_nil, or_false] at hx
  rcases hx with rfl | rfl | rfl
  · exact ha
  · exact hb
  · exact hc
theorem Gd.not {a : Te} (h : a.Gd) : (Te.ap notB [a]).Gd := .ap (by show 1 ≤ 1000; omega) (gd1 h)
theorem Gd.if_ {a b c : Te} (ha : a.Gd) (hb : b.Gd) (hc : c.Gd) : (Te.ap ifB [a, b, c]).Gd := .ap (by show 3 ≤ 1000; omega) (gd3 ha hb hc)
theorem Gd.opened {t a : Te} (h : t.Gd) (e : Te.opened t = some a) : a.Gd := by
  unfold Te.opened at e
  split at e
  · rename_i hi; cases e; exact (h.arg hi (by omega)).if_ no_gd yes_gd
  split at e
  · rename_i hi; cases e; exact (h.arg hi (show 0 < 2 by omega)).if_ ((h.arg hi (show 1 < 2 by omega)).if_ yes_gd no_gd) yes_gd
  split at e
  · rename_i hi; cases e; exact (h.arg hi (show 0 < 2 by omega)).if_ ((h.arg hi (show 1 < 2 by omega)).if_ yes_gd no_gd) ((h.arg hi (show 1 < 2 by omega)).if_ no_gd yes_gd)
  · cases e
end Te
theorem fail_ex (D : List Te → List Te) (s : NS) (c : List Te) : (s.fail D c).ex = s.ex := by unfold NS.fail; split <;> rfl
theorem fail_out (D : List Te → List Te) (s : NS) (c : List Te) (h : s.out.length ≤ 400) : (s.fail D c).out.length ≤ 400 := by
  unfold NS.fail
  split
  · exact h
  · rename_i hn
    show (s.out ++ [D c]).length ≤ 400
    rw [List.length_append, List.length_singleton]
    omega
theorem tick_ex (s : NS) : s.tick.ex = s.ex + 1 := rfl
theorem tick_er {s : NS} (h : ¬ s.tick.er ≠ 0) : s.ex < 20000 ∧ s.er = 0 ∧ s.tick = ⟨s.out, s.ex + 1, s.er⟩ := by
  unfold NS.tick at h ⊢
  split at h
  · exact absurd (show (2 : Int) ≠ 0 by decide) h
  · rename_i h1
    rw [if_neg h1]
    exact ⟨by omega, by simpa using h, rfl⟩
/-- examinations are counted; clauses are at most 400 -/
theorem exm_inv (D : List Te → List Te) : ∀ (f : Nat) (t : Te) (qs : List Te) (s : NS), s.out.length ≤ 400 → s.ex ≤ (exm D f t qs s).ex ∧ (exm D f t qs s).ex ≤ max (s.ex + 1) (20000 + f) ∧ (exm D f t qs s).out.length ≤ 400
  | 0, _, _, s, h => by rw [exm]; exact ⟨Int.le_refl _, by omega, h⟩
  | f + 1, t, qs, s, h => by
    rw [exm]
    split
    · rw [tick_ex]; exact ⟨by omega, by omega, h⟩
    rename_i he
    obtain ⟨h1, h2, h3⟩ := tick_er he
    have hto : s.tick.out.length ≤ 400 := h
    have hte := tick_ex s
    have step : ∀ t' qs', s.ex ≤ (exm D f t' qs' s.tick).ex ∧ (exm D f t' qs' s.tick).ex ≤ max (s.ex + 1) (20000 + (f + 1 : Nat)) ∧ (exm D f t' qs' s.tick).out.length ≤ 400 := fun t' qs' => by
      obtain ⟨k1, k2, k3⟩ := exm_inv D f t' qs' s.tick hto
      exact ⟨by omega, by omega, k3⟩
    have fl : ∀ c, s.ex ≤ (s.tick.fail D c).ex ∧ (s.tick.fail D c).ex ≤ max (s.ex + 1) (20000 + (f + 1 : Nat)) ∧ (s.tick.fail D c).out.length ≤ 400 := fun c => by
      rw [fail_ex]
      exact ⟨by omega, by omega, fail_out D _ c hto⟩
    have st : s.ex ≤ s.tick.ex ∧ s.tick.ex ≤ max (s.ex + 1) (20000 + (f + 1 : Nat)) ∧ s.tick.out.length ≤ 400 := ⟨by omega, by omega, hto⟩
    split
    · split
      · exact fl _
      · exact st
    split
    · exact step _ _
    split
    · split
      · exact step _ _
      split
      · exact step _ _
      split
      · exact step _ _
      split
      · exact step _ _
      split
      · exact step _ _
      split
      · exact step _ _
      split
      · exact step _ _
      · obtain ⟨k1, k2, k3⟩ := exm_inv D f (t.arg 1) (qs ++ [t.arg 0]) s.tick hto
        obtain ⟨m1, m2, m3⟩ := exm_inv D f (t.arg 2) (qs ++ [ap notB [t.arg 0]]) _ k3
        exact ⟨by omega, by
          rcases Nat.eq_zero_or_pos f with h0 | h0
          · subst h0
            rw [exm, exm]
            omega
          · omega, m3⟩
    · split
      · exact st
      split
      · exact fl _
      · exact fl _
/-- what 'choose' leaves -/
def chs (D : List Te → List Te) (f : Nat) (a d e : Te) (qs : List Te) (s : NS) : NS :=
  if a.kind = 2 ∧ a.val = nilO then exm D f e qs s
  else if a.kind = 2 then exm D f d qs s
  else if is a notB 1 then exm D f (ap ifB [a.arg 0, e, d]) qs s
  else if is a ifB 3 then exm D f (ap ifB [a.arg 0, ap ifB [a.arg 1, d, e], ap ifB [a.arg 2, d, e]]) qs s
  else match opened a with
    | some a' => exm D f (ap ifB [a', d, e]) qs s
    | none =>
      if a ∈ qs then exm D f d qs s
      else if ap notB [a] ∈ qs then exm D f e qs s
      else exm D f e (qs ++ [ap notB [a]]) (exm D f d (qs ++ [a]) s)
theorem exm_succ (D : List Te → List Te) (f : Nat) (t : Te) (qs : List Te) (s : NS) : exm D (f + 1) t qs s =
    if s.tick.er ≠ 0 then s.tick else
    if t.kind = 2 then (if t.val = nilO then s.tick.fail D (qs.map neg) else s.tick) else
    match opened t with
    | some t' => exm D f t' qs s.tick
    | none =>
      if is t ifB 3 then chs D f (t.arg 0) (t.arg 1) (t.arg 2) qs s.tick
      else if t ∈ qs then s.tick
      else if ap notB [t] ∈ qs then s.tick.fail D (qs.map neg)
      else s.tick.fail D (qs.map neg ++ [t]) := by rw [exm]; rfl
/-- the contract of 'examine' -/
def Exm (f : Nat) : Prop := ∀ (t : Te) (qs : List Te) (s : NS), t.Gd → (∀ q ∈ qs, q.Gd) → (qs.length : Int) ≤ s.ex → s.ex ≤ 45000 → 20001 ≤ s.ex + f → 1 ≤ f → s.out.length ≤ 400 → Suk 71 [.ptr 0 0, teA t, tesA qs] (bxS s) (.tup []) (bxS (exm id f t qs s))
theorem p_isNilY {t : Te} (h : t.Gd) (e : t.val = nilO) : Puk 55 [obA t.val] (boA true) := (p_oIsNil t.val).b (decide_eq_true (h.nil.2 e))
theorem p_isNilN {t : Te} (h : t.Gd) (e : t.val ≠ nilO) : Puk 55 [obA t.val] (boA false) := (p_oIsNil t.val).b (decide_eq_false fun h' => e (h.nil.1 h'))
theorem gd_snoc {qs : List Te} {a : Te} (h : ∀ q ∈ qs, q.Gd) (ha : a.Gd) : ∀ q ∈ qs ++ [a], q.Gd := fun q hq => by
  rcases List.mem_append.1 hq with hq | hq
  · exact h q hq
  · exact gd1 ha q hq
theorem p_choose {f : Nat} (hE : Exm f) (hf2 : f ≤ 20002) (a d e : Te) (qs : List Te) (s : NS) (ha : a.Gd) (hd : d.Gd) (he : e.Gd) (hq : ∀ q ∈ qs, q.Gd) (hl : (qs.length : Int) + 1 ≤ s.ex) (hx : s.ex ≤ 20000) (hf : 20001 ≤ s.ex + f) (ho : s.out.length ≤ 400) : Suk 94 [.ptr 0 0, teA a, teA d, teA e, tesA qs] (bxS s) (.tup []) (bxS (chs id f a d e qs s)) := by
  have ex : ∀ t, t.Gd → Suk 71 [.ptr 0 0, teA t, tesA qs] (bxS s) (.tup []) (bxS (exm id f t qs s)) := fun t ht => hE t qs s ht hq (by omega) (by omega) hf (by omega) ho
  have hqw : ∀ q ∈ qs, q.Wf := fun q h => (hq q h).wf
  have hl2 : qs.length ≤ 100000 := by omega
  unfold chs
  split
  · rename_i hk
    exact w_c1 hk.1 (p_isNilY ha hk.2) (ex e he)
  rename_i hnk
  split
  · rename_i hk
    exact w_c2 hk (p_isNilN ha fun h => hnk ⟨hk, h⟩) (ex d hd)
  rename_i hk
  split
  · rename_i hi
    exact w_c3 hk hi (arg_at hi (by omega)) (ex _ ((ha.arg hi (by omega)).if_ he hd))
  rename_i hi
  split
  · rename_i hj
    exact w_c4 hk hi hj (arg_at hj (show 0 < 3 by omega)) (arg_at hj (show 1 < 3 by omega)) (arg_at hj (show 2 < 3 by omega)) (ex _ ((ha.arg hj (show 0 < 3 by omega)).if_ ((ha.arg hj (show 1 < 3 by omega)).if_ hd he) ((ha.arg hj (show 2 < 3 by omega)).if_ hd he)))
  rename_i hj
  split
  · rename_i b hn
    exact w_c5 hk hi hj hn (ex _ ((ha.opened hn).if_ hd he))
  rename_i hn
  split
  · rename_i hm
    exact w_c6 hk hi hj hn hl2 hqw hm (ex d hd)
  rename_i hm
  split
  · rename_i hm2
    exact w_c7 hk hi hj hn hl2 hqw hm hm2 (ex e he)
  rename_i hm2
  obtain ⟨k1, k2, k3⟩ := exm_inv id f d (qs ++ [a]) s ho
  exact w_c8 hk hi hj hn hl2 hqw hm hm2 (hE d (qs ++ [a]) s hd (gd_snoc hq ha) (by simp; omega) (by omega) hf (by omega) ho) (hE e (qs ++ [ap notB [a]]) _ he (gd_snoc hq ha.not) (by simp; omega) (by omega) (by omega) (by omega) k3)
theorem p_exam : ∀ f : Nat, f ≤ 20002 → Exm f
  | 0, _ => fun t qs s _ _ _ _ _ h => by omega
  | f + 1, hf2 => fun t qs s ht hq hl hx hf _ ho => by
    have hqw : ∀ q ∈ qs, q.Wf := fun q h => (hq q h).wf
    have hl0 : (0 : Int) ≤ s.ex := by omega
    rw [exm_succ]
    split
    · rename_i he
      by_cases h1 : 20000 < s.ex + 1
      · have e : s.tick = ⟨s.out, s.ex + 1, 2⟩ := by unfold NS.tick; rw [if_pos h1]
        rw [e]
        exact w_ex1 hl0 (by omega) (by omega)
      · have e : s.tick = ⟨s.out, s.ex + 1, s.er⟩ := by unfold NS.tick; rw [if_neg h1]
        rw [e] at he ⊢
        exact w_ex2 hl0 (by omega) (by omega) he
    rename_i he
    obtain ⟨h1, h2, h3⟩ := tick_er he
    rw [h3]
    have hl2 : qs.length ≤ 100000 := by omega
    have pf : ∀ ms, ms.length ≤ 1000 → Suk 92 [.ptr 0 0, tesA qs, tesA ms] (bxS ⟨s.out, s.ex + 1, s.er⟩) (.tup []) (bxS (NS.fail id ⟨s.out, s.ex + 1, s.er⟩ (qs.map neg ++ ms))) := fun ms hm => p_fail _ qs ms hl2 hm ho
    have pf0 := pf [] (by decide)
    rw [List.append_nil] at pf0
    split
    · rename_i hk
      split
      · rename_i hn
        exact w_ex3 hl0 (by omega) h1 h2 hk (p_isNilY ht hn) pf0
      · rename_i hn
        exact w_ex4 hl0 (by omega) h1 h2 hk (p_isNilN ht hn)
    rename_i hk
    split
    · rename_i a hn
      exact w_ex5 hl0 (by omega) h1 h2 hk hn (p_exam f (by omega) a qs ⟨s.out, s.ex + 1, s.er⟩ (ht.opened hn) hq (by show (qs.length : Int) ≤ s.ex + 1; omega) (by show s.ex + 1 ≤ 45000; omega) (by show 20001 ≤ s.ex + 1 + f; omega) (by omega) ho)
    rename_i hn
    split
    · rename_i hi
      exact w_ex6 hl0 (by omega) h1 h2 hk hn hi (arg_at hi (show 0 < 3 by omega)) (arg_at hi (show 1 < 3 by omega)) (arg_at hi (show 2 < 3 by omega)) (p_choose (p_exam f (by omega)) (by omega) _ _ _ qs ⟨s.out, s.ex + 1, s.er⟩ (ht.arg hi (show 0 < 3 by omega)) (ht.arg hi (show 1 < 3 by omega)) (ht.arg hi (show 2 < 3 by omega)) hq (by show (qs.length : Int) + 1 ≤ s.ex + 1; omega) (by show s.ex + 1 ≤ 20000; omega) (by show 20001 ≤ s.ex + 1 + f; omega) ho)
    rename_i hi
    split
    · rename_i hm
      exact w_ex7 hl0 (by omega) h1 h2 hk hn hi (by omega) hqw hm
    rename_i hm
    split
    · rename_i hm2
      exact w_ex8 hl0 (by omega) h1 h2 hk hn hi (by omega) hqw hm hm2 pf0
    · rename_i hm2
      exact w_ex9 hl0 (by omega) h1 h2 hk hn hi (by omega) hqw hm hm2 (pf [t] (by show 1 ≤ 1000; omega))
end Go.Proofs.YtendgffijciehaaGreatDoor
/- Normalize of the code; the reference's Negated, Add and put. -/
namespace Go.Proofs.YtendgffijciehaaGreatDoor
open Go.RowKit
open Te

/-- what Normalize returns -/
abbrev nrmA (s : NS) : AV := if s.er = 0 then .tup [clsA s.out, inA 0] else .tup [.dt (.row []), inA s.er]
theorem w_nrm {t : Te} {cs : List (List Dt)} {ex er : Int} (hc : Suk 71 [.ptr 0 0, teA t, .dt (.row [])] [some (.cells [.nil, inA 0, inA 0])] (.tup []) (bxN cs ex er)) : Puk 41 [teA t] (if er = 0 then .tup [.dt (.row cs), inA 0] else .tup [.dt (.row []), inA er]) := by
  by_cases h : er = 0
  · rw [if_pos h]
    exact pwalk (an := [yF]) (ls := [.scl 2 2 [1] (.tup []) [some (.cells [.own 1 cs.length, inA ex, inA er]), some (.buf 29 1 cs)]]) (ps := [Suk 71 [AV.ptr 0 0, teA t, AV.dt (Dt.row [])] [some (Bx.cells [AV.nil, AV.dt (Dt.val (vi 0)), AV.dt (Dt.val (vi 0))])] (AV.tup []) [some (Bx.cells [AV.own 1 cs.length, inA ex, inA er]), some (Bx.buf 29 1 cs)], Bn .neq 65 (.tmp 13) (.const (vi 0)) (vi er) (vi 0) bF, (cs.length) = (cs.length)]) Tryz.func41 (by kernel_rfl) (by kernel_rfl) ⟨hc, bin_ine (by simp [h]), rfl, trivial⟩
  · rw [if_neg h]
    exact pwalk (an := [yT]) (ls := [.scl 2 2 [1] (.tup []) [some (.cells [.own 1 cs.length, inA ex, inA er]), some (.buf 29 1 cs)]]) (ps := [Suk 71 [AV.ptr 0 0, teA t, AV.dt (Dt.row [])] [some (Bx.cells [AV.nil, AV.dt (Dt.val (vi 0)), AV.dt (Dt.val (vi 0))])] (AV.tup []) [some (Bx.cells [AV.own 1 cs.length, inA ex, inA er]), some (Bx.buf 29 1 cs)], Bn .neq 65 (.tmp 13) (.const (vi 0)) (vi er) (vi 0) bT]) Tryz.func41 (by kernel_rfl) (by kernel_rfl) ⟨hc, bin_ine (by simp [h]), trivial⟩
theorem p_normalize {t : Te} (ht : t.Gd) : Puk 41 [teA t] (nrmA (exm id 20002 t [] ⟨[], 0, 0⟩)) :=
  w_nrm (SOK.own0 (p_exam 20002 (Nat.le_refl _) t [] ⟨[], 0, 0⟩ ht (fun q hq => by cases hq) (by decide) (by decide) (by decide) (by decide) (by decide)))
/- the reference -/
abbrev adS (l out : List Te) (i : Int) : AS := ⟨stt 36 [(1, tesA l), (5, .own 0 (encTs out).length), (6, inA i)], [some (.buf 37 11 (encTs out))]⟩
noncomputable abbrev adB : Code := subC (bodyOf Tryz.f18) [1, 1, 0, 1, 0, 0]
theorem adB1 {l out : List Te} {x : Te} {i : Nat} (hx : l[i]? = some x) (hl : l.length ≤ 100000) (hw : ∀ y ∈ out, y.Wf) (ho : out.length ≤ 200000) (hm : x ∈ out) : Tri EX adB (adS l out i) .nxt (adS l out ((i + 1 : Nat) : Int)) :=
  twalk (c := subC (bodyOf Tryz.f18) [1,1,0,1,0,0]) (s := adS l out i) (an := [.av (inA l.length), yT, .av (.pin ((encT x).map .dt)), yT, .av (inA ((i+1 : Nat) : Int))]) (ls := []) (ft := [1,5,6]) (nb := 1) (e := .nxt) (s' := adS l out ((i + 1 : Nat) : Int)) (ps := [(vi ↑l.length) = (vi (↑(List.map Te.enc l).length)), Bn .lss 3 (.tmp 15) (.tmp 17) (vi ↑i) (vi ↑l.length) bT, IxAt (List.map Te.enc l) ↑i 11 (encT x), Puk 25 [(.dt (.row (encTs out))), (teA x)] (boA true), ((encTs out).length) = ((encTs out).length), Bn .add 3 (.tmp 19) (.const (vi 1)) (vi ↑i) (vi 1) (vi (↑(i + 1)))]) (by kernel_rfl)
    ⟨lenEncT _, bin_ilt (decide_eq_true (by have := (List.getElem?_eq_some_iff.1 hx).1; omega)), ix_te hx, (p_rcont (by omega) hw x).b (yesD hm), rfl, bin_iadd (by omega) (by omega) (by have := (List.getElem?_eq_some_iff.1 hx).1; omega), trivial⟩
theorem adB3 {l out : List Te} {x : Te} {i : Nat} (hx : l[i]? = some x) (hl : l.length ≤ 100000) (hw : ∀ y ∈ out, y.Wf) (ho : out.length ≤ 200000) (hm : x ∉ out) : Tri EX adB (adS l out i) .nxt (adS l (out ++ [x]) ((i + 1 : Nat) : Int)) := by
  rw [show adS l (out ++ [x]) ((i + 1 : Nat) : Int) = ⟨stt 36 [(1, tesA l), (5, .own 0 (encTs out ++ [encT x]).length), (6, inA ((i + 1 : Nat) : Int))], [some (.buf 37 11 (encTs out ++ [encT x]))]⟩ by rw [enc_snoc]]
  exact twalk (c := subC (bodyOf Tryz.f18) [1,1,0,1,0,0]) (s := adS l out i) (an := [.av (inA l.length), yT, .av (.pin ((encT x).map .dt)), yF, .av (.pin ((encT x).map .dt)), .av (.un), .av (inA ((i+1 : Nat) : Int))]) (ls := []) (ft := [1,5,6]) (nb := 1) (e := .nxt) (s' := ⟨stt 36 [(1, tesA l), (5, .own 0 (encTs out ++ [encT x]).length), (6, inA ((i + 1 : Nat) : Int))], [some (.buf 37 11 (encTs out ++ [encT x]))]⟩) (ps := [(vi ↑l.length) = (vi (↑(List.map Te.enc l).length)), Bn .lss 3 (.tmp 15) (.tmp 17) (vi ↑i) (vi ↑l.length) bT, IxAt (List.map Te.enc l) ↑i 11 (encT x), Puk 25 [(.dt (.row (encTs out))), (teA x)] (boA false), ((encTs out).length) = ((encTs out).length), IxAt (List.map Te.enc l) ↑i 11 (encT x), ((encTs out).length) = ((encTs out).length), FitB 176 ((encTs out ++ [encT x]).length), SrcOK 11 [encT x], Bn .add 3 (.tmp 19) (.const (vi 1)) (vi ↑i) (vi 1) (vi (↑(i + 1)))]) (by kernel_rfl)
    ⟨lenEncT _, bin_ilt (decide_eq_true (by have := (List.getElem?_eq_some_iff.1 hx).1; omega)), ix_te hx, (p_rcont (by omega) hw x).b (noD hm), rfl, ix_te hx, rfl, fit_of (by omega) (by simp; omega), src_te1 x, bin_iadd (by omega) (by omega) (by have := (List.getElem?_eq_some_iff.1 hx).1; omega), trivial⟩
theorem adB2 {l out : List Te} {i : Nat} (hi : i = l.length) : Tri EX adB (adS l out i) (.out 0) (adS l out i) :=
  twalk (c := subC (bodyOf Tryz.f18) [1,1,0,1,0,0]) (s := adS l out i) (an := [.av (inA l.length), yF]) (ls := []) (ft := [1,5,6]) (nb := 1) (e := .out 0) (s' := adS l out i) (ps := [(vi ↑l.length) = (vi (↑(List.map Te.enc l).length)), Bn .lss 3 (.tmp 15) (.tmp 17) (vi ↑i) (vi ↑l.length) bF]) (by kernel_rfl)
    ⟨lenEncT _, bin_ilt (decide_eq_false (by omega)), trivial⟩
theorem ad_loop {l : List Te} (hl : l.length ≤ 100000) (hw : ∀ y ∈ l, y.Wf) : ∀ (s : List Te) (i : Nat) (out : List Te), l.drop i = s → i ≤ l.length → (∀ y ∈ out, y.Wf) → out.length + s.length ≤ 200000 → Lps EX adB (adS l out i) (.out 0) (adS l (addN out s) l.length) := by
  intro s
  induction s with
  | nil =>
    intro i out hd hi he _
    have e1 := congrArg List.length hd
    rw [List.length_drop, List.length_nil] at e1
    obtain rfl : i = l.length := by omega
    rw [addN]
    exact .stop (adB2 rfl) (fun h => by cases h)
  | cons x s ih =>
    intro i out hd hi he ho
    have hx : l[i]? = some x := by rw [← List.head?_drop, hd]; rfl
    have hlt := (List.getElem?_eq_some_iff.1 hx).1
    rw [List.length_cons] at ho
    rw [addN]
    by_cases hm : x ∈ out
    · rw [if_pos hm]
      exact .more (adB1 hx hl he (by omega) hm) (ih (i + 1) out (by rw [← List.drop_drop, hd]; rfl) (by omega) he (by omega))
    · rw [if_neg hm]
      refine .more (adB3 hx hl he (by omega) hm) (ih (i + 1) (out ++ [x]) (by rw [← List.drop_drop, hd]; rfl) (by omega) (fun y hy => ?_) (by rw [List.length_append, List.length_singleton]; omega))
      rcases List.mem_append.1 hy with hy | hy
      · exact he y hy
      · rw [List.mem_singleton] at hy; subst hy; exact hw _ (List.mem_of_getElem? hx)
theorem p_rAdd {c l : List Te} (hc : c.length ≤ 100000) (hl : l.length ≤ 100000) (hcw : ∀ y ∈ c, y.Wf) (hw : ∀ y ∈ l, y.Wf) : Puk 18 [tesA c, tesA l] (tesA (addN c l)) := by
  have ht := (ad_loop hl hw l 0 c rfl (Nat.zero_le _) hcw (by omega)).tri
  generalize addN c l = r at *
  exact pwalk (an := [.av (inA c.length), .av (inA l.length), .av (inA (c.length + l.length : Nat)), .no, .av (.un)]) (ls := [.inv [1,5,6] 1 (.out 0) (adS l r l.length)]) (ps := [(vi ↑c.length) = (vi (↑(List.map Te.enc c).length)), (vi ↑l.length) = (vi (↑(List.map Te.enc l).length)), Bn .add 3 (.tmp 8) (.tmp 10) (vi ↑c.length) (vi ↑l.length) (vi (↑(c.length + l.length))), FitM 176 (↑(c.length + l.length)), 0 = 0, FitB 176 (([] ++ List.map Te.enc c).length), SrcOK 11 (List.map Te.enc c), Tri EX (.loop (subC (bodyOf Tryz.f18) [1,1,0,1,0,0])) (adS l c 0) (.out 0) (adS l r l.length), ((encTs r).length) = ((encTs r).length)]) Tryz.func18 (by kernel_rfl) (by kernel_rfl) ⟨lenEncT _, lenEncT _, bin_iadd (by omega) (by omega) (by omega), ⟨by omega, by omega, by show ((c.length + l.length : Nat) : Int) ≤ ((2 ^ 63 - 1 : Nat) : Int); omega⟩, rfl, fit_of (by omega) (by simp; omega), src_te c, ht, rfl, trivial⟩
theorem addN_len : ∀ (l out : List Te), (addN out l).length ≤ out.length + l.length
  | [], out => by rw [addN]; exact Nat.le_refl _
  | x :: l, out => by
    rw [addN, List.length_cons]
    refine Nat.le_trans (addN_len l _) ?_
    split
    · omega
    · rw [List.length_append, List.length_singleton]; omega
end Go.Proofs.YtendgffijciehaaGreatDoor
/- Few, Vars, and the formulas of the law. -/
namespace Go.Proofs.YtendgffijciehaaGreatDoor
open Go.RowKit

abbrev wr (n : Int) : Int := IntKind.i64.wrap n
abbrev rawA (r : Raw) : AV := .agg [inA r.kind, inA r.n, stA r.s, .dt (.row (r.l.map Raw.enc))]
abbrev encR (r : Raw) : List Dt := [.val (.int .i64 r.kind), .val (.int .i64 r.n), .val (str r.s), .row (r.l.map Raw.enc)]
theorem enc_R (r : Raw) : r.enc = encR r := Raw.enc_eq r
theorem ix_raw {l : List Raw} {i : Nat} {o : Raw} (h : l[i]? = some o) : IxAt (l.map Raw.enc) (i : Int) 4 (encR o) := ⟨Int.natCast_nonneg _, by
  rw [Int.toNat_natCast, List.getElem?_map, h]
  exact congrArg some (enc_R o), rfl⟩
theorem lenEncR (l : List Raw) : Value.int .i64 (l.length : Int) = Value.int .i64 ((l.map Raw.enc).length : Int) := by rw [List.length_map]
theorem lenStr (l : List UInt8) : Value.int .i64 (l.length : Int) = Value.int .i64 (l.length : Int) := rfl
theorem p_mod (n m : Int) (hm : 0 < m) (hm1 : m ≤ 1000000) : Puk 19 [inA n, inA m] (inA (n % m)) :=
  ⟨fnm Tryz.func19 rfl (by kernel_rfl), fun ok w vs ht hv => by
    obtain ⟨u, us, rfl, h1, h2⟩ := hv
    obtain rfl := RL.one_val h2
    rw [Rd.val_eq h1]
    refine (mod_any n m w hm hm1).mono ?_
    rintro e w' ⟨rfl, rfl⟩
    exact ⟨_, rfl, Below.refl _ _, .val _⟩⟩
mutual
def leftW : Raw → Int → Int
  | ⟨_, _, s, l⟩, m => if 12 < s.length then -1 else if 6 < l.length then -1 else leftWL l (wr (m - 1))
def leftWL : List Raw → Int → Int
  | [], m => m
  | x :: r, m => if 0 ≤ m then leftWL r (leftW x m) else m
end
theorem leftW_eq (r : Raw) (m : Int) : leftW r m = if 12 < r.s.length then -1 else if 6 < r.l.length then -1 else leftWL r.l (wr (m - 1)) := by
  cases r; rw [leftW]
theorem leftWL_neg {l : List Raw} {m : Int} (h : m < 0) : leftWL l m = m := by
  cases l with
  | nil => rw [leftWL]
  | cons x r => rw [leftWL, if_neg (by omega)]
theorem wr_id {n : Int} (h0 : -9223372036854775808 ≤ n) (h1 : n ≤ 9223372036854775807) : wr n = n := by
  show IntKind.i64.wrap n = n
  rw [IntKind.wrap_i64]; omega
def fewR (r : Raw) (m : Int) : Bool := decide (0 ≤ leftW r m)
abbrev lfS (r : Raw) (i m : Int) : AS := ⟨stt 37 [(1, inA m), (2, .ptr 0 0), (4, inA 0), (5, inA i)], [some (.cells [inA r.kind, inA r.n, stA r.s, .dt (.row (r.l.map Raw.enc))])]⟩
noncomputable abbrev lfB : Code := subC (bodyOf Tryz.f43) [1, 1, 1, 0, 1, 0, 0]
theorem lfB1 {r x : Raw} {i : Nat} {m k : Int} (hx : r.l[i]? = some x) (hl : r.l.length ≤ 6) (h0 : 0 ≤ m) (hk : Puk 43 [rawA x, inA m] (inA k)) : Tri EX lfB (lfS r i m) .nxt (lfS r ((i + 1 : Nat) : Int) k) :=
  twalk (c := subC (bodyOf Tryz.f43) [1,1,1,0,1,0,0]) (s := lfS r i m) (an := [.av (inA r.l.length), yT, yT, .av (.pin ((encR x).map .dt)), .av (inA k), .av (inA ((i + 1 : Nat) : Int))]) (ls := []) (ft := [1,2,4,5]) (nb := 1) (e := .nxt) (s' := lfS r ((i + 1 : Nat) : Int) k) (ps := [(vi ↑r.l.length) = (vi (↑(List.map Raw.enc r.l).length)), Bn .lss 3 (.tmp 18) (.tmp 21) (vi ↑i) (vi ↑r.l.length) bT, Bn .geq 3 (.tmp 24) (.const (vi 0)) (vi m) (vi 0) bT, IxAt (List.map Raw.enc r.l) ↑i 4 (encR x), Puk 43 [(rawA x), (inA m)] (inA k), Bn .add 3 (.tmp 27) (.const (vi 1)) (vi ↑i) (vi 1) (vi (↑(i + 1)))]) (by kernel_rfl)
    ⟨lenEncR _, bin_ilt (decide_eq_true (by have := (List.getElem?_eq_some_iff.1 hx).1; omega)), bin_ige (decide_eq_true h0), ix_raw hx, hk, bin_iadd (by omega) (by omega) (by have := (List.getElem?_eq_some_iff.1 hx).1; omega), trivial⟩
theorem lfB2 {r : Raw} {i : Nat} {m : Int} (hi : i = r.l.length) : Tri EX lfB (lfS r i m) (.out 0) (lfS r i m) :=
  twalk (c := subC (bodyOf Tryz.f43) [1,1,1,0,1,0,0]) (s := lfS r i m) (an := [.av (inA r.l.length), yF]) (ls := []) (ft := [1,2,4,5]) (nb := 1) (e := .out 0) (s' := lfS r i m) (ps := [(vi ↑r.l.length) = (vi (↑(List.map Raw.enc r.l).length)), Bn .lss 3 (.tmp 18) (.tmp 21) (vi ↑i) (vi ↑r.l.length) bF]) (by kernel_rfl)
    ⟨lenEncR _, bin_ilt (decide_eq_false (by omega)), trivial⟩
theorem lfB3 {r : Raw} {i : Nat} {m : Int} (hi : i < r.l.length) (h0 : m < 0) : Tri EX lfB (lfS r i m) (.out 0) (lfS r i m) :=
  twalk (c := subC (bodyOf Tryz.f43) [1,1,1,0,1,0,0]) (s := lfS r i m) (an := [.av (inA r.l.length), yT, yF]) (ls := []) (ft := [1,2,4,5]) (nb := 1) (e := .out 0) (s' := lfS r i m) (ps := [(vi ↑r.l.length) = (vi (↑(List.map Raw.enc r.l).length)), Bn .lss 3 (.tmp 18) (.tmp 21) (vi ↑i) (vi ↑r.l.length) bT, Bn .geq 3 (.tmp 24) (.const (vi 0)) (vi m) (vi 0) bF]) (by kernel_rfl)
    ⟨lenEncR _, bin_ilt (decide_eq_true (by omega)), bin_ige (decide_eq_false (by omega)), trivial⟩
theorem p_left : ∀ (N : Nat) (r : Raw) (m : Int), r.size ≤ N → Puk 43 [rawA r, inA m] (inA (leftW r m)) := by
  intro N
  induction N with
  | zero => intro r m h; have := r.size_pos; omega
  | succ N ih =>
    intro r m hN
    rw [leftW_eq]
    by_cases h12 : 12 < r.s.length
    · rw [if_pos h12]
      exact pwalk (an := [.av (inA r.s.length), yT]) (ls := []) (ps := [(vi ↑r.s.length) = (vi (↑r.s.length)), Bn .gtr 3 (.tmp 8) (.const (vi 12)) (vi ↑r.s.length) (vi 12) bT]) Tryz.func43 (by kernel_rfl) (by kernel_rfl) ⟨lenStr _, bin_igt (decide_eq_true (by omega)), trivial⟩
    rw [if_neg h12]
    by_cases h6 : 6 < r.l.length
    · rw [if_pos h6]
      exact pwalk (an := [.av (inA r.s.length), yF, .av (inA r.l.length), yT]) (ls := []) (ps := [(vi ↑r.s.length) = (vi (↑r.s.length)), Bn .gtr 3 (.tmp 8) (.const (vi 12)) (vi ↑r.s.length) (vi 12) bF, (vi ↑r.l.length) = (vi (↑(List.map Raw.enc r.l).length)), Bn .gtr 3 (.tmp 13) (.const (vi 6)) (vi ↑r.l.length) (vi 6) bT]) Tryz.func43 (by kernel_rfl) (by kernel_rfl) ⟨lenStr _, bin_igt (decide_eq_false (by omega)), lenEncR _, bin_igt (decide_eq_true (by omega)), trivial⟩
    rw [if_neg h6]
    have loop : ∀ (l : List Raw) (i : Nat) (m : Int), r.l.drop i = l → i ≤ r.l.length → (∀ x ∈ l, x.size ≤ N) → ∃ j : Nat, Lps EX lfB (lfS r i m) (.out 0) (lfS r j (leftWL l m)) := by
      intro l
      induction l with
      | nil =>
        intro i m hd hi _
        have : i = r.l.length := by
          have := congrArg List.length hd
          rw [List.length_drop, List.length_nil] at this
          omega
        rw [leftWL]
        exact ⟨i, .stop (lfB2 this) (fun h => by cases h)⟩
      | cons x l ihl =>
        intro i m hd hi hs
        have hx : r.l[i]? = some x := by rw [← List.head?_drop, hd]; rfl
        have hlt := (List.getElem?_eq_some_iff.1 hx).1
        rw [leftWL]
        by_cases h0 : 0 ≤ m
        · rw [if_pos h0]
          obtain ⟨j, hj⟩ := ihl (i + 1) (leftW x m) (by rw [← List.drop_drop, hd]; rfl) (by omega) (fun y hy => hs y (List.mem_cons_of_mem _ hy))
          exact ⟨j, .more (lfB1 hx (by omega) h0 (ih x m (hs x (List.mem_cons_self ..)))) hj⟩
        · rw [if_neg h0]
          exact ⟨i, .stop (lfB3 hlt (by omega)) (fun h => by cases h)⟩
    obtain ⟨j, hj⟩ := loop r.l 0 (wr (m - 1)) rfl (Nat.zero_le _) (fun x hx => by have := Raw.size_l hx; omega)
    generalize leftWL r.l (wr (m - 1)) = k at *
    exact pwalk (an := [.av (inA r.s.length), yF, .av (inA r.l.length), yF, .no]) (ls := [.inv [1,2,4,5] 1 (.out 0) (lfS r j k)]) (ps := [(vi ↑r.s.length) = (vi (↑r.s.length)), Bn .gtr 3 (.tmp 8) (.const (vi 12)) (vi ↑r.s.length) (vi 12) bF, (vi ↑r.l.length) = (vi (↑(List.map Raw.enc r.l).length)), Bn .gtr 3 (.tmp 13) (.const (vi 6)) (vi ↑r.l.length) (vi 6) bF, Tri EX (.loop (subC (bodyOf Tryz.f43) [1, 1, 1, 0, 1, 0, 0])) (lfS r 0 (wr (m - 1))) (.out 0) (lfS r j k)]) Tryz.func43 (by kernel_rfl) (by kernel_rfl) ⟨lenStr _, bin_igt (decide_eq_false (by omega)), lenEncR _, bin_igt (decide_eq_false (by omega)), hj.tri, trivial⟩
theorem p_Few (r : Raw) (m : Int) : Puk 10 [rawA r, inA m] (boA (fewR r m)) :=
  pwalk (an := [.av (inA (leftW r m)), .av (boA (fewR r m))]) (ls := []) (ps := [Puk 43 [(rawA r), (inA m)] (inA (leftW r m)), Bn .geq 3 (.tmp 7) (.const (vi 0)) (vi (leftW r m)) (vi 0) (Value.bool (fewR r m))]) Tryz.func10 (by kernel_rfl) (by kernel_rfl) ⟨p_left _ r m (Nat.le_refl _), bin_ige rfl, trivial⟩
theorem RV.ofRaw {M : Mm} {w : World} {o : Raw} {A : Option Addr} {n c : Nat} (h : Rd M.F w (.slice A n c) (.row (o.l.map Raw.enc))) : RV M w (rawA o) (rawV o (.slice A n c)) :=
  ⟨_, rfl, _, _, rfl, .val _, _, _, rfl, .val _, _, _, rfl, .val _, _, _, rfl, h, rfl⟩
namespace Te
abbrev varT (n : List UInt8) : Te := ⟨1, userB, n, zOb, []⟩
abbrev equalB : List UInt8 := [101, 113, 117, 97, 108]
theorem row2 (a b : Te) : [encT a, encT b] = [a, b].map Te.enc := by simp only [List.map_cons, List.map_nil, enc_T]
end Te
open Te
theorem p_rLisp2 (n : List UInt8) (a b : Te) : Puk 15 [stA n, .dt (.row [encT a, encT b])] (teA (Te.ap n [a, b])) := p_rLisp n [a, b] (row2 a b)
theorem p_user (n : List UInt8) : Puk 48 [stA n] (syA userB n) := pwalk (an := []) (ls := []) (ps := []) Tryz.func48 (by kernel_rfl) (by kernel_rfl) trivial
abbrev srow (n : List UInt8) : List Dt := [.val (str userB), .val (str n)]
abbrev vars3 : List (List Dt) := [srow [120], srow [121], srow [122]]
abbrev vars4 : List (List Dt) := [srow [120], srow [121], srow [122], srow [117]]
theorem p_vars3 : Puk 13 [inA 3] (.dt (.row vars3)) := pwalk (an := [.av (syA userB [120]), .av (syA userB [121]), .av (syA userB [122]), .av (syA userB [117]), .no, .no, .no]) (ls := []) (ps := [Puk 48 [(stA [120])] (syA userB [120]), Puk 48 [(stA [121])] (syA userB [121]), Puk 48 [(stA [122])] (syA userB [122]), Puk 48 [(stA [117])] (syA userB [117]), SlcOK vars4 2 0 3 vars3, (none : Option Int) = none ∨ (none : Option Int) = some (if (if 4 < 3 then 4 else 3) > 0 then if 4 < 3 then 4 else 3 else 0)]) Tryz.func13 (by kernel_rfl) (by kernel_rfl) ⟨p_user _, p_user _, p_user _, p_user _, ⟨by decide, by decide, by decide, rfl, .inl rfl⟩, .inl rfl, trivial⟩
theorem p_vars4 : Puk 13 [inA 4] (.dt (.row vars4)) := pwalk (an := [.av (syA userB [120]), .av (syA userB [121]), .av (syA userB [122]), .av (syA userB [117]), .no, .no, .no]) (ls := []) (ps := [Puk 48 [(stA [120])] (syA userB [120]), Puk 48 [(stA [121])] (syA userB [121]), Puk 48 [(stA [122])] (syA userB [122]), Puk 48 [(stA [117])] (syA userB [117]), SlcOK vars4 2 0 4 vars4, (none : Option Int) = none ∨ (none : Option Int) = some (if (if 4 < 4 then 4 else 4) > 0 then if 4 < 4 then 4 else 4 else 0)]) Tryz.func13 (by kernel_rfl) (by kernel_rfl) ⟨p_user _, p_user _, p_user _, p_user _, ⟨by decide, by decide, by decide, rfl, .inl rfl⟩, .inl rfl, trivial⟩
theorem p_rVar (n : List UInt8) : Puk 39 [syA userB n] (teA (varT n)) := pwalk (an := []) (ls := []) (ps := []) Tryz.func39 (by kernel_rfl) (by kernel_rfl) trivial
theorem Te.var_gd (n : List UInt8) : (varT n).Gd := .mk _ zOb_wf (fun e => by cases e.1) (Nat.zero_le _) (fun x hx => by cases hx)
end Go.Proofs.YtendgffijciehaaGreatDoor
/- Lists of clauses; the copy of a slice; Add and Union of the code. -/
namespace Go.Proofs.YtendgffijciehaaGreatDoor
open Go.RowKit
open Te

/-- a function that returns no slice, seen as one that returns a growing row -/
theorem SOK.retNil {P : Program} {G : World → Prop} {f : FuncId} {args : List AV} {T : TypeId} {kk : Nat} (h : SOK P G f args [] .nil []) : SOK P G f args [] (.own 0 0) [some (.buf T kk [])] := by
  refine ⟨h.1, fun X M w vs hG hS hargs => (h.2 X M w vs hG hS hargs).mono ?_⟩
  rintro e w' ⟨v, M', h1, h2, h3, h4, h5⟩
  have hk : lk [] 0 = none := rfl
  refine ⟨v, M'.own0 0, h1, h2.trans (go_own0 h3 hk), ?_, h4, rv_own0 h5⟩
  have := sto_own0 h3 h2.below.size hk T kk
  rwa [show updX1 (lk []) 0 (.buf T kk []) = lk [some (.buf T kk [])] from funext fun b => by
    match b with
    | 0 => rfl
    | b + 1 => rfl] at this
/-- an empty slice: nil, or behind a pointer -/
theorem SOK.empty {P : Program} {G : World → Prop} {f : FuncId} {xs xs' : List (Option Bx)} {r : AV} (h0 : ∀ c, SOK P G f [.dt (.val (.slice none 0 c))] xs r xs') (h1 : ∀ A c, SOK P G f [.dt (.val (.slice (some A) 0 c))] xs r xs') : SOK P G f [.dt (.row [])] xs r xs' := by
  refine ⟨(h0 0).1, fun X M w vs hG hS hargs => ?_⟩
  obtain ⟨v, us, rfl, hv, hu⟩ := hargs
  obtain rfl : us = [] := hu
  have hv : Rd M.F w v (.row []) := hv
  cases hv with
  | nil A c =>
    cases A with
    | none => exact (h0 c).2 X M w _ hG hS ⟨_, [], rfl, Rd.val _, rfl⟩
    | some A => exact (h1 A c).2 X M w _ hG hS ⟨_, [], rfl, Rd.val _, rfl⟩
  | row b o n c k l f hn h0 => cases hn; exact absurd h0 (Nat.lt_irrefl _)
theorem bin_nil {t e : TypeId} {x y : Operand} {A : Option Addr} {n c : Nat} (hu : Tryz.prog.underlying t = some (.slice e)) : Bn .eql t x y (.slice A n c) (.slice none 0 0) (.bool A.isNone) := by
  intro w
  have := Lib.run_eql_slice_nil (P := Tryz.prog) w t e A n c 0 0 hu
  simp only [eqGuard, Sem.run_bind, Sem.run_pure, Result.andThen, Bool.not_true, Bool.false_eq_true, if_false, this]
theorem fitM0 : FitM 0 0 := ⟨by decide, by decide, by decide⟩
theorem p_clone0 : Suk 63 [.dt (.row [])] [] (.own 0 0) [some (.buf 37 11 [])] :=
  .empty (fun c => .retNil (psw (n := 0) (ks := []) (an := [yT]) (ls := []) (ps := [Bn .eql 29 (.tmp 3) (.const (Value.slice none 0 0)) (Value.slice none 0 c) (Value.slice none 0 0) bT]) Tryz.func63 (by kernel_rfl) (by kernel_rfl) ⟨bin_nil (e := 37) (by kernel_rfl), trivial⟩))
    fun A c => psw (n := 0) (ks := [0]) (an := [yF, .no]) (ls := []) (ps := [Bn .eql 29 (.tmp 3) (.const (Value.slice none 0 0)) (Value.slice (some A) 0 c) (Value.slice none 0 0) bF, FitM 0 0]) Tryz.func63 (by kernel_rfl) (by kernel_rfl) ⟨bin_nil (e := 37) (by kernel_rfl), fitM0, trivial⟩
theorem p_clone {es : List (List Dt)} (h0 : es ≠ []) (hl : es.length ≤ 1000) (hs : SrcOK 11 es) : Suk 63 [.dt (.row es)] [] (.own 0 es.length) [some (.buf 37 11 es)] :=
  psw (n := 0) (ks := [0]) (an := [.no, .av (.un)]) (ls := []) (ps := [es ≠ [], FitM 0 0, 0 = 0, FitB 176 (([] ++ es).length), SrcOK 11 es]) Tryz.func63 (by kernel_rfl) (by kernel_rfl) ⟨h0, fitM0, rfl, fit_of (by omega) (by rw [List.nil_append]; omega), hs, trivial⟩
theorem p_cloneA0 : Suk 129 [.dt (.row [])] [] (.own 0 0) [some (.buf 87 13 [])] :=
  .empty (fun c => .retNil (psw (n := 0) (ks := []) (an := [yT]) (ls := []) (ps := [Bn .eql 57 (.tmp 3) (.const (Value.slice none 0 0)) (Value.slice none 0 c) (Value.slice none 0 0) bT]) Tryz.func129 (by kernel_rfl) (by kernel_rfl) ⟨bin_nil (e := 87) (by kernel_rfl), trivial⟩))
    fun A c => psw (n := 0) (ks := [0]) (an := [yF, .no]) (ls := []) (ps := [Bn .eql 57 (.tmp 3) (.const (Value.slice none 0 0)) (Value.slice (some A) 0 c) (Value.slice none 0 0) bF, FitM 0 0]) Tryz.func129 (by kernel_rfl) (by kernel_rfl) ⟨bin_nil (e := 87) (by kernel_rfl), fitM0, trivial⟩
end Go.Proofs.YtendgffijciehaaGreatDoor
/- Add, Union, Tautology and Subsumes of the code on small clauses. -/
namespace Go.Proofs.YtendgffijciehaaGreatDoor
open Go.RowKit
open Te

theorem wfs1 {p : Te} (hp : p.Gd) : ∀ x ∈ [p], x.Wf := fun x hx => by rw [List.mem_singleton] at hx; subst hx; exact hp.wf
theorem wfs2 {p q : Te} (hp : p.Gd) (hq : q.Gd) : ∀ x ∈ [p, q], x.Wf := fun x hx => by
  simp only [List.mem_cons, List.not_mem_nil, or_false] at hx
  rcases hx with rfl | rfl
  · exact hp.wf
  · exact hq.wf
abbrev contF : FuncId := 24
theorem cont0 (t : Te) : Puk contF [.dt (.row []), teA t] (boA false) := (p_cont (c := []) (by decide) (fun x hx => by cases hx) t).b (noD (by simp))
theorem cont1 {p t : Te} (hp : p.Gd) {b : Bool} (h : decide (t ∈ [p]) = b) : Puk contF [.dt (.row [encT p]), teA t] (boA b) := by
  rw [row1]
  exact (p_cont (c := [p]) (by show 1 ≤ _; omega) (wfs1 hp) t).b h
theorem cont2 {p q t : Te} (hp : p.Gd) (hq : q.Gd) {b : Bool} (h : decide (t ∈ [p, q]) = b) : Puk contF [.dt (.row [encT p, encT q]), teA t] (boA b) := by
  rw [row2]
  exact (p_cont (c := [p, q]) (by show 2 ≤ _; omega) (wfs2 hp hq) t).b h
theorem p_add0 (p : Te) : Puk 27 [.dt (.row []), .dt (.row [encT p])] (.dt (.row [encT p])) :=
  pwalk (an := [.no, .no, .no, yF, .no, .no, .no]) (ls := [.scl 1 1 [] (.own 0 0) [some (.buf 37 11 [])], .run 2]) (ps := [Suk 63 [AV.dt (Dt.row [])] [] (AV.own 0 0) [some (Bx.buf 37 11 [])], Puk 24 [(.dt (.row [])), (teA p)] (boA false), 0 = 0, 1 = 1]) Tryz.func27 (by kernel_rfl) (by kernel_rfl) ⟨p_clone0, cont0 p, rfl, rfl, trivial⟩
theorem p_add1 {p q : Te} (hp : p.Gd) (hq : q.Gd) (hne : q ≠ p) : Puk 27 [.dt (.row [encT p]), .dt (.row [encT q, encT p])] (.dt (.row [encT p, encT q])) :=
  pwalk (an := [.no, .no, .no, yF, .no, .no, .no, .no, yT, .no, .no]) (ls := [.scl 1 1 [] (.own 0 1) [some (.buf 37 11 [encT p])], .run 3]) (ps := [Suk 63 [AV.dt (Dt.row [encT p])] [] (AV.own 0 1) [some (Bx.buf 37 11 [encT p])], Puk 24 [(.dt (.row [encT p])), (teA q)] (boA false), 1 = 1, Puk 24 [(.dt (.row [encT p, encT q])), (teA p)] (boA true), 2 = 2, 2 = 2]) Tryz.func27 (by kernel_rfl) (by kernel_rfl) ⟨p_clone (by simp) (by simp) (src_te1 p), cont1 hp (noD (by simp [hne])), rfl, cont2 hp hq (yesD (by simp)), rfl, rfl, trivial⟩
theorem p_union {p q : Te} (hp : p.Gd) (hq : q.Gd) (hne : q ≠ p) : Puk 28 [.dt (.row [[.row [encT p]], [.row [encT q, encT p]]])] (.dt (.row [encT p, encT q])) :=
  pwalk (an := [.no, .no, .no, .av (.dt (.row [encT p])), .no, .no, .no, .av (.dt (.row [encT p, encT q])), .no, .no]) (ls := [.run 3]) (ps := [Puk 27 [(.dt (.row [])), (.dt (.row [encT p]))] (.dt (.row [encT p])), Puk 27 [(.dt (.row [encT p])), (.dt (.row [encT q, encT p]))] (.dt (.row [encT p, encT q]))]) Tryz.func28 (by kernel_rfl) (by kernel_rfl) ⟨p_add0 p, p_add1 hp hq hne, trivial⟩
end Go.Proofs.YtendgffijciehaaGreatDoor
/- Tautology of the code on small clauses. -/
namespace Go.Proofs.YtendgffijciehaaGreatDoor
open Go.RowKit
open Te

/-- the closure of Tautology at a literal that is no constant, no equality, no negation -/
theorem w_tau1 {c : List Te} {l m : Te} {b : Bool} (h0 : l.kind ≠ 2) (h1 : Puk 56 [teA l, stA equalB, inA 2] (boA false)) (h2 : Puk 56 [teA l, stA notB, inA 1] (boA false)) (h3 : Puk 23 [teA l] (teA m)) (h4 : Puk contF [tesA c, teA m] (boA b)) : Puk 54 [teA l, .pin [tesA c]] (boA b) :=
  pwalk (an := [yF, yF, yF, .av (teA m), .av (boA b)]) (ls := []) (ps := [Bn .eql 3 (.tmp 5) (.const (vi 2)) (vi l.kind) (vi 2) bF, Puk 56 [(teA l), (stA [101, 113, 117, 97, 108]), (inA 2)] (boA false), Puk 56 [(teA l), (stA [110, 111, 116]), (inA 1)] (boA false), Puk 23 [(teA l)] (teA m), Puk 24 [(.dt (.row (List.map Te.enc c))), (teA m)] (boA b)]) Tryz.func54 (by kernel_rfl) (by kernel_rfl) ⟨bin_ieq (noD h0), h1, h2, h3, h4, trivial⟩
/-- at a negation -/
theorem w_tau2 {c : List Te} {l m y : Te} {b : Bool} (h0 : l.kind ≠ 2) (hx : l.args[0]? = some y) (h1 : Puk 56 [teA l, stA equalB, inA 2] (boA false)) (h2 : Puk 56 [teA l, stA notB, inA 1] (boA true)) (h5 : Puk 58 [boA false] (teA noT)) (h6 : Puk 57 [teA y, teA noT] (boA false)) (h3 : Puk 23 [teA l] (teA m)) (h4 : Puk contF [tesA c, teA m] (boA b)) : Puk 54 [teA l, .pin [tesA c]] (boA b) :=
  pwalk (an := [yF, yF, yT, .av (.pin ((encT y).map .dt)), .av (teA noT), yF, .av (teA m), .av (boA b)]) (ls := []) (ps := [Bn .eql 3 (.tmp 5) (.const (vi 2)) (vi l.kind) (vi 2) bF, Puk 56 [(teA l), (stA [101, 113, 117, 97, 108]), (inA 2)] (boA false), Puk 56 [(teA l), (stA [110, 111, 116]), (inA 1)] (boA true), IxAt (List.map Te.enc l.args) 0 11 (encT y), Puk 58 [(boA false)] (.agg [(inA 2), (stA noT.np), (stA noT.nn), (inA 2), (stA noT.val.num), (stA noT.val.den), (stA noT.val.sp), (stA noT.val.sn), (stA noT.val.text), (.dt (.row (List.map Ob.enc noT.val.pair))), (.dt (.row (List.map Te.enc noT.args)))]), Puk 57 [(teA y), (.agg [(inA 2), (stA noT.np), (stA noT.nn), (inA 2), (stA noT.val.num), (stA noT.val.den), (stA noT.val.sp), (stA noT.val.sn), (stA noT.val.text), (.dt (.row (List.map Ob.enc noT.val.pair))), (.dt (.row (List.map Te.enc noT.args)))])] (boA false), Puk 23 [(teA l)] (teA m), Puk 24 [(.dt (.row (List.map Te.enc c))), (teA m)] (boA b)]) Tryz.func54 (by kernel_rfl) (by kernel_rfl) ⟨bin_ieq (noD h0), h1, h2, ix_te hx, h5, h6, h3, h4, trivial⟩
theorem w_taut {c : List Te} {b : Bool} (h : Puk 53 [tesA c, .clf 54 [.pin [tesA c]]] (boA b)) : Puk 20 [tesA c] (boA b) :=
  pwalk (an := [.av (boA b)]) (ls := []) (ps := [Puk 53 [(.dt (.row (List.map Te.enc c))), (.clf 54 [(.pin [(.dt (.row (List.map Te.enc c)))])])] (boA b)]) Tryz.func20 (by kernel_rfl) (by kernel_rfl) ⟨h, trivial⟩
theorem p_taut {c : List Te} (hl : c.length ≤ 1000) {p : Te → Bool} (h : ∀ x ∈ c, Puk 54 [teA x, .pin [tesA c]] (boA (p x))) : Puk 20 [tesA c] (boA (c.any p)) :=
  w_taut (p_ctFunc (cs := [.pin [tesA c]]) (by omega) h)
/- matching a variable -/
abbrev asg (p y : Te) : List Dt := [.val (str p.np), .val (str p.nn)] ++ encT y
/-- the term of nothing, as it is built -/
abbrev zTn : AV := .agg [inA 0, stA [], stA [], inA 0, stA [], stA [], stA [], stA [], stA [], .nil, .nil]
theorem src_asg (p y : Te) : SrcOK 13 [asg p y] := by
  intro x hx
  rw [List.mem_singleton] at hx
  subst hx
  refine ⟨rfl, fun d hd => ?_⟩
  rcases List.mem_append.1 hd with hd | hd
  · simp only [List.mem_cons, List.not_mem_nil, or_false] at hd
    rcases hd with rfl | rfl <;> rfl
  · exact (src_te1 y _ (List.mem_singleton.2 rfl)).2 d hd
theorem p_lookup0 (a b : List UInt8) : Suk 154 [.own 0 0, syA a b] [some (.buf 87 13 [])] (.tup [zTn, boA false]) [some (.buf 87 13 [])] :=
  psw (n := 1) (ks := [0]) (an := [.no, .no]) (ls := [.run 1]) (ps := []) Tryz.func154 (by kernel_rfl) (by kernel_rfl) trivial
theorem p_match1 {p y : Te} (h : p.kind = 1) : Suk 130 [teA p, teA y, .own 0 0] [some (.buf 87 13 [])] (.tup [.own 0 1, boA true]) [some (.buf 87 13 [asg p y])] :=
  psw (n := 1) (ks := [0]) (an := [yT, .av (.un)]) (ls := [.scl 2 3 [0] (.tup [zTn, boA false]) [some (.buf 87 13 [])]]) (ps := [Bn .eql 3 (.tmp 15) (.const (vi 1)) (vi p.kind) (vi 1) bT, Suk 154 [AV.own 0 0, AV.agg [AV.dt (Dt.val (str p.np)), AV.dt (Dt.val (str p.nn))]] [some (Bx.buf 87 13 [])] (AV.tup [zTn, boA false]) [some (Bx.buf 87 13 [])], 0 = 0, FitB 208 1, SrcOK 13 [asg p y]]) Tryz.func130 (by kernel_rfl) (by kernel_rfl) ⟨bin_ieq (yesD h), p_lookup0 p.np p.nn, rfl, ⟨by decide, by decide⟩, src_asg p y, trivial⟩
theorem p_matchAll {p y : Te} (h : p.kind = 1) : Puk 107 [.dt (.row [encT p]), .dt (.row [encT y]), .dt (.row [])] (.tup [.dt (.row [asg p y]), boA true]) :=
  pwalk (an := [.no, .no, .no, .no, .no, .no, .no, .no, .no]) (ls := [.scl 3 1 [] (.own 0 0) [some (.buf 87 13 [])], .run 2, .scl 7 6 [0] (.tup [.own 0 1, boA true]) [some (.buf 87 13 [asg p y])]]) (ps := [Suk 129 [AV.dt (Dt.row [])] [] (AV.own 0 0) [some (Bx.buf 87 13 [])], Suk 130 [teA p, teA y, AV.own 0 0] [some (Bx.buf 87 13 [])] (AV.tup [AV.own 0 1, boA true]) [some (Bx.buf 87 13 [asg p y])], 1 = 1]) Tryz.func107 (by kernel_rfl) (by kernel_rfl) ⟨p_cloneA0, p_match1 h, rfl, trivial⟩
theorem p_matchV {p y : Te} (h : p.kind = 1) : Puk 88 [teA p, teA y, .dt (.row [])] (.tup [.dt (.row [asg p y]), boA true]) :=
  pwalk (an := [.av (.tup [.dt (.row [asg p y]), boA true])]) (ls := []) (ps := [Puk 107 [(.dt (.row [encT p])), (.dt (.row [encT y])), (.dt (.row []))] (.tup [(.dt (.row [[(.val (str p.np)), (.val (str p.nn)), (.val (vi y.kind)), (.val (str y.np)), (.val (str y.nn)), (.val (vi y.val.kind)), (.val (str y.val.num)), (.val (str y.val.den)), (.val (str y.val.sp)), (.val (str y.val.sn)), (.val (str y.val.text)), (.row (List.map Ob.enc y.val.pair)), (.row (List.map Te.enc y.args))]])), (boA true)])]) Tryz.func88 (by kernel_rfl) (by kernel_rfl) ⟨p_matchAll h, trivial⟩
theorem p_sub0 (b : List Te) (s : List (List Dt)) : Puk 67 [.dt (.row []), tesA b, .dt (.row s)] (boA true) :=
  pwalk (an := [.no, .no]) (ls := []) (ps := []) Tryz.func67 (by kernel_rfl) (by kernel_rfl) trivial
theorem p_subC {p y : Te} {b : List Te} (h : p.kind = 1) : Puk 87 [teA y, .pin [.dt (.row [encT p])], .pin [.dt (.row [])], .pin [tesA b]] (boA true) :=
  pwalk (an := [.no, .av (.tup [.dt (.row [asg p y]), boA true]), .no, yT]) (ls := []) (ps := [Puk 88 [(teA p), (teA y), (.dt (.row []))] (.tup [(.dt (.row [[(.val (str p.np)), (.val (str p.nn)), (.val (vi y.kind)), (.val (str y.np)), (.val (str y.nn)), (.val (vi y.val.kind)), (.val (str y.val.num)), (.val (str y.val.den)), (.val (str y.val.sp)), (.val (str y.val.sn)), (.val (str y.val.text)), (.row (List.map Ob.enc y.val.pair)), (.row (List.map Te.enc y.args))]])), (boA true)]), SlcOK [encT p] 11 ((some 1).getD 0) (none.getD ↑[encT p].length) [], (none : Option Int) = none ∨ (none : Option Int) = none, Puk 67 [(.dt (.row [])), (.dt (.row (List.map Te.enc b))), (.dt (.row [[(.val (str p.np)), (.val (str p.nn)), (.val (vi y.kind)), (.val (str y.np)), (.val (str y.nn)), (.val (vi y.val.kind)), (.val (str y.val.num)), (.val (str y.val.den)), (.val (str y.val.sp)), (.val (str y.val.sn)), (.val (str y.val.text)), (.row (List.map Ob.enc y.val.pair)), (.row (List.map Te.enc y.args))]]))] (boA true)]) Tryz.func87 (by kernel_rfl) (by kernel_rfl) ⟨p_matchV h, ⟨by show (0 : Int) ≤ 1; omega, by show (1 : Int) ≤ ((1 : Nat) : Int); omega, Int.le_refl _, rfl, .inr fun x hx => by rw [List.mem_singleton] at hx; subst hx; rfl⟩, .inl rfl, p_sub0 b _, trivial⟩
theorem p_sub1 {p : Te} {b : List Te} (hb : b.length ≤ 1000) (h : p.kind = 1) : Puk 67 [.dt (.row [encT p]), tesA b, .dt (.row [])] (boA (b.any fun _ => true)) :=
  pwalk (an := [.no, .no, .av (boA (b.any fun _ => true))]) (ls := []) (ps := [Puk 53 [(.dt (.row (List.map Te.enc b))), (.clf 87 [(.pin [(.dt (.row [encT p]))]), (.pin [(.dt (.row []))]), (.pin [(.dt (.row (List.map Te.enc b)))])])] (boA (b.any fun x => true))]) Tryz.func67 (by kernel_rfl) (by kernel_rfl) ⟨p_ctFunc (p := fun _ => true) (by omega) fun x _ => p_subC h, trivial⟩
theorem p_subs {p q r : Te} (h : p.kind = 1) : Puk 37 [.dt (.row [encT p]), .dt (.row [encT q, encT r])] (boA true) := by
  rw [row2]
  exact pwalk (an := [.no, .no, yT]) (ls := []) (ps := [Puk 67 [(.dt (.row [encT p])), (.dt (.row (List.map Te.enc [q, r]))), (.dt (.row []))] (boA true)]) Tryz.func37 (by kernel_rfl) (by kernel_rfl) ⟨(p_sub1 (b := [q, r]) (by show 2 ≤ 1000; omega) h).b rfl, trivial⟩
end Go.Proofs.YtendgffijciehaaGreatDoor
/- The law ClauseNormal: its first check, and the whole. -/
namespace Go.Proofs.YtendgffijciehaaGreatDoor
open Go.RowKit
open Te

abbrev cls2 (c d : List (List Dt)) : AV := .dt (.row [[.row c], [.row d]])
theorem w_first {p q r s x f m : Te} {c d : List (List Dt)} (h1 : Puk 39 [syA userB [120]] (teA p)) (h2 : Puk 39 [syA userB [121]] (teA q)) (h3 : Puk 39 [syA userB [122]] (teA r)) (h4 : Puk 39 [syA userB [117]] (teA s))
    (h5 : Puk 15 [stA ifB, .dt (.row [encT p, encT q, encT r])] (teA x)) (h6 : Puk 15 [stA impB, .dt (.row [encT x, encT s])] (teA f))
    (h7 : Puk 41 [teA f] (.tup [cls2 c d, inA 0])) (hc : c.length = 3) (hd : d.length = 3)
    (h8 : Puk 23 [teA p] (teA m)) (h9 : Puk 20 [.dt (.row [encT p, encT m])] (boA true)) (h10 : Puk 20 [.dt (.row [encT p])] (boA false))
    (h11 : Puk 37 [.dt (.row [encT p]), .dt (.row [encT q, encT r])] (boA true)) (h12 : Puk 28 [.dt (.row [[.row [encT p]], [.row [encT q, encT p]]])] (.dt (.row [encT p, encT q]))) : Puk 8 [] (boA true) :=
  pwalk (an := [.av (.dt (.row vars4)), .no, .av (teA p), .no, .av (teA q), .no, .av (teA r), .no, .av (teA s), .av (teA x), .av (teA f), .av (.tup [cls2 c d, inA 0]), .no, .no, .no, .no, .av (inA 3), .no, .no, .av (inA 3), .no, .av (teA m), yT, yF, yT, .av (.dt (.row [encT p, encT q])), .no, .no]) (ls := []) (ps := [Puk 13 [(inA 4)] (.dt (.row [[(.val (str userB)), (.val (str [120]))], [(.val (str userB)), (.val (str [121]))], [(.val (str userB)), (.val (str [122]))], [(.val (str userB)), (.val (str [117]))]])), Puk 39 [(syA userB [120])] (teA p), Puk 39 [(syA userB [121])] (teA q), Puk 39 [(syA userB [122])] (teA r), Puk 39 [(syA userB [117])] (teA s), Puk 15 [(stA [105, 102]), (.dt (.row [encT p, encT q, encT r]))] (teA x), Puk 15 [(stA [105, 109, 112, 108, 105, 101, 115]), (.dt (.row [encT x, encT s]))] (teA f), Puk 41 [(teA f)] (.tup [(.dt (.row [[(.row c)], [(.row d)]])), (inA 0)]), (vi 3) = (vi ↑c.length), (vi 3) = (vi ↑d.length), Puk 23 [(teA p)] (teA m), Puk 20 [(.dt (.row [encT p, encT m]))] (boA true), Puk 20 [(.dt (.row [encT p]))] (boA false), Puk 37 [(.dt (.row [encT p])), (.dt (.row [encT q, encT r]))] (boA true), Puk 28 [(.dt (.row [[(.row [encT p])], [(.row [encT q, encT p])]]))] (.dt (.row [encT p, encT q]))]) Tryz.func8 (by kernel_rfl) (by kernel_rfl)
    ⟨p_vars4, h1, h2, h3, h4, h5, h6, h7, by rw [hc]; rfl, by rw [hd]; rfl, h8, h9, h10, h11, h12, trivial⟩
abbrev pT : Te := varT [120]
abbrev qT : Te := varT [121]
abbrev rT : Te := varT [122]
abbrev sT : Te := varT [117]
abbrev fstT : Te := ap impB [ap ifB [pT, qT, rT], sT]
abbrev fst1 : List Te := [ap notB [pT], ap notB [qT], sT]
abbrev fst2 : List Te := [pT, ap notB [rT], sT]
theorem fst_exm : (exm id 20002 fstT [] ⟨[], 0, 0⟩).er = 0 ∧ (exm id 20002 fstT [] ⟨[], 0, 0⟩).out = [fst1, fst2] := by decide +kernel
theorem gd2 {a b : Te} (ha : a.Gd) (hb : b.Gd) : ∀ x ∈ [a, b], x.Gd := fun x hx => by
  simp only [List.mem_cons, List.not_mem_nil, or_false] at hx
  rcases hx with rfl | rfl
  · exact ha
  · exact hb
theorem fst_gd : fstT.Gd := .ap (by show 2 ≤ 1000; omega) (gd2 ((var_gd _).if_ (var_gd _) (var_gd _)) (var_gd _))
theorem p_fstN : Puk 41 [teA fstT] (.tup [cls2 (encTs fst1) (encTs fst2), inA 0]) := by
  have h := p_normalize fst_gd
  unfold nrmA at h
  rw [fst_exm.1, fst_exm.2] at h
  exact h
theorem neg_pT : neg pT = ap notB [pT] := by decide +kernel
theorem var_ne {n : List UInt8} : (varT n).kind ≠ 2 := by show (1 : Int) ≠ 2; decide
theorem var_is {n m : List UInt8} {k : Nat} : Puk 56 [teA (varT n), stA m, inA k] (boA false) := (p_is (varT n) m k).b (noD fun h => by cases h.1)
/-- Tautology of a variable and its negation, and of a variable -/
theorem p_tau1 : Puk 20 [.dt (.row [encT pT, encT (ap notB [pT])])] (boA true) := by
  rw [row2]
  refine (p_taut (c := [pT, ap notB [pT]]) (by show 2 ≤ 1000; omega) (p := fun _ => true) fun x hx => ?_).b rfl
  simp only [List.mem_cons, List.not_mem_nil, or_false] at hx
  have hc : ∀ t : Te, t ∈ [pT, ap notB [pT]] → Puk contF [tesA [pT, ap notB [pT]], teA t] (boA true) := fun t ht => by
    have := cont2 (p := pT) (q := ap notB [pT]) (var_gd _) (var_gd _).not (t := t) (yesD ht)
    rwa [row2] at this
  rcases hx with rfl | rfl
  · exact w_tau1 var_ne var_is var_is (p_neg pT) (by rw [neg_pT]; exact hc _ (by simp))
  · exact w_tau2 (y := pT) (by decide) rfl ((p_is (ap notB [pT]) equalB 2).b (by decide +kernel)) ((p_is (ap notB [pT]) notB 1).b (by decide +kernel)) (p_constant false) ((p_teq (var_gd _).wf noT).b (by decide +kernel)) (p_neg (ap notB [pT])) (by rw [neg_not]; exact hc _ (by simp))
theorem p_tau0 : Puk 20 [.dt (.row [encT pT])] (boA false) := by
  rw [row1]
  refine (p_taut (c := [pT]) (by show 1 ≤ 1000; omega) (p := fun _ => false) fun x hx => ?_).b rfl
  rw [List.mem_singleton] at hx
  subst hx
  have := cont1 (p := pT) (var_gd _) (t := ap notB [pT]) (b := false) (by decide +kernel)
  rw [row1] at this
  exact w_tau1 var_ne var_is var_is (p_neg pT) (by rw [neg_pT]; exact this)
/-- the first check -/
theorem p_first : Puk 8 [] (boA true) :=
  w_first (p_rVar _) (p_rVar _) (p_rVar _) (p_rVar _) (p_rLisp3 _ _ _ _) (p_rLisp2 _ _ _) p_fstN rfl rfl (by have := p_neg pT; rwa [neg_pT] at this) p_tau1 p_tau0 (p_subs rfl) (p_union (var_gd _) (var_gd _) (by decide +kernel))
end Go.Proofs.YtendgffijciehaaGreatDoor
/- Which terms are valid: nodes and depth, the walks of the code's text. -/
namespace Go.Proofs.YtendgffijciehaaGreatDoor
open Go.RowKit
open Te

theorem bin_ile {P : Program} {t : TypeId} {x y : Operand} {k : IntKind} {a b : Int} {r : Bool} (h : decide (a ≤ b) = r) : BinIs P .leq t x y (.int k a) (.int k b) (.bool r) := by
  subst h
  exact sbin_is (by simp [sbin])
theorem syGn : Tryz.prog.eqGuardType Tryz.prog.depth 32 = false := by kernel_rfl
theorem bin_syne {x y : Operand} {p s p' s' : List UInt8} {r : Bool} (h : (decide (p = p') && decide (s = s')) = !r) : BinIs Tryz.prog .neq 32 x y (.agg #[str p, str s]) (.agg #[str p', str s']) (.bool r) := by
  intro w
  rw [show r = !(decide (p = p') && decide (s = s')) by rw [h, Bool.not_not]]
  simp only [Sem.run_bind, run_eqGuard_agg w .neq _ x y _ _ syGn, Result.andThen_ok, run_neq_struct, sy_equal]
theorem p_rNodesO {o : Ob} (h : o.Wf) : Puk 118 [obA o] (inA (nodesP o)) :=
  pk_ov (fnm Tryz.func118 rfl (by kernel_rfl)) fun ok A n c w _ hr => rNodes_any ok o h A n c w hr
theorem p_rValidO {o : Ob} (h : o.Wf) (hs : o.Sm) : Puk 178 [obA o] (boA o.validB) :=
  pk_ov (fnm Tryz.func178 rfl (by kernel_rfl)) fun ok A n c w _ hr => rValid_any ok o h hs A n c w hr
theorem RL.one_sy {M : Mm} {w : World} {p n : List UInt8} {vs : List Value} (h : RL M w [syA p n] vs) : vs = [symAgg ⟨p, n⟩] := by
  obtain ⟨u, us, rfl, ⟨ws, rfl, u0, us0, rfl, h0, u1, us1, rfl, h1, h2⟩, h3⟩ := h
  obtain rfl : us = [] := h3
  obtain rfl : us1 = [] := h2
  rw [Rd.val_eq h0, Rd.val_eq h1]
theorem p_ref4V (p n : List UInt8) (hp : p.length ≤ 9223372036854775807) (hn : n.length ≤ 9223372036854775807) : Puk 170 [syA p n] (boA (symOk ⟨p, n⟩)) :=
  ⟨fnm Tryz.func170 rfl (by kernel_rfl), fun ok w vs _ hv => by
    obtain rfl := hv.one_sy
    exact (ref4Valid_any ⟨p, n⟩ w hp hn).mono fun _ _ h => h.pure⟩
/- rest -/
/- depth -/
end Go.Proofs.YtendgffijciehaaGreatDoor
