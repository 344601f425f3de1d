/- ClauseInstances, ClauseSubsumes. -/
import Derived.Test.YtendgffijciehaaGreatDoorFN
import Derived.Test.YtendgffijciehaaGreatDoorFI
namespace Go.Proofs.YtendgffijciehaaGreatDoor
open Go.RowKit
open Te

theorem p_fewV3 (l m s : List Raw) (hl : l.length ≤ 9223372036854775807) (hm : m.length ≤ 9223372036854775807) (hs : s.length ≤ 9223372036854775807) : Puk 9 [.dt (.row [[.row (l.map Raw.enc)], [.row (m.map Raw.enc)], [.row (s.map Raw.enc)]])] (boA (fewV l && (fewV m && fewV s))) := by
  have f1 := p_FewAll l 10
  have f2 := p_FewAll m 10
  have f3 := p_FewAll s 10
  unfold fewV
  cases b1 : decide (l.length ≤ 6) with
  | false =>
    have e0 := of_decide_eq_false b1
    exact pwalk (an := [.no, .no, .no, .av (inA l.length), yT]) (ls := [.run 1]) (ps := [(vi ↑l.length) = (vi (↑(List.map Raw.enc l).length)), Bn .gtr 3 (.tmp 14) (.const (vi 6)) (vi ↑l.length) (vi 6) bT]) Tryz.func9 (by kernel_rfl) (by kernel_rfl) ⟨lenEncR _, bin_igt (decide_eq_true (by omega)), trivial⟩
  | true =>
    have e0 := of_decide_eq_true b1
    cases b2 : fewAllR l 10 with
    | false =>
      rw [b2] at f1
      exact pwalk (an := [.no, .no, .no, .av (inA l.length), yF, .no, yF]) (ls := [.run 1]) (ps := [(vi ↑l.length) = (vi (↑(List.map Raw.enc l).length)), Bn .gtr 3 (.tmp 14) (.const (vi 6)) (vi ↑l.length) (vi 6) bF, Puk 42 [(.dt (.row (List.map Raw.enc l))), (inA 10)] (boA false)]) Tryz.func9 (by kernel_rfl) (by kernel_rfl) ⟨lenEncR _, bin_igt (decide_eq_false (by omega)), f1, trivial⟩
    | true =>
      rw [b2] at f1
      cases b3 : decide (m.length ≤ 6) with
      | false =>
        have e1 := of_decide_eq_false b3
        exact pwalk (an := [.no, .no, .no, .av (inA l.length), yF, .no, yT, .no, .no, .no, .no, .av (inA m.length), yT]) (ls := [.run 2]) (ps := [(vi ↑l.length) = (vi (↑(List.map Raw.enc l).length)), Bn .gtr 3 (.tmp 14) (.const (vi 6)) (vi ↑l.length) (vi 6) bF, Puk 42 [(.dt (.row (List.map Raw.enc l))), (inA 10)] (boA true), (vi ↑m.length) = (vi (↑(List.map Raw.enc m).length)), Bn .gtr 3 (.tmp 14) (.const (vi 6)) (vi ↑m.length) (vi 6) bT]) Tryz.func9 (by kernel_rfl) (by kernel_rfl) ⟨lenEncR _, bin_igt (decide_eq_false (by omega)), f1, lenEncR _, bin_igt (decide_eq_true (by omega)), trivial⟩
      | true =>
        have e1 := of_decide_eq_true b3
        cases b4 : fewAllR m 10 with
        | false =>
          rw [b4] at f2
          exact pwalk (an := [.no, .no, .no, .av (inA l.length), yF, .no, yT, .no, .no, .no, .no, .av (inA m.length), yF, .no, yF]) (ls := [.run 2]) (ps := [(vi ↑l.length) = (vi (↑(List.map Raw.enc l).length)), Bn .gtr 3 (.tmp 14) (.const (vi 6)) (vi ↑l.length) (vi 6) bF, Puk 42 [(.dt (.row (List.map Raw.enc l))), (inA 10)] (boA true), (vi ↑m.length) = (vi (↑(List.map Raw.enc m).length)), Bn .gtr 3 (.tmp 14) (.const (vi 6)) (vi ↑m.length) (vi 6) bF, Puk 42 [(.dt (.row (List.map Raw.enc m))), (inA 10)] (boA false)]) Tryz.func9 (by kernel_rfl) (by kernel_rfl) ⟨lenEncR _, bin_igt (decide_eq_false (by omega)), f1, lenEncR _, bin_igt (decide_eq_false (by omega)), f2, trivial⟩
        | true =>
          rw [b4] at f2
          cases b5 : decide (s.length ≤ 6) with
          | false =>
            have e2 := of_decide_eq_false b5
            exact pwalk (an := [.no, .no, .no, .av (inA l.length), yF, .no, yT, .no, .no, .no, .no, .av (inA m.length), yF, .no, yT, .no, .no, .no, .no, .av (inA s.length), yT]) (ls := [.run 3]) (ps := [(vi ↑l.length) = (vi (↑(List.map Raw.enc l).length)), Bn .gtr 3 (.tmp 14) (.const (vi 6)) (vi ↑l.length) (vi 6) bF, Puk 42 [(.dt (.row (List.map Raw.enc l))), (inA 10)] (boA true), (vi ↑m.length) = (vi (↑(List.map Raw.enc m).length)), Bn .gtr 3 (.tmp 14) (.const (vi 6)) (vi ↑m.length) (vi 6) bF, Puk 42 [(.dt (.row (List.map Raw.enc m))), (inA 10)] (boA true), (vi ↑s.length) = (vi (↑(List.map Raw.enc s).length)), Bn .gtr 3 (.tmp 14) (.const (vi 6)) (vi ↑s.length) (vi 6) bT]) Tryz.func9 (by kernel_rfl) (by kernel_rfl) ⟨lenEncR _, bin_igt (decide_eq_false (by omega)), f1, lenEncR _, bin_igt (decide_eq_false (by omega)), f2, lenEncR _, bin_igt (decide_eq_true (by omega)), trivial⟩
          | true =>
            have e2 := of_decide_eq_true b5
            cases b6 : fewAllR s 10 with
            | false =>
              rw [b6] at f3
              exact pwalk (an := [.no, .no, .no, .av (inA l.length), yF, .no, yT, .no, .no, .no, .no, .av (inA m.length), yF, .no, yT, .no, .no, .no, .no, .av (inA s.length), yF, .no, yF]) (ls := [.run 3]) (ps := [(vi ↑l.length) = (vi (↑(List.map Raw.enc l).length)), Bn .gtr 3 (.tmp 14) (.const (vi 6)) (vi ↑l.length) (vi 6) bF, Puk 42 [(.dt (.row (List.map Raw.enc l))), (inA 10)] (boA true), (vi ↑m.length) = (vi (↑(List.map Raw.enc m).length)), Bn .gtr 3 (.tmp 14) (.const (vi 6)) (vi ↑m.length) (vi 6) bF, Puk 42 [(.dt (.row (List.map Raw.enc m))), (inA 10)] (boA true), (vi ↑s.length) = (vi (↑(List.map Raw.enc s).length)), Bn .gtr 3 (.tmp 14) (.const (vi 6)) (vi ↑s.length) (vi 6) bF, Puk 42 [(.dt (.row (List.map Raw.enc s))), (inA 10)] (boA false)]) Tryz.func9 (by kernel_rfl) (by kernel_rfl) ⟨lenEncR _, bin_igt (decide_eq_false (by omega)), f1, lenEncR _, bin_igt (decide_eq_false (by omega)), f2, lenEncR _, bin_igt (decide_eq_false (by omega)), f3, trivial⟩
            | true =>
              rw [b6] at f3
              exact pwalk (an := [.no, .no, .no, .av (inA l.length), yF, .no, yT, .no, .no, .no, .no, .av (inA m.length), yF, .no, yT, .no, .no, .no, .no, .av (inA s.length), yF, .no, yT, .no, .no, .no]) (ls := [.run 4]) (ps := [(vi ↑l.length) = (vi (↑(List.map Raw.enc l).length)), Bn .gtr 3 (.tmp 14) (.const (vi 6)) (vi ↑l.length) (vi 6) bF, Puk 42 [(.dt (.row (List.map Raw.enc l))), (inA 10)] (boA true), (vi ↑m.length) = (vi (↑(List.map Raw.enc m).length)), Bn .gtr 3 (.tmp 14) (.const (vi 6)) (vi ↑m.length) (vi 6) bF, Puk 42 [(.dt (.row (List.map Raw.enc m))), (inA 10)] (boA true), (vi ↑s.length) = (vi (↑(List.map Raw.enc s).length)), Bn .gtr 3 (.tmp 14) (.const (vi 6)) (vi ↑s.length) (vi 6) bF, Puk 42 [(.dt (.row (List.map Raw.enc s))), (inA 10)] (boA true)]) Tryz.func9 (by kernel_rfl) (by kernel_rfl) ⟨lenEncR _, bin_igt (decide_eq_false (by omega)), f1, lenEncR _, bin_igt (decide_eq_false (by omega)), f2, lenEncR _, bin_igt (decide_eq_false (by omega)), f3, trivial⟩
abbrev eqaF : FuncId := 26
theorem w_inst {l s : List Raw} {c d : List Te} {σ : As} (hf : Puk 9 [.dt (.row [[.row (l.map Raw.enc)], [.row (s.map Raw.enc)]])] (boA true)) (h1 : Puk 11 [rawsA l] (tesA c)) (h2 : Puk 35 [.dt (.row []), rawsA s] (.dt (.row (asT σ)))) (h3 : Puk 34 [tesA c, .dt (.row (asT σ))] (tesA d)) (h4 : Puk 36 [tesA c, .dt (.row (asT σ))] (tesA d)) (h5 : Puk eqaF [tesA d, tesA d] (boA true)) : Puk 5 [rawsA l, rawsA s] (boA true) :=
  pwalk (an := [yT, yT, .av (tesA c), .av (.dt (.row (asT σ))), .av (tesA d), .av (tesA c), .av (.dt (.row (asT σ))), .av (tesA d), yT]) (ls := []) (ps := [Puk 8 [] (boA true), Puk 9 [(.dt (.row [[(.row (List.map Raw.enc l))], [(.row (List.map Raw.enc s))]]))] (boA true), Puk 11 [(.dt (.row (List.map Raw.enc l)))] (.dt (.row (List.map Te.enc c))), Puk 35 [(.dt (.row [])), (.dt (.row (List.map Raw.enc s)))] (.dt (.row (asT σ))), Puk 34 [(.dt (.row (List.map Te.enc c))), (.dt (.row (asT σ)))] (.dt (.row (List.map Te.enc d))), Puk 11 [(.dt (.row (List.map Raw.enc l)))] (.dt (.row (List.map Te.enc c))), Puk 35 [(.dt (.row [])), (.dt (.row (List.map Raw.enc s)))] (.dt (.row (asT σ))), Puk 36 [(.dt (.row (List.map Te.enc c))), (.dt (.row (asT σ)))] (.dt (.row (List.map Te.enc d))), Puk 26 [(.dt (.row (List.map Te.enc d))), (.dt (.row (List.map Te.enc d)))] (boA true)]) Tryz.func5 (by kernel_rfl) (by kernel_rfl) ⟨p_first, hf, h1, h2, h3, h1, h2, h4, h5, trivial⟩
theorem inst19 {l s : List Raw} (hl : l.length ≤ 9223372036854775807) (hs : s.length ≤ 9223372036854775807) : Puk 5 [rawsA l, rawsA s] (boA true) := by
  have hf := p_fewV2 l s hl hs
  cases b1 : fewV l && fewV s with
  | false =>
    rw [b1] at hf
    exact pwalk (an := [yT, yF]) (ls := []) (ps := [Puk 8 [] (boA true), Puk 9 [(.dt (.row [[(.row (List.map Raw.enc l))], [(.row (List.map Raw.enc s))]]))] (boA false)]) Tryz.func5 (by kernel_rfl) (by kernel_rfl) ⟨p_first, hf, trivial⟩
  | true =>
    rw [b1] at hf
    rw [Bool.and_eq_true] at b1
    obtain ⟨g1, g2⟩ := fewV_fit b1.1
    obtain ⟨_, g4⟩ := fewV_fit b1.2
    obtain ⟨c, c1, c2, c3⟩ := p_made (by omega) g2
    obtain ⟨σ, s1, s2⟩ := p_Subst g4
    obtain ⟨i1, i2⟩ := p_Inst s1 (by omega) c1
    have hdm : ∀ y ∈ addN [] (c.map (sub σ)), y.Mkd := addN_mkd _ _ (fun x hx => by cases hx) fun y hy => by
      obtain ⟨x, hx, rfl⟩ := List.mem_map.1 hy
      exact sub_mkd s1 (c1 x hx)
    have hdl := addN_len (c.map (sub σ)) []
    rw [List.length_map, List.length_nil] at hdl
    exact w_inst hf c3 s2 i1 i2 ((p_eqAll (a := addN [] (c.map (sub σ))) (b := addN [] (c.map (sub σ))) (by omega) fun y hy => (hdm y hy).wf).b (yesD rfl))
/- ClauseSubsumes -/
theorem w_subs {l m s : List Raw} {a b d e : List Te} {σ : As} {c : Bool} (hl : l.length ≤ 3) (hm : m.length ≤ 4) (hf : Puk 9 [.dt (.row [[.row (l.map Raw.enc)], [.row (m.map Raw.enc)], [.row (s.map Raw.enc)]])] (boA true)) (h1 : Puk 11 [rawsA l] (tesA a)) (h2 : Puk 11 [rawsA m] (tesA b)) (h3 : Puk 35 [.dt (.row []), rawsA s] (.dt (.row (asT σ)))) (h4 : Puk 36 [tesA a, .dt (.row (asT σ))] (tesA d)) (h5 : Puk 18 [tesA b, tesA d] (tesA e)) (k1 : Puk 37 [tesA a, tesA b] (boA c)) (k2 : Puk 38 [tesA a, tesA b] (boA c)) (k3 : Puk 37 [tesA a, tesA e] (boA true)) : Puk 6 [rawsA l, rawsA m, rawsA s] (boA true) :=
  pwalk (an := [yT, .av (inA l.length), yF, .av (inA m.length), yF, yT, .av (tesA a), .av (tesA b), .av (.dt (.row (asT σ))), .av (tesA d), .av (tesA e), .av (boA c), .av (boA c), yT, yT]) (ls := []) (ps := [Puk 8 [] (boA true), (vi ↑l.length) = (vi (↑(List.map Raw.enc l).length)), Bn .gtr 3 (.tmp 13) (.const (vi 3)) (vi ↑l.length) (vi 3) bF, (vi ↑m.length) = (vi (↑(List.map Raw.enc m).length)), Bn .gtr 3 (.tmp 17) (.const (vi 4)) (vi ↑m.length) (vi 4) bF, Puk 9 [(.dt (.row [[(.row (List.map Raw.enc l))], [(.row (List.map Raw.enc m))], [(.row (List.map Raw.enc s))]]))] (boA true), Puk 11 [(.dt (.row (List.map Raw.enc l)))] (.dt (.row (List.map Te.enc a))), Puk 11 [(.dt (.row (List.map Raw.enc m)))] (.dt (.row (List.map Te.enc b))), Puk 35 [(.dt (.row [])), (.dt (.row (List.map Raw.enc s)))] (.dt (.row (asT σ))), Puk 36 [(.dt (.row (List.map Te.enc a))), (.dt (.row (asT σ)))] (.dt (.row (List.map Te.enc d))), Puk 18 [(.dt (.row (List.map Te.enc b))), (.dt (.row (List.map Te.enc d)))] (.dt (.row (List.map Te.enc e))), Puk 37 [(.dt (.row (List.map Te.enc a))), (.dt (.row (List.map Te.enc b)))] (boA c), Puk 38 [(.dt (.row (List.map Te.enc a))), (.dt (.row (List.map Te.enc b)))] (boA c), Bn .eql 4 (.tmp 40) (.tmp 43) (Value.bool c) (Value.bool c) bT, Puk 37 [(.dt (.row (List.map Te.enc a))), (.dt (.row (List.map Te.enc e)))] (boA true)]) Tryz.func6 (by kernel_rfl) (by kernel_rfl) ⟨p_first, lenEncR _, bin_igt (decide_eq_false (by omega)), lenEncR _, bin_igt (decide_eq_false (by omega)), hf, h1, h2, h3, h4, h5, k1, k2, bin_beq (by kernel_rfl) (by simp), k3, trivial⟩
theorem subs19 {l m s : List Raw} (hl : l.length ≤ 9223372036854775807) (hm : m.length ≤ 9223372036854775807) (hs : s.length ≤ 9223372036854775807) : Puk 6 [rawsA l, rawsA m, rawsA s] (boA true) := by
  by_cases h3 : l.length ≤ 3
  · by_cases h4 : m.length ≤ 4
    · have hf := p_fewV3 l m s hl hm hs
      cases b1 : fewV l && (fewV m && fewV s) with
      | false =>
        rw [b1] at hf
        exact pwalk (an := [yT, .av (inA l.length), yF, .av (inA m.length), yF, yF]) (ls := []) (ps := [Puk 8 [] (boA true), (vi ↑l.length) = (vi (↑(List.map Raw.enc l).length)), Bn .gtr 3 (.tmp 13) (.const (vi 3)) (vi ↑l.length) (vi 3) bF, (vi ↑m.length) = (vi (↑(List.map Raw.enc m).length)), Bn .gtr 3 (.tmp 17) (.const (vi 4)) (vi ↑m.length) (vi 4) bF, Puk 9 [(.dt (.row [[(.row (List.map Raw.enc l))], [(.row (List.map Raw.enc m))], [(.row (List.map Raw.enc s))]]))] (boA false)]) Tryz.func6 (by kernel_rfl) (by kernel_rfl) ⟨p_first, lenEncR _, bin_igt (decide_eq_false (by omega)), lenEncR _, bin_igt (decide_eq_false (by omega)), hf, trivial⟩
      | true =>
        rw [b1] at hf
        have b1 := Bool.and_eq_true_iff.1 b1
        have b2 := Bool.and_eq_true_iff.1 b1.2
        obtain ⟨g1, g2⟩ := fewV_fit b1.1
        obtain ⟨g3, g4⟩ := fewV_fit b2.1
        obtain ⟨_, g6⟩ := fewV_fit b2.2
        obtain ⟨a, a1, a2, a3⟩ := p_made (by omega) g2
        obtain ⟨b, c1, c2, c3⟩ := p_made (by omega) g4
        obtain ⟨σ, s1, s2⟩ := p_Subst g6
        obtain ⟨_, i2⟩ := p_Inst s1 (by omega) a1
        have hdm : ∀ y ∈ addN [] (a.map (sub σ)), y.Mkd := addN_mkd _ _ (fun x hx => by cases hx) fun y hy => by
          obtain ⟨x, hx, rfl⟩ := List.mem_map.1 hy
          exact sub_mkd s1 (a1 x hx)
        have hdl := addN_len (a.map (sub σ)) []
        rw [List.length_map, List.length_nil] at hdl
        have hel := addN_len (addN [] (a.map (sub σ))) b
        have hem := addN_mkd (addN [] (a.map (sub σ))) b c1 hdm
        have ha := p_rAdd (c := b) (l := addN [] (a.map (sub σ))) (by omega) (by omega) (fun y hy => (c1 y hy).wf) (fun y hy => (hdm y hy).wf)
        obtain ⟨k1, k2⟩ := p_Subs a1 c1 (by omega) (by omega)
        obtain ⟨k3, _⟩ := p_Subs a1 hem (by omega) (by omega)
        have ht : subs a (addN b (addN [] (a.map (sub σ)))) = true := by
          unfold subs
          rw [if_neg (by omega)]
          exact srch_full a [] a1 (fun x hx => mem_addN _ _ _ (.inr (mem_addN _ _ _ (.inr (List.mem_map.2 ⟨x, hx, rfl⟩))))) (fun x hx => by cases hx)
        rw [ht] at k3
        exact w_subs h3 h4 hf a3 c3 s2 i2 ha k1 k2 k3
    · exact pwalk (an := [yT, .av (inA l.length), yF, .av (inA m.length), yT]) (ls := []) (ps := [Puk 8 [] (boA true), (vi ↑l.length) = (vi (↑(List.map Raw.enc l).length)), Bn .gtr 3 (.tmp 13) (.const (vi 3)) (vi ↑l.length) (vi 3) bF, (vi ↑m.length) = (vi (↑(List.map Raw.enc m).length)), Bn .gtr 3 (.tmp 17) (.const (vi 4)) (vi ↑m.length) (vi 4) bT]) Tryz.func6 (by kernel_rfl) (by kernel_rfl) ⟨p_first, lenEncR _, bin_igt (decide_eq_false (by omega)), lenEncR _, bin_igt (decide_eq_true (by omega)), trivial⟩
  · exact pwalk (an := [yT, .av (inA l.length), yT]) (ls := []) (ps := [Puk 8 [] (boA true), (vi ↑l.length) = (vi (↑(List.map Raw.enc l).length)), Bn .gtr 3 (.tmp 13) (.const (vi 3)) (vi ↑l.length) (vi 3) bT]) Tryz.func6 (by kernel_rfl) (by kernel_rfl) ⟨p_first, lenEncR _, bin_igt (decide_eq_true (by omega)), trivial⟩
end Go.Proofs.YtendgffijciehaaGreatDoor
/- ClauseLong. -/
namespace Go.Proofs.YtendgffijciehaaGreatDoor
open Go.RowKit
open Te

theorem p_vars1 : Puk 13 [inA 1] (.dt (.row [srow [120]])) := pwalk (an := [.av (syA userB [120]), .av (syA userB [121]), .av (syA userB [122]), .av (syA userB [117]), .no, .no, .no]) (ls := []) (ps := [Puk 48 [(stA [120])] (syA userB [120]), Puk 48 [(stA [121])] (syA userB [121]), Puk 48 [(stA [122])] (syA userB [122]), Puk 48 [(stA [117])] (syA userB [117]), SlcOK vars4 2 0 1 [srow [120]], (none : Option Int) = none ∨ (none : Option Int) = some (if (if 4 < 1 then 4 else 1) > 0 then if 4 < 1 then 4 else 1 else 0)]) Tryz.func13 (by kernel_rfl) (by kernel_rfl) ⟨p_user _, p_user _, p_user _, p_user _, ⟨by decide, by decide, by decide, rfl, .inl rfl⟩, .inl rfl, trivial⟩
/-- the literal number i -/
def lgT (i : Int) : Te := Te.ap equalB [varT [120], Te.con (Tr.num (i : Rat)).ob]
theorem lgT_mkd {i : Int} (h : i.natAbs < 10 ^ 4) : (lgT i).Mkd := .ap2 (by decide) (.var _ (by decide)) (.con _ (int_okM h))
abbrev lgS (N g : Int) (l : List Raw) (ea eb : List (List Dt)) (i : Int) : AS := ⟨stt 59 [(0, inA N), (1, inA g), (2, rwsA l), (7, .own 0 ea.length), (8, .own 1 eb.length), (9, inA i)], [some (.buf 37 11 ea), some (.buf 37 11 eb)]⟩
abbrev lg0 (N g : Int) (l : List Raw) : AS := ⟨stt 59 [(0, inA N), (1, inA g), (2, rwsA l), (7, .nil), (8, .nil), (9, inA 0)], []⟩
noncomputable abbrev lgB : Code := subC (bodyOf Tryz.f7) [1,1,1,1,1,0,1,0,0]
theorem lgB1 {N g : Int} {l : List Raw} {ea eb : List (List Dt)} {i : Nat} {o : Ob} {e : Te} (hi : (i : Int) < N) (hN : N ≤ 10) (ho : Puk 40 [inA (i : Int)] (obA o)) (he : Puk LspF [stA equalB, .dt (.row [encT (varT [120]), encT (Te.con o)])] (teA e)) (h1 : ea.length ≤ 1000) (h2 : eb.length ≤ 1000) (hm : (i : Int) ≠ g % (N + 2)) : Tri EX lgB (lgS N g l ea eb i) .nxt (lgS N g l (ea ++ [encT e]) (eb ++ [encT e]) ((i + 1 : Nat) : Int)) :=
  have h0 : 0 ≤ N := by omega
  twalk (c := subC (bodyOf Tryz.f7) [1,1,1,1,1,0,1,0,0]) (s := lgS N g l ea eb i) (an := [yT, .av (.dt (.row [srow [120]])), .no, .av (teA (varT [120])), .av (obA o), .av (teA (Te.con o)), .av (teA e), .av (.un), .av (inA (N + 2)), .av (inA (g % (N + 2))), yT, .av (.un), .av (inA ((i + 1 : Nat) : Int))]) (ls := []) (ft := [0,1,2,7,8,9]) (nb := 2) (e := .nxt) (s' := lgS N g l (ea ++ [encT e]) (eb ++ [encT e]) ((i + 1 : Nat) : Int)) (ps := [Bn .lss 3 (.tmp 20) (.tmp 21) (vi ↑i) (vi N) bT, Puk 13 [(inA 1)] (.dt (.row [[(.val (str userB)), (.val (str [120]))]])), Puk 39 [(syA userB [120])] (.agg [(inA 1), (stA (varT [120]).np), (stA (varT [120]).nn), (inA 0), (stA (varT [120]).val.num), (stA (varT [120]).val.den), (stA (varT [120]).val.sp), (stA (varT [120]).val.sn), (stA (varT [120]).val.text), (.dt (.row (List.map Ob.enc (varT [120]).val.pair))), (.dt (.row (List.map Te.enc (varT [120]).args)))]), Puk 40 [(inA ↑i)] (obA o), Puk 16 [(obA o)] (teA (con o)), Puk 15 [(stA [101, 113, 117, 97, 108]), (.dt (.row [[(.val (vi 1)), (.val (str (varT [120]).np)), (.val (str (varT [120]).nn)), (.val (vi 0)), (.val (str (varT [120]).val.num)), (.val (str (varT [120]).val.den)), (.val (str (varT [120]).val.sp)), (.val (str (varT [120]).val.sn)), (.val (str (varT [120]).val.text)), (.row (List.map Ob.enc (varT [120]).val.pair)), (.row (List.map Te.enc (varT [120]).args))], encT (con o)]))] (teA e), (ea.length) = (ea.length), FitB 176 ((ea ++ [encT e]).length), SrcOK 11 [encT e], Bn .add 3 (.tmp 40) (.const (vi 2)) (vi N) (vi 2) (vi (N + 2)), Puk 19 [(inA g), (inA (N + 2))] (inA (g % (N + 2))), Bn .neq 3 (.tmp 38) (.tmp 42) (vi ↑i) (vi (g % (N + 2))) bT, (eb.length) = (eb.length), FitB 176 ((eb ++ [encT e]).length), SrcOK 11 [encT e], Bn .add 3 (.tmp 23) (.const (vi 1)) (vi ↑i) (vi 1) (vi (↑(i + 1)))]) (by kernel_rfl) ⟨bin_ilt (decide_eq_true hi), p_vars1, p_rVar _, ho, p_rConst _, he, rfl, fit_of (by omega) (by simp; omega), src_te1 e, bin_iadd rfl (by omega) (by omega), p_mod _ _ (by omega) (by omega), bin_ine (by simp [hm]), rfl, fit_of (by omega) (by simp; omega), src_te1 e, bin_iadd (by omega) (by omega) (by omega), trivial⟩
theorem lgB2 {N g : Int} {l : List Raw} {ea eb : List (List Dt)} {i : Nat} {o : Ob} {e : Te} (hi : (i : Int) < N) (hN : N ≤ 10) (ho : Puk 40 [inA (i : Int)] (obA o)) (he : Puk LspF [stA equalB, .dt (.row [encT (varT [120]), encT (Te.con o)])] (teA e)) (h1 : ea.length ≤ 1000) (hm : (i : Int) = g % (N + 2)) : Tri EX lgB (lgS N g l ea eb i) .nxt (lgS N g l (ea ++ [encT e]) eb ((i + 1 : Nat) : Int)) :=
  have h0 : 0 ≤ N := by omega
  twalk (c := subC (bodyOf Tryz.f7) [1,1,1,1,1,0,1,0,0]) (s := lgS N g l ea eb i) (an := [yT, .av (.dt (.row [srow [120]])), .no, .av (teA (varT [120])), .av (obA o), .av (teA (Te.con o)), .av (teA e), .av (.un), .av (inA (N + 2)), .av (inA (g % (N + 2))), yF, .av (inA ((i + 1 : Nat) : Int))]) (ls := []) (ft := [0,1,2,7,8,9]) (nb := 2) (e := .nxt) (s' := lgS N g l (ea ++ [encT e]) eb ((i + 1 : Nat) : Int)) (ps := [Bn .lss 3 (.tmp 20) (.tmp 21) (vi ↑i) (vi N) bT, Puk 13 [(inA 1)] (.dt (.row [[(.val (str userB)), (.val (str [120]))]])), Puk 39 [(syA userB [120])] (.agg [(inA 1), (stA (varT [120]).np), (stA (varT [120]).nn), (inA 0), (stA (varT [120]).val.num), (stA (varT [120]).val.den), (stA (varT [120]).val.sp), (stA (varT [120]).val.sn), (stA (varT [120]).val.text), (.dt (.row (List.map Ob.enc (varT [120]).val.pair))), (.dt (.row (List.map Te.enc (varT [120]).args)))]), Puk 40 [(inA ↑i)] (obA o), Puk 16 [(obA o)] (teA (con o)), Puk 15 [(stA [101, 113, 117, 97, 108]), (.dt (.row [[(.val (vi 1)), (.val (str (varT [120]).np)), (.val (str (varT [120]).nn)), (.val (vi 0)), (.val (str (varT [120]).val.num)), (.val (str (varT [120]).val.den)), (.val (str (varT [120]).val.sp)), (.val (str (varT [120]).val.sn)), (.val (str (varT [120]).val.text)), (.row (List.map Ob.enc (varT [120]).val.pair)), (.row (List.map Te.enc (varT [120]).args))], encT (con o)]))] (teA e), (ea.length) = (ea.length), FitB 176 ((ea ++ [encT e]).length), SrcOK 11 [encT e], Bn .add 3 (.tmp 40) (.const (vi 2)) (vi N) (vi 2) (vi (N + 2)), Puk 19 [(inA g), (inA (N + 2))] (inA (g % (N + 2))), Bn .neq 3 (.tmp 38) (.tmp 42) (vi ↑i) (vi (g % (N + 2))) bF, Bn .add 3 (.tmp 23) (.const (vi 1)) (vi ↑i) (vi 1) (vi (↑(i + 1)))]) (by kernel_rfl) ⟨bin_ilt (decide_eq_true hi), p_vars1, p_rVar _, ho, p_rConst _, he, rfl, fit_of (by omega) (by simp; omega), src_te1 e, bin_iadd rfl (by omega) (by omega), p_mod _ _ (by omega) (by omega), bin_ine (by simp [hm]), bin_iadd (by omega) (by omega) (by omega), trivial⟩
theorem lgB3 {N g : Int} {l : List Raw} {ea eb : List (List Dt)} {i : Nat} (hi : ¬ (i : Int) < N) : Tri EX lgB (lgS N g l ea eb i) (.out 0) (lgS N g l ea eb i) :=
  twalk (c := subC (bodyOf Tryz.f7) [1,1,1,1,1,0,1,0,0]) (s := lgS N g l ea eb i) (an := [yF]) (ls := []) (ft := [0,1,2,7,8,9]) (nb := 2) (e := .out 0) (s' := lgS N g l ea eb i) (ps := [Bn .lss 3 (.tmp 20) (.tmp 21) (vi ↑i) (vi N) bF]) (by kernel_rfl) ⟨bin_ilt (decide_eq_false hi), trivial⟩
theorem lg_loop {N g : Int} {l : List Raw} (hN : N ≤ 10) : ∀ (j i : Nat) (a b : List Te), (i : Int) + j = N → a.length ≤ i → b.length ≤ i → (∀ x ∈ a, x.Mkd) → (∀ x ∈ b, x.Mkd) → ∃ a' b' : List Te, a'.length ≤ 10 ∧ b'.length ≤ 10 ∧ (∀ x ∈ a', x.Mkd) ∧ (∀ x ∈ b', x.Mkd) ∧ Lps EX lgB (lgS N g l (encTs a) (encTs b) i) (.out 0) (lgS N g l (encTs a') (encTs b') N) := by
  intro j
  induction j with
  | zero =>
    intro i a b hi ha hb hma hmb
    obtain rfl : N = (i : Int) := by omega
    exact ⟨a, b, by omega, by omega, hma, hmb, .stop (lgB3 (by omega)) (fun h => by cases h)⟩
  | succ j ih =>
    intro i a b hi ha hb hma hmb
    have hem := lgT_mkd (i := (i : Int)) (by omega)
    have snoc : ∀ {c : List Te}, (∀ x ∈ c, x.Mkd) → ∀ x ∈ c ++ [lgT i], x.Mkd := fun hc x hx => by
      rcases List.mem_append.1 hx with hx | hx
      · exact hc x hx
      · rw [List.mem_singleton] at hx; subst hx; exact hem
    have e : ∀ c : List Te, encTs c ++ [encT (lgT i)] = encTs (c ++ [lgT i]) := fun c => by unfold encTs; rw [List.map_append, row1]
    have hel : ∀ c : List Te, (encTs c).length = c.length := fun c => by unfold encTs; rw [List.length_map]
    have ho := p_rInt (i : Int) (by omega) (by omega)
    have he : Puk LspF [stA equalB, .dt (.row [encT (varT [120]), encT (Te.con (Tr.num ((i : Int) : Rat)).ob)])] (teA (lgT i)) := p_rLisp2 _ _ _
    by_cases hm : (i : Int) = g % (N + 2)
    · obtain ⟨a', b', k1, k2, k3, k4, k5⟩ := ih (i + 1) (a ++ [lgT i]) b (by omega) (by simp; omega) (by omega) (snoc hma) hmb
      have hs := lgB2 (l := l) (ea := encTs a) (eb := encTs b) (by omega) hN ho he (by rw [hel]; omega) hm
      rw [e] at hs
      exact ⟨a', b', k1, k2, k3, k4, .more hs k5⟩
    · obtain ⟨a', b', k1, k2, k3, k4, k5⟩ := ih (i + 1) (a ++ [lgT i]) (b ++ [lgT i]) (by omega) (by simp; omega) (by simp; omega) (snoc hma) (snoc hmb)
      have hs := lgB1 (l := l) (ea := encTs a) (eb := encTs b) (by omega) hN ho he (by rw [hel]; omega) (by rw [hel]; omega) hm
      rw [e, e] at hs
      exact ⟨a', b', k1, k2, k3, k4, .more hs k5⟩
theorem w_long {n g N : Int} {l : List Raw} {ea eb : List (List Dt)} {c d : List Te} {s : Bool} (hf : Puk 9 [.dt (.row [[.row (l.map Raw.enc)]])] (boA true)) (hN : N = 7 + n % 4) (ht : Tri EX (.loop lgB) (lg0 N g l) (.out 0) (lgS N g l ea eb N)) (h1 : Puk 11 [rawsA l] (tesA c)) (h2 : Puk 18 [.dt (.row eb), tesA c] (tesA d)) (k1 : Puk 37 [.dt (.row ea), tesA d] (boA s)) (k2 : Puk 38 [.dt (.row ea), tesA d] (boA s)) : Puk 7 [inA n, inA g, rawsA l] (boA true) :=
  pwalk (an := [yT, yT, .av (inA (n % 4)), .av (inA N), .av (tesA c), .av (tesA d), .av (boA s), .av (boA s), yT]) (ls := [.inv [0,1,2,7,8,9] 0 (.out 0) (lgS N g l ea eb N)]) (ps := [Puk 8 [] (boA true), Puk 9 [(.dt (.row [[(.row (List.map Raw.enc l))]]))] (boA true), Puk 19 [(inA n), (inA 4)] (inA (n % 4)), Bn .add 3 (.const (vi 7)) (.tmp 18) (vi 7) (vi (n % 4)) (vi N), Tri EX (.loop (subC (bodyOf Tryz.f7) [1,1,1,1,1,0,1,0,0])) (lg0 N g l) (.out 0) (lgS N g l ea eb N), Puk 11 [(.dt (.row (List.map Raw.enc l)))] (.dt (.row (List.map Te.enc c))), Puk 18 [(.dt (.row eb)), (.dt (.row (List.map Te.enc c)))] (.dt (.row (List.map Te.enc d))), (eb.length) = (eb.length), Puk 37 [(.dt (.row ea)), (.dt (.row (List.map Te.enc d)))] (boA s), (ea.length) = (ea.length), Puk 38 [(.dt (.row ea)), (.dt (.row (List.map Te.enc d)))] (boA s), (ea.length) = (ea.length), Bn .eql 4 (.tmp 54) (.tmp 57) (Value.bool s) (Value.bool s) bT]) Tryz.func7 (by kernel_rfl) (by kernel_rfl) ⟨p_first, hf, p_mod _ _ (by omega) (by omega), bin_iadd hN.symm (by omega) (by omega), ht, h1, h2, rfl, k1, rfl, k2, rfl, bin_beq (by kernel_rfl) (by simp), trivial⟩
theorem long19 {l : List Raw} (hl : l.length ≤ 9223372036854775807) (n g : Int) : Puk 7 [inA n, inA g, rawsA l] (boA true) := by
  have hf := p_fewV l hl
  cases b1 : fewV l with
  | false =>
    rw [b1] at hf
    exact pwalk (an := [yT, yF]) (ls := []) (ps := [Puk 8 [] (boA true), Puk 9 [(.dt (.row [[(.row (List.map Raw.enc l))]]))] (boA false)]) Tryz.func7 (by kernel_rfl) (by kernel_rfl) ⟨p_first, hf, trivial⟩
  | true =>
    rw [b1] at hf
    obtain ⟨g1, g2⟩ := fewV_fit b1
    obtain ⟨c, c1, c2, c3⟩ := p_made (by omega) g2
    obtain ⟨a, b, k1, k2, k3, k4, k5⟩ := lg_loop (N := 7 + n % 4) (g := g) (l := l) (by omega) (7 + n % 4).toNat 0 [] [] (by omega) (Nat.le_refl _) (Nat.le_refl _) (fun x hx => by cases hx) (fun x hx => by cases hx)
    have ht : Tri EX (.loop lgB) (lg0 (7 + n % 4) g l) (.out 0) (lgS (7 + n % 4) g l (encTs a) (encTs b) (7 + n % 4)) := Tri.own0 7 37 11 (by show 7 < 59; omega) rfl (Tri.own0 8 37 11 (by show 8 < 59; omega) rfl k5.tri)
    have ha := p_rAdd (c := b) (l := c) (by omega) (by omega) (fun y hy => (k4 y hy).wf) (fun y hy => (c1 y hy).wf)
    have hdl := addN_len c b
    obtain ⟨j1, j2⟩ := p_Subs k3 (addN_mkd c b k4 c1) (by omega) (by omega)
    exact w_long hf rfl ht c3 ha j1 j2
end Go.Proofs.YtendgffijciehaaGreatDoor
/- ClauseInstances, ClauseSubsumes, ClauseLong as contracts of the machine. -/
namespace Go.Proofs.YtendgffijciehaaGreatDoor
open Go.RowKit

theorem inst19_any (W : World) (hG : Gx W) (l : List Raw) (_ : ∀ s ∈ l, s.Wf) (A : Option Addr) (n c : Nat) (_ : n ≤ 9223372036854775807) (hr : Rd (fun _ => True) W (.slice A n c) (.row (l.map Raw.enc)))
    (q : List Raw) (_ : ∀ s ∈ q, s.Wf) (A2 : Option Addr) (n2 c2 : Nat) (_ : n2 ≤ 9223372036854775807) (hq : Rd (fun _ => True) W (.slice A2 n2 c2) (.row (q.map Raw.enc))) : Says 5 #[.slice A n c, .slice A2 n2 c2] W :=
  (inst19 (by have := hr.len; rw [List.length_map] at this; omega) (by have := hq.len; rw [List.length_map] at this; omega)).law (ok := fun _ => True) hG ⟨_, _, rfl, hr, _, [], rfl, hq, rfl⟩
theorem subs19_any (W : World) (hG : Gx W) (l : List Raw) (_ : ∀ s ∈ l, s.Wf) (A : Option Addr) (n c : Nat) (_ : n ≤ 9223372036854775807) (hr : Rd (fun _ => True) W (.slice A n c) (.row (l.map Raw.enc)))
    (q : List Raw) (_ : ∀ s ∈ q, s.Wf) (A2 : Option Addr) (n2 c2 : Nat) (_ : n2 ≤ 9223372036854775807) (hq : Rd (fun _ => True) W (.slice A2 n2 c2) (.row (q.map Raw.enc)))
    (p : List Raw) (_ : ∀ s ∈ p, s.Wf) (A3 : Option Addr) (n3 c3 : Nat) (_ : n3 ≤ 9223372036854775807) (hp : Rd (fun _ => True) W (.slice A3 n3 c3) (.row (p.map Raw.enc))) : Says 6 #[.slice A n c, .slice A2 n2 c2, .slice A3 n3 c3] W :=
  (subs19 (by have := hr.len; rw [List.length_map] at this; omega) (by have := hq.len; rw [List.length_map] at this; omega) (by have := hp.len; rw [List.length_map] at this; omega)).law (ok := fun _ => True) hG ⟨_, _, rfl, hr, _, _, rfl, hq, _, [], rfl, hp, rfl⟩
theorem long19_any (W : World) (hG : Gx W) (k : Int) (_ : -9223372036854775808 ≤ k) (_ : k ≤ 9223372036854775807) (g : Int) (_ : -9223372036854775808 ≤ g) (_ : g ≤ 9223372036854775807)
    (l : List Raw) (_ : ∀ s ∈ l, s.Wf) (A : Option Addr) (n c : Nat) (_ : n ≤ 9223372036854775807) (hr : Rd (fun _ => True) W (.slice A n c) (.row (l.map Raw.enc))) : Says 7 #[.int .i64 k, .int .i64 g, .slice A n c] W :=
  (long19 (by have := hr.len; rw [List.length_map] at this; omega) k g).law (ok := fun _ => True) hG ⟨_, _, rfl, .val _, _, _, rfl, .val _, _, [], rfl, hr, rfl⟩
end Go.Proofs.YtendgffijciehaaGreatDoor
