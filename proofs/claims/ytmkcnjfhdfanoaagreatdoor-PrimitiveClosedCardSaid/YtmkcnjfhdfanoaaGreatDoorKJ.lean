/- Plain walks, second form: a region that draws its order ends as in its text's order, where operations that touch the same place wait for each other. -/
import Derived.Test.YtmkcnjfhdfanoaaGreatDoorKI
import Derived.Scope
import Derived.Deep.LoopGhost
import Derived.Lib.LaidTab
import Derived.Test.YtmkcnjfhdfanoaaGreatDoorKG
import Derived.Test.YtmkcnjfhdfanoaaGreatDoorKF
import Derived.Test.YtmkcnjfhdfanoaaGreatDoorKD
namespace Go.Proofs.YtmkcnjfhdfanoaaGreatDoor
open Go.RowKit

/-- is the operation run? -/
def awant (ops : Array Oper) (tm : Nat → AV) (o : Oper) : Option Bool := match o.guard with
  | none => some true
  | some (g, b) => match (ops[g]?).bind (·.dst) with
    | none => none
    | some d => match tm d with
      | .dt (.val (.bool c)) => some (c == b)
      | .dt (.val (.tuple _)) => some false
      | _ => none
theorem awant_ok {X : Nat → Prop} {n0 : Nat} {w0 : World} {ok0 : Nat → Prop} {M : Mm} {nt : Nat} {tm : Nat → AV} {bx : Nat → Option Bx} {a : Act} {w : World} {ops : Array Oper} {o : Oper} {c : Bool} (hI : Inv X n0 w0 ok0 M nt tm bx a w) (h : awant ops tm o = some c) : Region.wanted o (yielded ops a.tmps) = c := by
  unfold awant at h
  unfold Region.wanted
  cases hg : o.guard with
  | none => rw [hg] at h; cases h; rfl
  | some x =>
    obtain ⟨g, b⟩ := x
    rw [hg] at h
    simp only at h ⊢
    unfold yielded
    cases hd : (ops[g]?).bind (·.dst) with
    | none => rw [hd] at h; cases h
    | some d =>
      rw [hd] at h
      simp only [Option.bind_some] at h ⊢
      have hv := hI.tmps d
      split at h
      · rename_i c' hc
        cases h
        rw [hc] at hv
        have hv' : a.tmps.getD d undef = .bool c' := Rd.val_eq hv
        have : a.tmps[d]? = some (.bool c') := by
          cases ht : a.tmps[d]? with
          | none => simp [Array.getD_eq_getD_getElem?, ht, undef] at hv'
          | some u => simp [Array.getD_eq_getD_getElem?, ht] at hv'; rw [hv']
        rw [this]
        cases c' <;> cases b <;> rfl
      · rename_i us hc
        cases h
        rw [hc] at hv
        have hv' : a.tmps.getD d undef = .tuple us := Rd.val_eq hv
        cases ht : a.tmps[d]? with
        | none => rfl
        | some u => simp [Array.getD_eq_getD_getElem?, ht] at hv'; rw [hv']; rfl
      · cases h
/-- what an operation touches: the slots it looks at, the slot it fills, the boxes it touches, and whether it changes one -/
structure Fp where
  rt : List Nat
  wt : Option Nat
  bt : List Nat
  bw : Bool
/-- one operation, from state to state -/
structure Stp (E : En) (ops : Array Oper) (nt : Nat) (o : Oper) (tm : Nat → AV) (bx : Nat → Option Bx) (tm' : Nat → AV) (bx' : Nat → Option Bx) (f : Fp) : Prop where
  rt : ∀ t ∈ o.looksAt ops, t ∈ f.rt
  wt : f.wt = o.dst
  lt : ∀ t, o.dst = some t → t < nt
  go : (awant ops tm o = some false ∧ tm' = updT tm o.dst (.dt (.val undef)) ∧ bx' = bx) ∨
    (awant ops tm o = some true ∧ ∃ act an an' k r ups ps, adec E o.op (aev tm) an = some (act, an') ∧ act.run E bx k = some (r, ups, ps) ∧ AllP ps ∧ (∀ q ∈ act.news k, bx q = none) ∧ tm' = updT tm o.dst r ∧ bx' = updB bx ups ∧ (∀ b ∈ act.bt bx k, b ∈ f.bt) ∧ (ups ≠ [] → f.bw = true))
theorem updT_ne {tm : Nat → AV} {d : Option Nat} {r : AV} {t : Nat} (h : d ≠ some t) : updT tm d r t = tm t := by
  cases d with
  | none => rfl
  | some d => exact if_neg fun e => h (by rw [e])
theorem updT_eq {tm : Nat → AV} {d : Option Nat} {r : AV} {t : Nat} (h : d = some t) : updT tm d r t = r := by
  subst h; exact if_pos rfl
theorem Stp.tm_ne {E : En} {ops : Array Oper} {nt : Nat} {o : Oper} {tm tm' : Nat → AV} {bx bx' : Nat → Option Bx} {f : Fp} (h : Stp E ops nt o tm bx tm' bx' f) {t : Nat} (ht : f.wt ≠ some t) : tm' t = tm t := by
  rw [h.wt] at ht
  rcases h.go with ⟨_, rfl, _⟩ | ⟨_, _, _, _, _, _, _, _, _, _, _, _, rfl, _⟩ <;> exact updT_ne ht
theorem Stp.bx_ne {E : En} {ops : Array Oper} {nt : Nat} {o : Oper} {tm tm' : Nat → AV} {bx bx' : Nat → Option Bx} {f : Fp} (h : Stp E ops nt o tm bx tm' bx' f) {b : Nat} (hb : ¬ (b ∈ f.bt ∧ f.bw = true)) : bx' b = bx b := by
  rcases h.go with ⟨_, _, rfl⟩ | ⟨_, act, an, an', k, r, ups, ps, _, hr, _, _, _, rfl, h1, h2⟩
  · rfl
  · refine updB_ne fun x hx => hb ⟨h1 _ (run_box hr b x hx), h2 fun e => ?_⟩
    rw [e] at hx; cases hx
/-- the machine follows -/
theorem Stp.wp {E : En} {ops : Array Oper} {nt : Nat} {o : Oper} {tm tm' : Nat → AV} {bx bx' : Nat → Option Bx} {f : Fp} (h : Stp E ops nt o tm bx tm' bx' f)
    {X : Nat → Prop} {n0 : Nat} {w0 : World} {ok0 : Nat → Prop} {a : Act} {w : World} {Q : Exit → Act → World → Prop} {i : Nat} (ho : ops[i]? = some o) (hL : Left X n0 w0 ok0 nt tm bx a w) (hG : E.G w) {K : Act → World → Prop} (hK : ∀ a w, Left X n0 w0 ok0 nt tm' bx' a w → K a w) : wpOp E.P ops Q i K a w := by
  obtain ⟨M, hI⟩ := hL
  unfold wpOp
  simp only [ho]
  rcases h.go with ⟨hw, rfl, rfl⟩ | ⟨hw, act, an, an', k, r, ups, ps, h1, h2, h3, h4, rfl, rfl, _, _⟩
  · rw [awant_ok hI hw]
    simp only [Bool.false_eq_true, if_false]
    exact hK _ _ ⟨M, hI.val o.dst h.lt rv_undef⟩
  · rw [awant_ok hI hw]
    simp only [if_true]
    left
    exact Oper.wp_mono hK (adec_sound h1 h2 h3 hI h.lt hG h4)
theorem updB_congr {bx bx' : Nat → Option Bx} {b : Nat} (h : bx b = bx' b) : ∀ {ups : List (Nat × Bx)}, updB bx ups b = updB bx' ups b
  | [] => h
  | (b0, x) :: r => by
    show (if b = b0 then some x else updB bx r b) = if b = b0 then some x else updB bx' r b
    rw [updB_congr h]
theorem bt_loc {bx bx' : Nat → Option Bx} {act : AAct} {k : Nat} (h : ∀ b ∈ act.bt bx k, bx b = bx' b) : act.bt bx k = act.bt bx' k := by
  cases act with
  | storeR b i k' vs => exact congrArg (b :: ·) (loc_cv (kn := false) fun q hq => h q (List.mem_cons_of_mem _ hq)).2
  | mk e sz len cs => exact (loc_cv (js := []) (kn := false) (cs := cs) h).2
  | idx x i sz r => exact (loc_cv (js := []) (kn := false) (cs := [x]) h).2
  | slc x sz lo hi mx r => exact (loc_cv (js := []) (kn := false) (cs := [x]) h).2
  | rdb x l => exact (loc_cv (js := []) (kn := false) (cs := [x]) h).2
  | call f args caps r =>
    cases hs : r.scal with
    | true =>
      simp only [AAct.bt, hs] at h ⊢
      exact (cvtL_loc (cvtF_loc 4) args [] false h).2
    | false =>
      simp only [AAct.bt, hs] at h ⊢
      exact (loc_cv (js := []) (kn := false) (cs := args) h).2
  | _ => rfl
theorem wpAny_invB {P : Program} {ops : Array Oper} {Q : Exit → Act → World → Prop} {md : Region.Mode} (I : Array Bool → Act → World → Prop)
    (back : ∀ (i : Nat) (o : Oper), ops[i]? = some o → ∀ e ∈ o.after, Region.binds md e = true → e.on < i)
    (step : ∀ listed a w i, I listed a w → listed.size = ops.size → i ∈ Region.ready md ops listed → wpOp P ops Q i (I (listed.setIfInBounds i true)) a w)
    (done : ∀ listed a w, I listed a w → (∀ i, i < ops.size → listed.getD i false = true) → Q .normal a w) :
    ∀ (fuel : Nat) (listed : Array Bool) (a : Act) (w : World), listed.size = ops.size → listed.toList.countP (fun b => !b) ≤ fuel → I listed a w → wpAny P md ops Q fuel listed a w := by
  have full : ∀ listed : Array Bool, listed.size = ops.size → Region.ready md ops listed = [] → ∀ i, i < ops.size → listed.getD i false = true := by
    intro listed hs hr i
    induction i using Nat.strongRecOn with
    | _ i ih =>
      intro hi
      rcases hb : listed.getD i false with _ | _
      · exfalso
        have hmem : i ∈ Region.ready md ops listed := by
          rw [mem_ready]
          refine ⟨?_, ops[i], Array.getElem?_eq_getElem hi, fun e he hbd => ?_⟩
          · have hlt : i < listed.size := by omega
            simpa [hlt] using hb
          · have := back i _ (Array.getElem?_eq_getElem hi) e he hbd
            exact ih e.on this (by omega)
        rw [hr] at hmem
        cases hmem
      · rfl
  intro fuel
  induction fuel with
  | zero =>
    intro listed a w hs hc hI
    have hall : ∀ i, i < ops.size → listed.getD i false = true := by
      intro i hi
      have h0 : listed.toList.countP (fun b => !b) = 0 := by omega
      rw [List.countP_eq_zero] at h0
      have hlt : i < listed.size := by omega
      have := h0 listed[i] (by simp)
      simpa [hlt] using this
    have hr : Region.ready md ops listed = [] := by
      cases hr : Region.ready md ops listed with
      | nil => rfl
      | cons x xs =>
        have hx : x ∈ Region.ready md ops listed := by rw [hr]; exact List.mem_cons_self ..
        rw [mem_ready] at hx
        obtain ⟨h0, o, ho, _⟩ := hx
        have hlt := (Array.getElem?_eq_some_iff.1 ho).1
        have := hall x hlt
        have hlt' : x < listed.size := by omega
        simp [hlt'] at h0 this
        rw [h0] at this
        cases this
    exact ⟨hr, done _ _ _ hI hall⟩
  | succ fuel ih =>
    intro listed a w hs hc hI
    refine ⟨fun hr => done _ _ _ hI (full listed hs hr), fun i hi => ?_⟩
    refine wpOp_mono (fun a' w' hI' => ?_) (step listed a w i hI hs hi)
    refine ih _ _ _ (by simp [hs]) ?_ hI'
    rw [mem_ready] at hi
    obtain ⟨h0, o, ho, _⟩ := hi
    have hlt : i < listed.size := by rw [hs]; exact (Array.getElem?_eq_some_iff.1 ho).1
    have hf : listed[i] = false := by simpa [hlt] using h0
    have hl : listed.toList = listed.toList.take i ++ false :: listed.toList.drop (i + 1) := by
      have h1 : i < listed.toList.length := by simpa using hlt
      conv => lhs; rw [← List.take_append_drop i listed.toList, List.drop_eq_getElem_cons h1]
      simp [hf]
    have hl' : (listed.setIfInBounds i true).toList = listed.toList.take i ++ true :: listed.toList.drop (i + 1) := by
      have h1 : i < listed.toList.length := by simpa using hlt
      rw [Array.toList_setIfInBounds, List.set_eq_take_append_cons_drop, if_pos h1]
    rw [hl] at hc
    rw [hl']
    simp only [List.countP_append, List.countP_cons, Bool.not_false, Bool.not_true, if_true, Bool.false_eq_true, if_false] at hc ⊢
    omega

def backAny (ops : Array Oper) : Bool := (List.range ops.size).all fun i => match ops[i]? with | some o => o.after.all fun e => !Region.binds .any e || Nat.ble (e.on + 1) i | none => true
theorem backAny_spec {ops : Array Oper} (h : backAny ops = true) (i : Nat) (o : Oper) (ho : ops[i]? = some o) : ∀ e ∈ o.after, Region.binds .any e = true → e.on < i := by
  unfold backAny at h
  rw [List.all_eq_true] at h
  have := h i (List.mem_range.2 (Array.getElem?_eq_some_iff.1 ho).1)
  rw [ho] at this
  simp only [Array.all_eq_true_iff_forall_mem] at this
  intro e he hb
  have h2 := this e he
  rw [hb] at h2
  exact Nat.le_of_ble_eq_true h2
inductive Anc (ops : Array Oper) : Nat → Nat → Prop
  | one {i j : Nat} : i ∈ waits ops j → Anc ops i j
  | more {i m j : Nat} : m ∈ waits ops j → Anc ops i m → Anc ops i j
def Fp.conf (x y : Fp) : Bool :=
  (match x.wt with | some d => y.rt.contains d || (match y.wt with | some e => Nat.beq d e | none => false) | none => false) ||
  (match y.wt with | some d => x.rt.contains d | none => false) ||
  (x.bt.any y.bt.contains && (x.bw || y.bw))
theorem conf_wr {x y : Fp} {d : Nat} (h1 : x.wt = some d) (h2 : d ∈ y.rt) : x.conf y = true := by
  have : y.rt.contains d = true := List.contains_iff_mem.2 h2
  simp only [Fp.conf, h1, this, Bool.true_or]
theorem conf_rw {x y : Fp} {d : Nat} (h1 : y.wt = some d) (h2 : d ∈ x.rt) : x.conf y = true := by
  have : x.rt.contains d = true := List.contains_iff_mem.2 h2
  simp only [Fp.conf, h1, this, Bool.true_or, Bool.or_true]
theorem conf_ww {x y : Fp} {d : Nat} (h1 : x.wt = some d) (h2 : y.wt = some d) : x.conf y = true := by
  simp only [Fp.conf, h1, h2, Nat.beq_refl, Bool.or_true, Bool.true_or]
theorem conf_b {x y : Fp} {d : Nat} (h1 : d ∈ x.bt) (h2 : d ∈ y.bt) (h : x.bw = true ∨ y.bw = true) : x.conf y = true := by
  have e : (x.bw || y.bw) = true := by rcases h with h | h <;> rw [h] <;> simp
  have e2 : x.bt.any y.bt.contains = true := List.any_eq_true.2 ⟨d, h1, List.contains_iff_mem.2 h2⟩
  simp only [Fp.conf, e, e2, Bool.and_self, Bool.or_true]
theorem any_region {E : En} {ops : Array Oper} {nt : Nat} {tmS : Nat → Nat → AV} {bxS : Nat → Nat → Option Bx} {fp : Nat → Fp}
    (hstp : ∀ i o, ops[i]? = some o → Stp E ops nt o (tmS i) (bxS i) (tmS (i + 1)) (bxS (i + 1)) (fp i))
    (hconf : ∀ i j, i < j → j < ops.size → (fp i).conf (fp j) = true → Anc ops i j) (hback : backAny ops = true)
    {X : Nat → Prop} {n0 : Nat} {w0 : World} {ok0 : Nat → Prop} (hG : ∀ w, Bel X n0 w0 w → E.G w) {Q : Exit → Act → World → Prop} {a : Act} {w : World} (h0 : Left X n0 w0 ok0 nt (tmS 0) (bxS 0) a w) (hQ : ∀ a w, Left X n0 w0 ok0 nt (tmS ops.size) (bxS ops.size) a w → Q .normal a w) :
    wpAny E.P .any ops Q ops.size (Array.replicate ops.size false) a w := by
  have hst : ∀ i, i < ops.size → ∃ o, ops[i]? = some o ∧ Stp E ops nt o (tmS i) (bxS i) (tmS (i + 1)) (bxS (i + 1)) (fp i) := fun i hi => ⟨ops[i], Array.getElem?_eq_getElem hi, hstp i _ (Array.getElem?_eq_getElem hi)⟩
  -- versions
  have vt' : ∀ t k d, k + d ≤ ops.size → (∀ j, j < ops.size → (fp j).wt = some t → (j < k ↔ j < k + d)) → tmS (k + d) t = tmS k t := by
    intro t k d
    induction d with
    | zero => intro _ _; rfl
    | succ d ih =>
      intro hn hw
      obtain ⟨o, _, hs⟩ := hst (k + d) (by omega)
      rw [show k + (d + 1) = k + d + 1 by omega, hs.tm_ne (fun e => by have := hw (k + d) (by omega) e; omega)]
      exact ih (by omega) fun j hj e => by have := hw j hj e; omega
  have vt : ∀ t k k', k ≤ ops.size → k' ≤ ops.size → (∀ j, j < ops.size → (fp j).wt = some t → (j < k ↔ j < k')) → tmS k t = tmS k' t := by
    intro t k k' hk hk' hw
    rcases Nat.le_total k k' with h | h
    · have := vt' t k (k' - k) (by omega) fun j hj e => by have := hw j hj e; omega
      rw [show k + (k' - k) = k' by omega] at this
      exact this.symm
    · have := vt' t k' (k - k') (by omega) fun j hj e => by have := hw j hj e; omega
      rw [show k' + (k - k') = k by omega] at this
      exact this
  have vb' : ∀ t k d, k + d ≤ ops.size → (∀ j, j < ops.size → t ∈ (fp j).bt → (fp j).bw = true → (j < k ↔ j < k + d)) → bxS (k + d) t = bxS k t := by
    intro t k d
    induction d with
    | zero => intro _ _; rfl
    | succ d ih =>
      intro hn hw
      obtain ⟨o, _, hs⟩ := hst (k + d) (by omega)
      rw [show k + (d + 1) = k + d + 1 by omega, hs.bx_ne (fun e => by have := hw (k + d) (by omega) e.1 e.2; omega)]
      exact ih (by omega) fun j hj e e' => by have := hw j hj e e'; omega
  have vb : ∀ t k k', k ≤ ops.size → k' ≤ ops.size → (∀ j, j < ops.size → t ∈ (fp j).bt → (fp j).bw = true → (j < k ↔ j < k')) → bxS k t = bxS k' t := by
    intro t k k' hk hk' hw
    rcases Nat.le_total k k' with h | h
    · have := vb' t k (k' - k) (by omega) fun j hj e e' => by have := hw j hj e e'; omega
      rw [show k + (k' - k) = k' by omega] at this
      exact this.symm
    · have := vb' t k' (k - k') (by omega) fun j hj e e' => by have := hw j hj e e'; omega
      rw [show k' + (k - k') = k by omega] at this
      exact this
  refine wpAny_invB (md := .any) (fun listed a w => ∃ tm bx, Left X n0 w0 ok0 nt tm bx a w ∧ (∀ i, listed.getD i false = true → ∀ j ∈ waits ops i, listed.getD j false = true) ∧
      (∀ t, ∃ k, k ≤ ops.size ∧ tm t = tmS k t ∧ ∀ j, j < ops.size → (fp j).wt = some t → (listed.getD j false = true ↔ j < k)) ∧
      (∀ b, ∃ k, k ≤ ops.size ∧ bx b = bxS k b ∧ ∀ j, j < ops.size → b ∈ (fp j).bt → (fp j).bw = true → (listed.getD j false = true ↔ j < k))) (fun i o ho => backAny_spec hback i o ho) ?_ ?_ _ _ _ _ (by simp) (by simp [List.countP_replicate]) ?_
  · intro listed a w i hI hs hr
    rw [mem_ready] at hr
    obtain ⟨hn0, o, ho, hafter⟩ := hr
    have hlt := (Array.getElem?_eq_some_iff.1 ho).1
    have hD0 : ¬ listed.getD i false = true := by
      have hlt' : i < listed.size := by omega
      simp [hlt'] at hn0 ⊢
      exact hn0
    obtain ⟨tm, bx, hL, hclo, hT, hB⟩ := hI
    have hset : (listed.setIfInBounds i true).getD i false = true := by
      have hlt' : i < listed.size := by omega
      simp [hlt']
    have hup : ∀ j, listed.getD j false = true → (listed.setIfInBounds i true).getD j false = true := fun j h => getD_set_true h
    have hdn : ∀ j, (listed.setIfInBounds i true).getD j false = true → j = i ∨ listed.getD j false = true := fun j h => getD_upd h
    have hw8 : ∀ j ∈ waits ops i, listed.getD j false = true := fun j hj => by
      obtain ⟨e, he, hb, rfl⟩ := (mem_waits ho).1 hj
      exact hafter e he hb
    have hancL : ∀ x y, Anc ops x y → listed.getD y false = true → listed.getD x false = true := by
      intro x y h
      induction h with
      | one h => exact fun hy => hclo _ hy _ h
      | more h _ ih => exact fun hy => ih (hclo _ hy _ h)
    have hancI : ∀ x, Anc ops x i → listed.getD x false = true := by
      intro x h
      cases h with
      | one h => exact hw8 _ h
      | more h h' => exact hancL _ _ h' (hw8 _ h)
    -- who touches the same place as i: before i are done, behind i are not
    have side : ∀ j, j < ops.size → (j < i → (fp j).conf (fp i) = true) → (i < j → (fp i).conf (fp j) = true) → (listed.getD j false = true ↔ j < i) := by
      intro j hj h1 h2
      rcases Nat.lt_trichotomy j i with e | e | e
      · exact ⟨fun _ => e, fun _ => hancI j (hconf j i e hlt (h1 e))⟩
      · subst e
        exact ⟨fun h => absurd h hD0, fun h => absurd h (Nat.lt_irrefl _)⟩
      · refine ⟨fun h => absurd (hancL i j (hconf i j e hj (h2 e)) h) hD0, fun h => by omega⟩
    have hS := hstp i o ho
    have hrt : ∀ t ∈ (fp i).rt, tm t = tmS i t := by
      intro t ht
      obtain ⟨k, hk, e, hv⟩ := hT t
      rw [e]
      refine vt t k i hk (by omega) fun j hj hwj => ?_
      rw [← hv j hj hwj]
      exact side j hj (fun _ => conf_wr hwj ht) (fun _ => conf_rw hwj ht)
    have hbt : ∀ b, b ∈ (fp i).bt → (bx b = bxS i b ∨ (fp i).bw = false) ∧ ((fp i).bw = false → bx b = bxS i b) := by
      intro b hb
      have key : bx b = bxS i b := by
        obtain ⟨k, hk, e, hv⟩ := hB b
        rw [e]
        refine vb b k i hk (by omega) fun j hj hbj hwj => ?_
        rw [← hv j hj hbj hwj]
        exact side j hj (fun _ => conf_b hbj hb (.inl hwj)) (fun _ => conf_b hb hbj (.inr hwj))
      exact ⟨.inl key, fun _ => key⟩
    have hbt' : ∀ b, b ∈ (fp i).bt → bx b = bxS i b := fun b hb => by
      rcases (hbt b hb).1 with h | h
      · exact h
      · exact (hbt b hb).2 h
    -- the step in the present state
    have hlook : ∀ t ∈ o.looksAt ops, tm t = tmS i t := fun t ht => hrt t (hS.rt t ht)
    have hev : ∀ x ∈ o.op.operands.toList, aev tm x = aev (tmS i) x := by
      intro x hx
      cases x with
      | tmp t =>
        refine hlook t ?_
        unfold Oper.looksAt
        refine List.mem_append_left _ (List.mem_filterMap.2 ⟨.tmp t, hx, rfl⟩)
      | _ => rfl
    have hwant : awant ops tm o = awant ops (tmS i) o := by
      unfold awant
      cases hg : o.guard with
      | none => rfl
      | some x =>
        obtain ⟨g, b⟩ := x
        simp only
        cases hd : (ops[g]?).bind (·.dst) with
        | none => rfl
        | some d =>
          simp only
          have : tm d = tmS i d := hlook d (by
            unfold Oper.looksAt
            refine List.mem_append_right _ ?_
            rw [hg]
            simp [hd])
          rw [this]
    have hst' : ∃ tm' bx', Stp E ops nt o tm bx tm' bx' (fp i) ∧ (∀ t, (fp i).wt = some t → tm' t = tmS (i + 1) t) ∧ (∀ b, b ∈ (fp i).bt → (fp i).bw = true → bx' b = bxS (i + 1) b) := by
      rcases hS.go with ⟨hw, e1, e2⟩ | ⟨hw, act, an, an', k, r, ups, ps, h1, h2, h3, h4, e1, e2, h5, h6⟩
      · refine ⟨updT tm o.dst (.dt (.val undef)), bx, ⟨hS.rt, hS.wt, hS.lt, .inl ⟨hwant.trans hw, rfl, rfl⟩⟩, fun t ht => ?_, fun b hb hbw => ?_⟩
        · rw [hS.wt] at ht
          rw [e1, updT_eq ht, updT_eq ht]
        · rw [e2]; exact hbt' b hb
      · have hagree : ∀ b ∈ act.bt (bxS i) k, bxS i b = bx b := fun b hb => (hbt' b (h5 b hb)).symm
        have hrun : act.run E bx k = some (r, ups, ps) := by rw [← h2]; exact (run_loc hagree).symm
        have hbtE : ∀ b ∈ act.bt bx k, b ∈ (fp i).bt := fun b hb => h5 b (by rw [bt_loc hagree]; exact hb)
        have hk' : ∀ q ∈ act.news k, bx q = none := fun q hq => by rw [hbt' q (h5 q (news_bt q hq))]; exact h4 q hq
        refine ⟨updT tm o.dst r, updB bx ups, ⟨hS.rt, hS.wt, hS.lt, .inr ⟨hwant.trans hw, act, an, an', k, r, ups, ps, (adec_loc hev).trans h1, hrun, h3, hk', rfl, rfl, hbtE, h6⟩⟩, fun t ht => ?_, fun b hb hbw => ?_⟩
        · rw [hS.wt] at ht
          rw [e1, updT_eq ht, updT_eq ht]
        · rw [e2]
          exact updB_congr (hbt' b hb)
    obtain ⟨tm', bx', hS', hTn, hBn⟩ := hst'
    refine hS'.wp ho hL (by obtain ⟨M, hI⟩ := hL; exact hG _ hI.below) fun a2 w2 hL2 => ⟨tm', bx', hL2, ?_, ?_, ?_⟩
    · intro k hk j hj
      rcases hdn k hk with rfl | e
      · exact hup j (hw8 j hj)
      · exact hup j (hclo k e j hj)
    · intro t
      by_cases hw : (fp i).wt = some t
      · refine ⟨i + 1, by omega, hTn t hw, fun j hj hwj => ?_⟩
        have := side j hj (fun _ => conf_ww hwj hw) (fun _ => conf_ww hw hwj)
        constructor
        · intro h
          rcases hdn j h with rfl | e
          · omega
          · have := this.1 e; omega
        · intro h
          by_cases e : j = i
          · subst e; exact hset
          · exact hup j (this.2 (by omega))
      · obtain ⟨k, hk, e, hv⟩ := hT t
        refine ⟨k, hk, (hS'.tm_ne hw).trans e, fun j hj hwj => ?_⟩
        have hji : j ≠ i := fun e => hw (e ▸ hwj)
        rw [← hv j hj hwj]
        exact ⟨fun h => (hdn j h).resolve_left hji, hup j⟩
    · intro b
      by_cases hw : b ∈ (fp i).bt ∧ (fp i).bw = true
      · refine ⟨i + 1, by omega, hBn b hw.1 hw.2, fun j hj hbj hwj => ?_⟩
        have := side j hj (fun _ => conf_b hbj hw.1 (.inl hwj)) (fun _ => conf_b hw.1 hbj (.inl hw.2))
        constructor
        · intro h
          rcases hdn j h with rfl | e
          · omega
          · have := this.1 e; omega
        · intro h
          by_cases e : j = i
          · subst e; exact hset
          · exact hup j (this.2 (by omega))
      · obtain ⟨k, hk, e, hv⟩ := hB b
        refine ⟨k, hk, (hS'.bx_ne hw).trans e, fun j hj hbj hwj => ?_⟩
        have hji : j ≠ i := fun e => hw (e ▸ ⟨hbj, hwj⟩)
        rw [← hv j hj hbj hwj]
        exact ⟨fun h => (hdn j h).resolve_left hji, hup j⟩
  · intro listed a w hI hall
    obtain ⟨tm, bx, hL, _, hT, hB⟩ := hI
    have e1 : tm = tmS ops.size := funext fun t => by
      obtain ⟨k, hk, e, hv⟩ := hT t
      rw [e]
      exact vt t k _ hk (Nat.le_refl _) fun j hj hw => ⟨fun _ => hj, fun _ => (hv j hj hw).1 (hall j hj)⟩
    have e2 : bx = bxS ops.size := funext fun b => by
      obtain ⟨k, hk, e, hv⟩ := hB b
      rw [e]
      exact vb b k _ hk (Nat.le_refl _) fun j hj hb hw => ⟨fun _ => hj, fun _ => (hv j hj hb hw).1 (hall j hj)⟩
    rw [e1, e2] at hL
    exact hQ a w hL
  · have hno : ∀ i, ¬ (Array.replicate ops.size false).getD i false = true := fun i => by
      by_cases h : i < ops.size <;> simp [h]
    exact ⟨tmS 0, bxS 0, h0, fun i h => absurd h (hno _), fun t => ⟨0, Nat.zero_le _, rfl, fun j _ _ => ⟨fun h => absurd h (hno _), fun h => by omega⟩⟩, fun t => ⟨0, Nat.zero_le _, rfl, fun j _ _ _ => ⟨fun h => absurd h (hno _), fun h => by omega⟩⟩⟩
end Go.Proofs.YtmkcnjfhdfanoaaGreatDoor
/- Plain walks, second form: the evaluator of regions, code and functions. -/
namespace Go.Proofs.YtmkcnjfhdfanoaaGreatDoor
open Go.RowKit

structure AS where
  tm : List AV
  bx : List (Option Bx)
def AS.tmf (s : AS) : Nat → AV := fun t => s.tm.getD t (.dt (.val undef))
def AS.bxf (s : AS) : Nat → Option Bx := fun b => match s.bx[b]? with
  | some x => x
  | none => none
def setT (tm : List AV) (d : Option Nat) (r : AV) : List AV := match d with
  | some d => tm.set d r
  | none => tm
/-- box b, the list made longer where need be -/
def setB1 : List (Option Bx) → Nat → Bx → List (Option Bx)
  | [], 0, x => [some x]
  | [], b + 1, x => none :: setB1 [] b x
  | _ :: r, 0, x => some x :: r
  | y :: r, b + 1, x => y :: setB1 r b x
def setBs (bx : List (Option Bx)) : List (Nat × Bx) → List (Option Bx)
  | [] => bx
  | (b, x) :: r => setB1 (setBs bx r) b x
theorem setB1_f {tm : List AV} : ∀ (bx : List (Option Bx)) (b : Nat) (x : Bx), (AS.mk tm (setB1 bx b x)).bxf = fun k => if k = b then some x else (AS.mk tm bx).bxf k := by
  intro bx b
  induction b generalizing bx with
  | zero =>
    intro x
    funext k
    cases bx with
    | nil => cases k with
      | zero => rfl
      | succ k => simp [setB1, AS.bxf]
    | cons y r => cases k with
      | zero => rfl
      | succ k => simp [setB1, AS.bxf]
  | succ b ih =>
    intro x
    funext k
    cases bx with
    | nil =>
      have := congrFun (ih [] x)
      cases k with
      | zero => simp [setB1, AS.bxf]
      | succ k => have := this k; simp [setB1, AS.bxf] at this ⊢; exact this
    | cons y r =>
      have := congrFun (ih r x)
      cases k with
      | zero => simp [setB1, AS.bxf]
      | succ k => have := this k; simp [setB1, AS.bxf] at this ⊢; exact this
theorem setBs_f {s : AS} {tm : List AV} : ∀ (ups : List (Nat × Bx)), (AS.mk tm (setBs s.bx ups)).bxf = updB s.bxf ups
  | [] => rfl
  | (b, x) :: r => by
    funext k
    show (AS.mk tm (setB1 (setBs s.bx r) b x)).bxf k = if k = b then some x else updB s.bxf r k
    rw [setB1_f, ← setBs_f (tm := tm) r]
theorem setT_f {s : AS} {d : Option Nat} {r : AV} {bx : List (Option Bx)} (h : ∀ t, d = some t → t < s.tm.length) : (AS.mk (setT s.tm d r) bx).tmf = updT s.tmf d r := by
  funext t
  cases d with
  | none => rfl
  | some d =>
    show (s.tm.set d r).getD t _ = if t = d then r else s.tm.getD t _
    have := h d rfl
    by_cases e : t = d
    · subst e; simp [this]
    · rw [if_neg e]
      simp [Ne.symm e]
theorem bxf_new (s : AS) : s.bxf s.bx.length = none := by
  unfold AS.bxf
  rw [List.getElem?_eq_none (Nat.le_refl _)]
theorem news_k {act : AAct} {k q : Nat} (h : q ∈ act.news k) : q = k := by
  cases act with
  | app e kk bytes s x c => cases s <;> first | exact List.mem_singleton.1 h | cases h
  | _ => first | exact List.mem_singleton.1 h | cases h
def arun1 (E : En) (ops : Array Oper) (o : Oper) (s : AS) (an : List An) : Option (AS × Fp × List Prop × List An) :=
  match (match o.dst with | some d => Nat.ble (d + 1) s.tm.length | none => true) with
  | false => none
  | true => match awant ops s.tmf o with
    | none => none
    | some false => some (⟨setT s.tm o.dst (.dt (.val undef)), s.bx⟩, ⟨o.looksAt ops, o.dst, [], false⟩, [], an)
    | some true => match adec E o.op (aev s.tmf) an with
      | none => none
      | some (act, an') => match act.run E s.bxf s.bx.length with
        | none => none
        | some (r, ups, ps) => some (⟨setT s.tm o.dst r, setBs s.bx ups⟩, ⟨o.looksAt ops, o.dst, act.bt s.bxf s.bx.length, match ups with | [] => false | _ => true⟩, ps, an')
theorem setT_len (tm : List AV) (d : Option Nat) (r : AV) : (setT tm d r).length = tm.length := by
  cases d with
  | none => rfl
  | some d => exact List.length_set
theorem arun1_stp {E : En} {ops : Array Oper} {o : Oper} {s s' : AS} {an an' : List An} {f : Fp} {ps : List Prop} (h : arun1 E ops o s an = some (s', f, ps, an')) (hp : AllP ps) :
    Stp E ops s.tm.length o s.tmf s.bxf s'.tmf s'.bxf f ∧ s'.tm.length = s.tm.length := by
  unfold arun1 at h
  split at h
  · cases h
  rename_i hd
  have hd' : ∀ t, o.dst = some t → t < s.tm.length := fun t ht => by
    rw [ht] at hd
    have hd2 : Nat.ble (t + 1) s.tm.length = true := hd
    exact Nat.le_of_ble_eq_true hd2
  split at h
  · cases h
  · rename_i hw
    cases h
    exact ⟨⟨fun t ht => ht, rfl, hd', .inl ⟨hw, setT_f hd', rfl⟩⟩, setT_len _ _ _⟩
  · rename_i hw
    split at h
    · cases h
    · rename_i act an'' hdec
      split at h
      · cases h
      · rename_i r ups ps' hr
        cases h
        refine ⟨⟨fun t ht => ht, rfl, hd', .inr ⟨hw, act, an, _, s.bx.length, r, ups, _, hdec, hr, hp, fun q hq => ?_, setT_f hd', setBs_f ups, fun b hb => hb, fun hu => ?_⟩⟩, setT_len _ _ _⟩
        · rw [news_k hq]; exact bxf_new s
        · cases ups with
          | nil => exact absurd rfl hu
          | cons _ _ => rfl
def aops (E : En) (ops : Array Oper) : List Oper → AS → List An → Option (AS × List Fp × List Prop × List An)
  | [], s, an => some (s, [], [], an)
  | o :: os, s, an => match arun1 E ops o s an with
    | none => none
    | some (s1, f, ps, an1) => match aops E ops os s1 an1 with
      | none => none
      | some (s2, fs, qs, an2) => some (s2, f :: fs, ps ++ qs, an2)
theorem aops_run {E : En} {ops : Array Oper} : ∀ {os : List Oper} {s s' : AS} {an an' : List An} {fs : List Fp} {ps : List Prop}, aops E ops os s an = some (s', fs, ps, an') → AllP ps →
    s'.tm.length = s.tm.length ∧ fs.length = os.length ∧ ∃ (tmS : Nat → Nat → AV) (bxS : Nat → Nat → Option Bx), tmS 0 = s.tmf ∧ bxS 0 = s.bxf ∧ tmS os.length = s'.tmf ∧ bxS os.length = s'.bxf ∧
      ∀ i o f, os[i]? = some o → fs[i]? = some f → Stp E ops s.tm.length o (tmS i) (bxS i) (tmS (i + 1)) (bxS (i + 1)) f
  | [], s, s', an, an', fs, ps, h, _ => by
    cases h
    exact ⟨rfl, rfl, fun _ => s.tmf, fun _ => s.bxf, rfl, rfl, rfl, rfl, fun i o f hi => by simp at hi⟩
  | o :: os, s, s', an, an', fs, ps, h, hp => by
    unfold aops at h
    split at h
    · cases h
    · rename_i s1 f ps1 an1 h1
      split at h
      · cases h
      · rename_i s2 fs2 qs an2 h2
        cases h
        obtain ⟨hp1, hp2⟩ := AllP_app hp
        obtain ⟨hs, hl⟩ := arun1_stp h1 hp1
        obtain ⟨hl2, hf2, tmS, bxS, e1, e2, e3, e4, hst⟩ := aops_run h2 hp2
        refine ⟨hl2.trans hl, by simp [hf2], fun i => match i with | 0 => s.tmf | i + 1 => tmS i, fun i => match i with | 0 => s.bxf | i + 1 => bxS i, rfl, rfl, e3, e4, ?_⟩
        intro i o' f' hi hf
        cases i with
        | zero =>
          cases hi
          cases hf
          simp only [e1, e2]
          exact hs
        | succ i =>
          rw [hl] at hst
          exact hst i o' f' (by simpa using hi) (by simpa using hf)
/-- who must be done before: as bits -/
def ancs : List Oper → List Nat → List Nat
  | [], acc => acc
  | o :: os, acc => ancs os (acc ++ [o.after.toList.foldl (fun m e => match Region.binds .any e with | true => m ||| (2 ^ e.on ||| acc.getD e.on 0) | false => m) 0])
theorem ancs_fold {ops : Array Oper} {acc : List Nat} (hacc : ∀ j m, acc[j]? = some m → ∀ i, m.testBit i = true → Anc ops i j) {n : Nat} : ∀ (es : List Edge) (m0 : Nat), (∀ i, m0.testBit i = true → Anc ops i n) → (∀ e ∈ es, Region.binds .any e = true → e.on ∈ waits ops n) →
    ∀ i, (es.foldl (fun m e => match Region.binds .any e with | true => m ||| (2 ^ e.on ||| acc.getD e.on 0) | false => m) m0).testBit i = true → Anc ops i n
  | [], _, h, _ => h
  | e :: es, m0, h, hw => by
    rw [List.foldl_cons]
    refine ancs_fold hacc es _ ?_ (fun e' he' => hw e' (List.mem_cons_of_mem _ he'))
    intro i hi
    cases hb : Region.binds .any e with
    | false => rw [hb] at hi; exact h i hi
    | true =>
      rw [hb] at hi
      simp only [Nat.testBit_or, Bool.or_eq_true] at hi
      have hwe := hw e (List.mem_cons_self) hb
      rcases hi with hi | hi | hi
      · exact h i hi
      · rw [Nat.testBit_two_pow] at hi
        have : e.on = i := of_decide_eq_true hi
        subst this
        exact .one hwe
      · cases ha : acc[e.on]? with
        | none => simp [List.getD, ha] at hi
        | some m => exact .more hwe (hacc e.on m ha i (by simpa [List.getD, ha] using hi))
theorem ancs_ok {ops : Array Oper} : ∀ (os : List Oper) (acc : List Nat), (∀ i o, os[i]? = some o → ops[acc.length + i]? = some o) → (∀ j m, acc[j]? = some m → ∀ i, m.testBit i = true → Anc ops i j) →
    ∀ j m, (ancs os acc)[j]? = some m → ∀ i, m.testBit i = true → Anc ops i j
  | [], acc, _, h => h
  | o :: os, acc, ho, h => by
    refine ancs_ok os _ (fun i o' hi => ?_) ?_
    · have := ho (i + 1) o' (by simpa using hi)
      rw [List.length_append, List.length_singleton]
      rw [← this]; congr 1; omega
    · intro j m hj
      by_cases hlt : j < acc.length
      · rw [List.getElem?_append_left hlt] at hj
        exact h j m hj
      · have hj' : j = acc.length := by
          have := (List.getElem?_eq_some_iff.1 hj).1
          simp at this
          omega
        subst hj'
        rw [List.getElem?_append_right (Nat.le_refl _), Nat.sub_self] at hj
        simp only [List.getElem?_cons_zero, Option.some.injEq] at hj
        subst hj
        refine ancs_fold h _ 0 (fun i hi => by simp at hi) fun e he hb => ?_
        have := ho 0 o rfl
        rw [Nat.add_zero] at this
        exact (mem_waits this).2 ⟨e, Array.mem_toList_iff.1 he, hb, rfl⟩
def chk1 (m : Nat) (y : Fp) : List Fp → Nat → Bool
  | [], _ => true
  | x :: xs, i => (match x.conf y with | true => m.testBit i | false => true) && chk1 m y xs (i + 1)
def chkA : List Fp → List Fp → List Nat → Bool
  | _, [], _ => true
  | pre, y :: ys, m :: ms => chk1 m y pre 0 && chkA (pre ++ [y]) ys ms
  | _, _ :: _, [] => false
theorem chk1_ok {m : Nat} {y : Fp} : ∀ {xs : List Fp} {k : Nat}, chk1 m y xs k = true → ∀ i x, xs[i]? = some x → x.conf y = true → m.testBit (k + i) = true
  | [], _, _, i, x, hi, _ => by simp at hi
  | x0 :: xs, k, h, i, x, hi, hc => by
    unfold chk1 at h
    rw [Bool.and_eq_true] at h
    cases i with
    | zero =>
      cases hi
      rw [hc] at h
      exact h.1
    | succ i =>
      have := chk1_ok h.2 i x (by simpa using hi) hc
      rw [← this]; congr 1; omega
theorem chkA_ok : ∀ {ys pre : List Fp} {ms : List Nat}, chkA pre ys ms = true → ∀ i j x y, i < j → (pre ++ ys)[i]? = some x → ys[j - pre.length]? = some y → pre.length ≤ j → x.conf y = true → ∃ m, ms[j - pre.length]? = some m ∧ m.testBit i = true
  | [], _, _, _, i, j, x, y, _, _, hy, _, _ => by simp at hy
  | y0 :: ys, pre, [], h, _, _, _, _, _, _, _, _, _ => by simp [chkA] at h
  | y0 :: ys, pre, m0 :: ms, h, i, j, x, y, hij, hx, hy, hj, hc => by
    unfold chkA at h
    rw [Bool.and_eq_true] at h
    by_cases e : j = pre.length
    · subst e
      rw [Nat.sub_self] at hy ⊢
      cases hy
      rw [List.getElem?_append_left hij] at hx
      have := chk1_ok h.1 i x hx hc
      rw [Nat.zero_add] at this
      exact ⟨m0, rfl, this⟩
    · have hs : j - pre.length = (j - (pre ++ [y0]).length) + 1 := by simp; omega
      rw [hs] at hy ⊢
      obtain ⟨m, h1, h2⟩ := chkA_ok h.2 i j x y hij (by simpa using hx) (by simpa using hy) (by simp; omega) hc
      exact ⟨m, by simpa using h1, h2⟩
def aregion (E : En) (ops : Array Oper) (draw : Bool) (s : AS) (an : List An) : Option (AS × List Prop × List An) :=
  match aops E ops ops.toList s an with
  | none => none
  | some (s', fs, ps, an') => match !draw || (backAny ops && chkA [] fs (ancs ops.toList [])) with
    | true => some (s', ps, an')
    | false => none
theorem aregion_sound {E : En} {ops : Array Oper} {draw : Bool} {id : Nat} {s s' : AS} {an an' : List An} {ps : List Prop} (h : aregion E ops draw s an = some (s', ps, an')) (hp : AllP ps)
    {X : Nat → Prop} {n0 : Nat} {w0 : World} {ok0 : Nat → Prop} (hG : ∀ w, Bel X n0 w0 w → E.G w) {Q : Exit → Act → World → Prop} {a : Act} {w : World} (h0 : Left X n0 w0 ok0 s.tm.length s.tmf s.bxf a w) (hQ : ∀ a w, Left X n0 w0 ok0 s.tm.length s'.tmf s'.bxf a w → Q .normal a w) :
    (Code.region id ops draw).wp E.P Q a w := by
  unfold aregion at h
  split at h
  · cases h
  rename_i s1 fs ps1 an1 hrun
  split at h
  case h_2 => cases h
  rename_i hchk
  cases h
  obtain ⟨_, hfl, tmS, bxS, e1, e2, e3, e4, hst⟩ := aops_run hrun hp
  have hsz : ops.toList.length = ops.size := by simp
  have hst' : ∀ i o, ops[i]? = some o → Stp E ops s.tm.length o (tmS i) (bxS i) (tmS (i + 1)) (bxS (i + 1)) (fs.getD i ⟨[], none, [], false⟩) := by
    intro i o ho
    have hi := (Array.getElem?_eq_some_iff.1 ho).1
    have hf : fs[i]? = some (fs.getD i ⟨[], none, [], false⟩) := by
      have hi' : i < fs.length := by omega
      simp [hi']
    exact hst i o _ (by simpa using ho) hf
  rw [← e1, ← e2] at h0
  rw [hsz] at e3 e4
  rw [← e3, ← e4] at hQ
  cases draw with
  | true =>
    simp only [Bool.not_true, Bool.false_or, Bool.and_eq_true] at hchk
    refine wp_region_any E.hm ?_
    refine any_region (tmS := tmS) (bxS := bxS) (fp := fun i => fs.getD i ⟨[], none, [], false⟩) hst' ?_ hchk.1 hG ?_ hQ
    · intro i j hij hj hc
      have hi' : i < fs.length := by omega
      have hj' : j < fs.length := by omega
      obtain ⟨m, h1, h2⟩ := chkA_ok hchk.2 i j (fs.getD i ⟨[], none, [], false⟩) (fs.getD j ⟨[], none, [], false⟩) hij (by simp [hi']) (by simp [hj']) (Nat.zero_le _) hc
      exact ancs_ok ops.toList [] (fun i o hi => by simpa using hi) (fun j m hj => by simp at hj) j m (by simpa using h1) i h2
    · obtain ⟨M, hI⟩ := h0
      have g : Go1 X n0 M w M { w with drawn := w.drawn + 1 } := ⟨⟨rfl, rfl, rfl, Nat.le_refl _, fun _ _ _ => rfl⟩, fun _ _ _ => rfl, fun _ h _ => h, fun _ _ h => h, fun _ => same_o rfl⟩
      exact ⟨M, hI.same g (hI.sto.grow g rfl rfl (fun _ _ _ _ _ => rfl) fun q hq => ⟨hI.sto.fz q hq, .inl hq⟩) fun _ h => .inl h⟩
  | false =>
    refine wp_region ?_
    have key : ∀ k i, i + k = ops.size → ∀ a w, Left X n0 w0 ok0 s.tm.length (tmS i) (bxS i) a w → wpOps E.P ops Q (List.range' i k) a w := by
      intro k
      induction k with
      | zero =>
        intro i hi a w hL
        obtain rfl : i = ops.size := by omega
        exact hQ a w hL
      | succ k ih =>
        intro i hi a w hL
        have ho : ops[i]? = some ops[i] := Array.getElem?_eq_getElem (by omega)
        rw [List.range'_succ, wpOps_cons]
        exact (hst' i _ ho).wp ho hL (by obtain ⟨M, hI⟩ := hL; exact hG _ hI.below) fun a w hL' => ih (i + 1) (by omega) a w hL'
    rw [List.range_eq_range']
    exact key ops.size 0 (by omega) a w h0
end Go.Proofs.YtmkcnjfhdfanoaaGreatDoor
/- Plain walks, second form: code, loops and functions. -/
namespace Go.Proofs.YtmkcnjfhdfanoaaGreatDoor
open Go.RowKit

inductive AE where
  | nxt
  | out (id : Nat)
  | ret
def AE.ex : AE → Exit
  | .nxt => .normal
  | .out id => .exit id
  | .ret => .ret
/-- from state to state through a piece of code -/
def Tri (E : En) (c : Code) (s : AS) (e : AE) (s' : AS) : Prop :=
  s'.tm.length = s.tm.length ∧ ∀ (X : Nat → Prop) (n0 : Nat) (w0 : World) (ok0 : Nat → Prop) (a : Act) (w : World), (∀ w, Bel X n0 w0 w → E.G w) → Left X n0 w0 ok0 s.tm.length s.tmf s.bxf a w →
    c.wp E.P (fun x a' w' => x = e.ex ∧ Left X n0 w0 ok0 s.tm.length s'.tmf s'.bxf a' w') a w
mutual
def AV.ptl (n : Nat) : AV → Bool
  | .ptr b _ => Nat.ble (b + 1) n
  | .own b _ => Nat.ble (b + 1) n
  | .sl b _ => Nat.ble (b + 1) n
  | .mapp b => Nat.ble (b + 1) n
  | .rptr b _ _ => Nat.ble (b + 1) n
  | .agg cs => AV.ptls n cs
  | .tup cs => AV.ptls n cs
  | .clo _ cs => AV.ptls n cs
  | _ => true
def AV.ptls (n : Nat) : List AV → Bool
  | [] => true
  | c :: cs => AV.ptl n c && AV.ptls n cs
end
/-- the boxes before n alone -/
def Mm.cut (M : Mm) (n : Nat) : Mm := ⟨fun b => if b < n then M.m b else none, M.F, fun b => if b < n then M.o b else none⟩
theorem Mm.cut_m {M : Mm} {n b : Nat} (h : b < n) : (M.cut n).m b = M.m b := if_pos h
theorem Mm.cut_o {M : Mm} {n b : Nat} (h : b < n) : (M.cut n).o b = M.o b := if_pos h
theorem ble_lt {b n : Nat} (h : Nat.ble (b + 1) n = true) : b < n := by have := Nat.le_of_ble_eq_true h; omega
mutual
theorem RV.ptl {M : Mm} {w : World} {n : Nat} : ∀ (a : AV) (v : Value), a.ptl n = true → RV M w a v → RV (M.cut n) w a v
  | .dt _d, _v, _, h => h
  | .nil, _v, _, h => h
  | .ful _es, _v, _, h => h
  | .gl _ _, _v, _, h => h
  | .pin _ds, _v, _, h => h
  | .clf _ _, _v, _, h => h
  | .un, _v, _, _h => trivial
  | .ptr _b _off, _v, hp, ⟨g, h1, h2⟩ => ⟨g, (Mm.cut_m (ble_lt hp)).trans h1, h2⟩
  | .rptr _b _i _k, _v, hp, ⟨g, h1, h2⟩ => ⟨g, (Mm.cut_m (ble_lt hp)).trans h1, h2⟩
  | .sl _b _m, _v, hp, ⟨g, h1, h2⟩ => ⟨g, (Mm.cut_m (ble_lt hp)).trans h1, h2⟩
  | .mapp _b, _v, hp, ⟨g, h1, h2⟩ => ⟨g, (Mm.cut_m (ble_lt hp)).trans h1, h2⟩
  | .own _b _m, _v, hp, ⟨A, c, A', n', c', h1, h2, h3⟩ => ⟨A, c, A', n', c', h1, (Mm.cut_o (ble_lt hp)).trans h2, h3⟩
  | .agg cs, _v, hf, ⟨vs, h1, h2⟩ => ⟨vs, h1, RL.ptl cs vs hf h2⟩
  | .tup cs, _v, hf, ⟨vs, h1, h2⟩ => ⟨vs, h1, RL.ptl cs vs hf h2⟩
  | .clo _f cs, _v, hf, ⟨vs, h1, h2⟩ => ⟨vs, h1, RL.ptl cs vs hf h2⟩
theorem RL.ptl {M : Mm} {w : World} {n : Nat} : ∀ (cs : List AV) (vs : List Value), AV.ptls n cs = true → RL M w cs vs → RL (M.cut n) w cs vs
  | [], _, _, h => h
  | c :: cs, _, hf, ⟨u, us, h1, h2, h3⟩ => by
    have hf' : (c.ptl n && AV.ptls n cs) = true := hf
    rw [Bool.and_eq_true] at hf'
    exact ⟨u, us, h1, RV.ptl c u hf'.1 h2, RL.ptl cs us hf'.2 h3⟩
end
def fgt (ft : List Nat) : Nat → List AV → List AV
  | _, [] => []
  | i, x :: xs => (match ft.contains i with | true => x | false => .un) :: fgt ft (i + 1) xs
theorem fgt_len (ft : List Nat) : ∀ (i : Nat) (xs : List AV), (fgt ft i xs).length = xs.length
  | _, [] => rfl
  | i, x :: xs => by unfold fgt; rw [List.length_cons, List.length_cons, fgt_len ft (i + 1) xs]
theorem fgt_get (ft : List Nat) : ∀ (i : Nat) (xs : List AV) (t : Nat) (d : AV), (fgt ft i xs).getD t d = .un ∨ (fgt ft i xs).getD t d = xs.getD t d
  | _, [], t, d => .inr rfl
  | i, x :: xs, 0, d => by
    unfold fgt
    cases ft.contains i
    · exact .inl rfl
    · exact .inr rfl
  | i, x :: xs, t + 1, d => by
    have := fgt_get ft (i + 1) xs t d
    unfold fgt
    simpa using this
/-- the slots ft are kept, and the boxes before nb -/
def forget (ft : List Nat) (nb : Nat) (s : AS) : AS := ⟨fgt ft 0 s.tm, s.bx.take nb⟩
def mpAll (nb : Nat) : List (Value × AV) → Bool
  | [] => true
  | (_, a) :: r => a.ptl nb && mpAll nb r
def Bx.ptl (nb : Nat) : Option Bx → Bool
  | some (.cells cs) => AV.ptls nb cs
  | some (.mp kvs) => mpAll nb kvs
  | _ => true
def forgets (nb : Nat) (s : AS) : Bool := AV.ptls nb s.tm && s.bx.all (Bx.ptl nb)
theorem MK.ptl {M : Mm} {w : World} {n : Nat} : ∀ {kvs : List (Value × AV)} {es : List MapEntry}, mpAll n kvs = true → MK M w kvs es → MK (M.cut n) w kvs es
  | [], _, _, h => h
  | (k, a) :: kvs, _, hf, ⟨e, es', h1, h2, h3, h4⟩ => by
    have hf' : (a.ptl n && mpAll n kvs) = true := hf
    rw [Bool.and_eq_true] at hf'
    exact ⟨e, es', h1, h2, RV.ptl _ _ hf'.1 h3, MK.ptl hf'.2 h4⟩
theorem ptls_get {n : Nat} : ∀ {cs : List AV}, AV.ptls n cs = true → ∀ (t : Nat) (d : AV), d.ptl n = true → (cs.getD t d).ptl n = true
  | [], _, t, d, hd => by simpa using hd
  | c :: cs, h, t, d, hd => by
    have h' : (c.ptl n && AV.ptls n cs) = true := h
    rw [Bool.and_eq_true] at h'
    cases t with
    | zero => exact h'.1
    | succ t => simpa using ptls_get h'.2 t d hd
theorem Left.forget {ft : List Nat} {nb : Nat} {s : AS} (hf : forgets nb (forget ft nb s) = true) {X : Nat → Prop} {n0 : Nat} {w0 : World} {ok0 : Nat → Prop} {nt : Nat} {a : Act} {w : World} (h : Left X n0 w0 ok0 nt s.tmf s.bxf a w) : Left X n0 w0 ok0 nt (forget ft nb s).tmf (forget ft nb s).bxf a w := by
  obtain ⟨M, hI⟩ := h
  unfold forgets at hf
  rw [Bool.and_eq_true] at hf
  have hb : ∀ b x, (Go.Proofs.YtmkcnjfhdfanoaaGreatDoor.forget ft nb s).bxf b = some x → b < nb ∧ s.bxf b = some x ∧ Bx.ptl nb (some x) = true := by
    intro b cs hbx
    unfold AS.bxf at hbx ⊢
    cases hx : (Go.Proofs.YtmkcnjfhdfanoaaGreatDoor.forget ft nb s).bx[b]? with
    | none => rw [hx] at hbx; cases hbx
    | some x =>
      rw [hx] at hbx
      simp only at hbx
      subst hbx
      have h2 := List.all_eq_true.1 hf.2 _ (List.mem_of_getElem? hx)
      have h3 : (s.bx.take nb)[b]? = some (some cs) := hx
      rw [List.getElem?_take] at h3
      split at h3
      · rename_i hlt
        rw [h3]
        exact ⟨hlt, rfl, h2⟩
      · cases h3
  have hb2 : ∀ b, b < nb → (Go.Proofs.YtmkcnjfhdfanoaaGreatDoor.forget ft nb s).bxf b = s.bxf b := by
    intro b h1
    unfold AS.bxf
    show (match (s.bx.take nb)[b]? with | some x => x | none => none) = _
    rw [List.getElem?_take, if_pos h1]
    all_goals rfl
  have hm : ∀ b g, (M.cut nb).m b = some g → b < nb ∧ M.m b = some g := fun b g h => by
    by_cases e : b < nb
    · rw [Mm.cut_m e] at h; exact ⟨e, h⟩
    · rw [show (M.cut nb).m b = none from if_neg e] at h; cases h
  have ho : ∀ b v, (M.cut nb).o b = some v → b < nb ∧ M.o b = some v := fun b g h => by
    by_cases e : b < nb
    · rw [Mm.cut_o e] at h; exact ⟨e, h⟩
    · rw [show (M.cut nb).o b = none from if_neg e] at h; cases h
  have hhx : ∀ b x q, b < nb → (Hx (M.cut nb) b x q ↔ Hx M b x q) := fun b x q h => Hx.eq (Mm.cut_m h) (Mm.cut_o h)
  refine ⟨M.cut nb, hI.below, hI.le, hI.defers, hI.size, ?_, ⟨?_, ?_, ?_, ?_, ?_, hI.sto.fz⟩, hI.src⟩
  · intro t
    have hp := ptls_get hf.1 t (.dt (.val undef)) rfl
    have hp' : ((Go.Proofs.YtmkcnjfhdfanoaaGreatDoor.forget ft nb s).tmf t).ptl nb = true := hp
    rcases fgt_get ft 0 s.tm t (.dt (.val undef)) with e | e
    · have e' : (Go.Proofs.YtmkcnjfhdfanoaaGreatDoor.forget ft nb s).tmf t = .un := e
      rw [e']; trivial
    · have e' : (Go.Proofs.YtmkcnjfhdfanoaaGreatDoor.forget ft nb s).tmf t = s.tmf t := e
      rw [e'] at hp' ⊢
      exact RV.ptl _ _ hp' (hI.tmps t)
  · intro b x hbx
    obtain ⟨h1, h2, h3⟩ := hb b x hbx
    have h4 := hI.sto.box b x h2
    cases x with
    | cells cs => obtain ⟨g, T, vs, e1, e2, e3⟩ := h4; exact ⟨g, T, vs, (Mm.cut_m h1).trans e1, e2, RL.ptl _ _ h3 e3⟩
    | buf e k es => obtain ⟨A, n, c, e1, e2⟩ := h4; exact ⟨A, n, c, (Mm.cut_o h1).trans e1, e2⟩
    | fzn es => obtain ⟨A, n, c, e1, e2⟩ := h4; exact ⟨A, n, c, (Mm.cut_o h1).trans e1, e2⟩
    | mp kvs => obtain ⟨g, es, clk, e1, e2, e3⟩ := h4; exact ⟨g, es, clk, (Mm.cut_m h1).trans e1, e2, MK.ptl h3 e3⟩
    | rws e k es => obtain ⟨g, vs, e1, e2⟩ := h4; exact ⟨g, vs, (Mm.cut_m h1).trans e1, e2⟩
    | fzr es => obtain ⟨g, e1, e2⟩ := h4; exact ⟨g, (Mm.cut_m h1).trans e1, e2⟩
    | cst cs => obtain ⟨g, vs, e1, e2⟩ := h4; exact ⟨g, vs, (Mm.cut_m h1).trans e1, e2⟩
  · intro b x q hbx hq
    obtain ⟨h1, h2, _⟩ := hb b x hbx
    exact hI.sto.dom b x q h2 ((hhx b x q h1).1 hq)
  · intro b b' x x' q h1 h2 h3 h4
    obtain ⟨g1, g2, _⟩ := hb b x h1
    obtain ⟨k1, k2, _⟩ := hb b' x' h2
    exact hI.sto.inj b b' x x' q g2 k2 ((hhx b x q g1).1 h3) ((hhx b' x' q k1).1 h4)
  · intro b q hbq
    obtain ⟨h1, h2⟩ := hm b q hbq
    obtain ⟨x, h3, h4⟩ := hI.sto.hm b q h2
    exact ⟨x, (hb2 b h1).trans h3, h4⟩
  · intro b v hbv
    obtain ⟨h1, h2⟩ := ho b v hbv
    rw [hb2 b h1]
    exact hI.sto.ho b v h2
/-- rounds of a loop -/
inductive Lp (E : En) (c : Code) : Nat → AS → AE → AS → Prop
  | stop {s s' : AS} {e : AE} : Tri E c s e s' → e ≠ .nxt → Lp E c 0 s e s'
  | more {n : Nat} {s s1 s' : AS} {e : AE} : Tri E c s .nxt s1 → Lp E c n s1 e s' → Lp E c (n + 1) s e s'
def Lps (E : En) (c : Code) (s : AS) (e : AE) (s' : AS) : Prop := ∃ n, Lp E c n s e s'
theorem Lps.stop {E : En} {c : Code} {s s' : AS} {e : AE} (h : Tri E c s e s') (he : e ≠ .nxt) : Lps E c s e s' := ⟨0, .stop h he⟩
theorem Lps.more {E : En} {c : Code} {s s1 s' : AS} {e : AE} (h : Tri E c s .nxt s1) (h' : Lps E c s1 e s') : Lps E c s e s' := h'.elim fun n hn => ⟨n + 1, .more h hn⟩
theorem Lp.len {E : En} {c : Code} {n : Nat} {s s' : AS} {e : AE} (h : Lp E c n s e s') : s'.tm.length = s.tm.length := by
  induction h with
  | stop h _ => exact h.1
  | more h _ ih => exact ih.trans h.1
theorem Lps.tri {E : En} {c : Code} {s s' : AS} {e : AE} (h : Lps E c s e s') : Tri E (.loop c) s e s' := by
  obtain ⟨n, h⟩ := h
  refine ⟨h.len, fun X n0 w0 ok0 a w hG hL => ?_⟩
  have hlen := h.len
  refine wp_loop_ghost (fun k a w => ∃ s1, Lp E c k s1 e s' ∧ s1.tm.length = s.tm.length ∧ Left X n0 w0 ok0 s.tm.length s1.tmf s1.bxf a w) n ⟨s, h, rfl, hL⟩ ?_
  rintro k a w ⟨s1, h1, hl, hL1⟩
  cases h1 with
  | stop h2 he =>
    rw [← hl] at hL1
    refine wp_mono (h2.2 X n0 w0 ok0 a w hG hL1) ?_
    rintro x a' w' ⟨rfl, hL'⟩
    rw [hl] at hL'
    cases e with
    | nxt => exact absurd rfl he
    | out i => exact ⟨rfl, hL'⟩
    | ret => exact ⟨rfl, hL'⟩
  | more h2 h3 =>
    rename_i k' s2
    have hl2 := h2.1
    rw [← hl] at hL1
    refine wp_mono (h2.2 X n0 w0 ok0 a w hG hL1) ?_
    rintro x a' w' ⟨rfl, hL'⟩
    rw [hl] at hL'
    exact ⟨_, Nat.lt_succ_self _, s2, h3, hl2.trans hl, hL'⟩
/-- what is said of a loop: what is forgotten before it, how it ends, and in which state; or: its rounds are run -/
inductive LA where
  | inv (ft : List Nat) (nb : Nat) (e : AE) (s : AS)
  | run (n : Nat)
def aiter (step : AS → List An → List LA → Option (AE × AS × List Prop × List An × List LA)) : Nat → AS → List An → List LA → Option (AE × AS × List Prop × List An × List LA)
  | 0, _, _, _ => none
  | n + 1, s, an, ls => match step s an ls with
    | some (.nxt, s1, ps, an1, ls1) => match aiter step n s1 an1 ls1 with
      | some (e, s2, qs, an2, ls2) => some (e, s2, ps ++ qs, an2, ls2)
      | none => none
    | r => r
def acode (E : En) : Code → AS → List An → List LA → Option (AE × AS × List Prop × List An × List LA)
  | .skip, s, an, ls => some (.nxt, s, [], an, ls)
  | .label _, s, an, ls => some (.nxt, s, [], an, ls)
  | .region _ ops draw, s, an, ls => match aregion E ops draw s an with
    | none => none
    | some (s', ps, an') => some (.nxt, s', ps, an', ls)
  | .seq x y, s, an, ls => match acode E x s an ls with
    | some (.nxt, s1, ps, an1, ls1) => match acode E y s1 an1 ls1 with
      | some (e, s2, qs, an2, ls2) => some (e, s2, ps ++ qs, an2, ls2)
      | none => none
    | r => r
  | .cond c x y, s, an, ls => match aev s.tmf c with
    | .dt (.val (.bool true)) => acode E x s an ls
    | .dt (.val (.bool false)) => acode E y s an ls
    | _ => none
  | .block id b, s, an, ls => match acode E b s an ls with
    | some (.out i, s', ps, an', ls') => match Nat.beq i id with
      | true => some (.nxt, s', ps, an', ls')
      | false => some (.out i, s', ps, an', ls')
    | r => r
  | .scope b, s, an, ls => acode E b s an ls
  | .loop b, s, an, ls => match ls with
    | .inv ft nb e s' :: ls => match forgets nb (forget ft nb s) with
      | true => some (e, s', [Tri E (.loop b) (forget ft nb s) e s'], an, ls)
      | false => none
    | .run n :: ls => aiter (fun s an ls => acode E b s an ls) n s an ls
    | [] => aiter (fun s an ls => acode E b s an ls) 4000 s an []
  | .exit id, s, an, ls => some (.out id, s, [], an, ls)
  | .ret, s, an, ls => some (.ret, s, [], an, ls)
  | _, _, _, _ => none
theorem acode_sound {E : En} : ∀ {c : Code} {s s' : AS} {an an' : List An} {ls ls' : List LA} {e : AE} {ps : List Prop}, acode E c s an ls = some (e, s', ps, an', ls') → AllP ps → Tri E c s e s' := by
  intro c
  induction c with
  | skip => intro s s' an an' ls ls' e ps h _; cases h; exact ⟨rfl, fun X n0 w0 ok0 a w _ hL => wp_skip ⟨rfl, hL⟩⟩
  | label l => intro s s' an an' ls ls' e ps h _; cases h; exact ⟨rfl, fun X n0 w0 ok0 a w _ hL => wp_label ⟨rfl, hL⟩⟩
  | region id ops draw =>
    intro s s' an an' ls ls' e ps h hp
    simp only [acode] at h
    split at h
    · cases h
    · rename_i s1 ps1 an1 hr
      cases h
      refine ⟨?_, fun X n0 w0 ok0 a w hG hL => aregion_sound hr hp hG hL fun a w hL' => ⟨rfl, hL'⟩⟩
      unfold aregion at hr
      split at hr
      · cases hr
      · rename_i h1
        split at hr
        · cases hr; exact (aops_run h1 hp).1
        · cases hr
  | seq x y ihx ihy =>
    intro s s' an an' ls ls' e ps h hp
    simp only [acode] at h
    split at h
    · rename_i s1 ps1 an1 ls1 hx
      split at h
      · rename_i e2 s2 qs an2 ls2 hy
        cases h
        obtain ⟨hp1, hp2⟩ := AllP_app hp
        obtain ⟨l1, t1⟩ := ihx hx hp1
        obtain ⟨l2, t2⟩ := ihy hy hp2
        refine ⟨l2.trans l1, fun X n0 w0 ok0 a w hG hL => wp_seq (wp_mono (t1 X n0 w0 ok0 a w hG hL) ?_)⟩
        rintro x' a' w' ⟨rfl, hL'⟩
        rw [← l1] at hL'
        have := t2 X n0 w0 ok0 a' w' hG hL'
        rw [l1] at this
        exact this
      · cases h
    · rename_i hne
      obtain ⟨l1, t1⟩ := ihx h hp
      refine ⟨l1, fun X n0 w0 ok0 a w hG hL => wp_seq (wp_mono (t1 X n0 w0 ok0 a w hG hL) ?_)⟩
      rintro x' a' w' ⟨rfl, hL'⟩
      cases e with
      | nxt => exact absurd h (hne _ _ _ _)
      | out i => exact ⟨rfl, hL'⟩
      | ret => exact ⟨rfl, hL'⟩
  | cond c x y ihx ihy =>
    intro s s' an an' ls ls' e ps h hp
    simp only [acode] at h
    split at h
    · rename_i hc
      obtain ⟨l1, t1⟩ := ihx h hp
      refine ⟨l1, fun X n0 w0 ok0 a w hG hL => ?_⟩
      obtain ⟨M, hI⟩ := hL
      have hv := hI.ev c
      rw [hc] at hv
      exact wp_cond_true (Rd.val_eq hv) (t1 X n0 w0 ok0 a w hG ⟨M, hI⟩)
    · rename_i hc
      obtain ⟨l1, t1⟩ := ihy h hp
      refine ⟨l1, fun X n0 w0 ok0 a w hG hL => ?_⟩
      obtain ⟨M, hI⟩ := hL
      have hv := hI.ev c
      rw [hc] at hv
      exact wp_cond_false (Rd.val_eq hv) (t1 X n0 w0 ok0 a w hG ⟨M, hI⟩)
    · cases h
  | block id b ih =>
    intro s s' an an' ls ls' e ps h hp
    simp only [acode] at h
    split at h
    · rename_i i s1 ps1 an1 ls1 hb
      split at h
      · rename_i hi
        have hi' := Nat.eq_of_beq_eq_true hi
        cases h
        obtain ⟨l1, t1⟩ := ih hb hp
        refine ⟨l1, fun X n0 w0 ok0 a w hG hL => wp_block (wp_mono (t1 X n0 w0 ok0 a w hG hL) ?_)⟩
        rintro x' a' w' ⟨rfl, hL'⟩
        show if i = id then _ else _
        rw [if_pos hi']
        exact ⟨rfl, hL'⟩
      · rename_i hi
        cases h
        obtain ⟨l1, t1⟩ := ih hb hp
        refine ⟨l1, fun X n0 w0 ok0 a w hG hL => wp_block (wp_mono (t1 X n0 w0 ok0 a w hG hL) ?_)⟩
        rintro x' a' w' ⟨rfl, hL'⟩
        show if i = id then _ else _
        rw [if_neg (fun e => by rw [e, Nat.beq_refl] at hi; cases hi)]
        exact ⟨rfl, hL'⟩
    · rename_i hne
      obtain ⟨l1, t1⟩ := ih h hp
      refine ⟨l1, fun X n0 w0 ok0 a w hG hL => wp_block (wp_mono (t1 X n0 w0 ok0 a w hG hL) ?_)⟩
      rintro x' a' w' ⟨rfl, hL'⟩
      cases e with
      | nxt => exact ⟨rfl, hL'⟩
      | out i => exact absurd h (hne _ _ _ _ _)
      | ret => exact ⟨rfl, hL'⟩
  | scope b ih =>
    intro s s' an an' ls ls' e ps h hp
    simp only [acode] at h
    obtain ⟨l1, t1⟩ := ih h hp
    refine ⟨l1, fun X n0 w0 ok0 a w hG hL => wp_scope_straight (wp_mono (t1 X n0 w0 ok0 a w hG hL) ?_)⟩
    rintro x' a' w' ⟨rfl, hL'⟩
    cases e <;> exact ⟨rfl, hL'⟩
  | loop b ih =>
    intro s s' an an' ls ls' e ps h hp
    have rounds : ∀ (n : Nat) {s s' : AS} {an an' : List An} {ls ls' : List LA} {e : AE} {ps : List Prop}, aiter (fun s an ls => acode E b s an ls) n s an ls = some (e, s', ps, an', ls') → AllP ps → Lps E b s e s' := by
      intro n
      induction n with
      | zero => intro s s' an an' ls ls' e ps h _; cases h
      | succ n ihn =>
        intro s s' an an' ls ls' e ps h hp
        simp only [aiter] at h
        split at h
        · rename_i s1 ps1 an1 ls1 hx
          split at h
          · rename_i e2 s2 qs an2 ls2 hy
            cases h
            obtain ⟨hp1, hp2⟩ := AllP_app hp
            exact .more (ih hx hp1) (ihn hy hp2)
          · cases h
        · rename_i hne
          exact .stop (ih h hp) fun he => by subst he; exact hne _ _ _ _ h
    simp only [acode] at h
    split at h
    · rename_i ft nb e1 s1 ls1
      split at h
      · rename_i hf
        cases h
        obtain ⟨l1, t1⟩ := hp.1
        have hlen : (forget ft nb s).tm.length = s.tm.length := fgt_len _ _ _
        refine ⟨l1.trans hlen, fun X n0 w0 ok0 a w hG hL => ?_⟩
        have := t1 X n0 w0 ok0 a w hG (by rw [hlen]; exact hL.forget hf)
        rw [hlen] at this
        exact this
      · cases h
    · exact (rounds _ h hp).tri
    · exact (rounds _ h hp).tri
  | exit id => intro s s' an an' ls ls' e ps h _; cases h; exact ⟨rfl, fun X n0 w0 ok0 a w _ hL => wp_exit ⟨rfl, hL⟩⟩
  | ret => intro s s' an an' ls ls' e ps h _; cases h; exact ⟨rfl, fun X n0 w0 ok0 a w _ hL => wp_ret ⟨rfl, hL⟩⟩
  | goto l => intro s s' an an' ls ls' e ps h _; cases h
  | refuse l => intro s s' an an' ls ls' e ps h _; cases h
  | rangeFunc f p x y ihx ihy => intro s s' an an' ls ls' e ps h _; cases h
def ares (P : Program) (s : AS) : List ResultVar → Option (List AV)
  | [] => some []
  | .tmp t :: rs => match ares P s rs with
    | some cs => some (s.tmf t :: cs)
    | none => none
  | .cell x t :: rs => match s.tmf x, asz P t, aag P t, ares P s rs with
    | .ptr b off, some n, some ag, some cs => match s.bxf b with
      | some (.cells c0) => match rowAt c0 off n ag with
        | some r => some (r :: cs)
        | none => none
      | _ => none
    | _, _, _, _ => none
def aret : List AV → AV
  | [x] => x
  | xs => .tup xs
def resOf (tmps : Array Value) : ResultVar → Sem Value
  | .tmp t => pure (tmps.getD t undef)
  | .cell a t => do loadVar t (← asAddr (tmps.getD a undef))
section
variable {P : Program} {X : Nat → Prop} {n0 : Nat} {w0 : World} {ok0 : Nat → Prop} {M : Mm} {nt : Nat} {a : Act} {w : World}
theorem ares_run {s : AS} (hI : Inv X n0 w0 ok0 M nt s.tmf s.bxf a w) : ∀ {rs : List ResultVar} {cs : List AV}, ares P s rs = some cs → ∃ vs, (rs.mapM (resOf a.tmps)).run P w = .ok vs w ∧ RL M w cs vs
  | [], cs, h => by cases h; exact ⟨[], rfl, rfl⟩
  | .tmp t :: rs, cs, h => by
    unfold ares at h
    split at h
    · rename_i cs' h'
      cases h
      obtain ⟨vs, h1, h2⟩ := ares_run hI h'
      refine ⟨a.tmps.getD t undef :: vs, ?_, _, vs, rfl, hI.tmps t, h2⟩
      rw [List.mapM_cons]
      simp only [resOf, Sem.run_bind, Sem.run_pure, Result.andThen, h1]
    · cases h
  | .cell x t :: rs, cs, h => by
    unfold ares at h
    split at h
    · rename_i b off n ag cs' hx hn ha h'
      split at h
      · rename_i c0 hb
        split at h
        · rename_i r hr
          cases h
          obtain ⟨vs, h1, h2⟩ := ares_run hI h'
          have hv := hI.tmps x
          rw [hx] at hv
          obtain ⟨g, hg, hv⟩ := hv
          obtain ⟨g', T, us, e1, e2, e3⟩ := hI.sto.box b _ hb
          rw [hg] at e1
          cases e1
          obtain ⟨u, hu1, hu2⟩ := run_load (P := P) (g := g) (q := 0) hn ha (fun j u hj => by rw [Nat.zero_add, e2.cell]; simpa using hj) e3 hr
          rw [Nat.zero_add] at hu1
          refine ⟨u :: vs, ?_, u, vs, rfl, hu2, h2⟩
          rw [List.mapM_cons]
          have hu1' : (resOf a.tmps (.cell x t)).run P w = .ok u w := by
            simp only [resOf, hv, asAddr, Sem.run_bind, Sem.run_pure, Result.andThen, hu1]
          simp only [Sem.run_bind, hu1', Sem.run_pure, Result.andThen, h1]
        · cases h
      · cases h
    · cases h
theorem results_run {fn : Func} {tmps : Array Value} {vs : List Value} (h : (fn.results.toList.mapM (resOf tmps)).run P w = .ok vs w) : (results fn tmps).run P w = .ok (if h : vs.length = 1 then vs[0] else .tuple vs.toArray) w := by
  have e : results fn tmps = (do let vs ← fn.results.mapM (resOf tmps); pure (if h : vs.size = 1 then vs[0] else .tuple vs)) := by
    unfold results
    congr 1
  rw [e, Array.mapM_eq_mapM_toList]
  simp only [Sem.run_bind, Sem.run_map, h, Result.andThen, Sem.run_pure]
  by_cases h1 : vs.length = 1
  · simp [h1]
  · simp [h1]
end
def afun (E : En) (fn : Func) (c : Code) (args : List AV) (an : List An) (ls : List LA) : Option (AV × List Prop) :=
  match acode E c ⟨args ++ List.replicate (fn.ntmps - args.length) (.dt (.val undef)), []⟩ an ls with
  | some (.out _, _) => none
  | none => none
  | some (_, s, ps, _, _) => match ares E.P s fn.results.toList with
    | some cs => match cvL [] false s.bxf cs with
      | some (cs', qs) => some (aret cs', ps ++ qs)
      | none => none
    | none => none
def afunB (E : En) (fn : Func) (args : List AV) (an : List An) (ls : List LA) : Option (AV × List Prop) := match fn.body with
  | some c => afun E fn c args an ls
  | none => none
theorem aret_rv {M : Mm} {w : World} {cs : List AV} {vs : List Value} (h : RL M w cs vs) : RV M w (aret cs) (if h : vs.length = 1 then vs[0] else .tuple vs.toArray) := by
  have hl := h.len
  match cs, h with
  | [], h =>
    rw [show vs = [] from h]
    exact ⟨[], rfl, rfl⟩
  | [c], ⟨u, us, e, h1, h2⟩ =>
    rw [show us = [] from h2] at e
    subst e
    exact h1
  | c :: c' :: cs, h =>
    simp only [List.length_cons] at hl
    rw [dif_neg (by omega)]
    exact ⟨vs, rfl, h⟩
theorem walk {E : En} (hG : ∀ w w', E.G w → Below w.heap.size w w' → E.G w') {f : FuncId} {fn : Func} {c : Code} (hf : E.P.funcs[f]? = some fn) (hb : fn.body = some c) (hn : (fn.name == "runtime.NumGoroutine") = false)
    {args : List AV} (an : List An) (ls : List LA) {r : AV} {ps : List Prop} (h : afun E fn c args an ls = some (r, ps)) (hp : AllP ps) : PureOK E.P E.G f args r := by
  refine ⟨⟨fn, hf, by rw [hb]; rfl, hn⟩, fun ok w vs hw hargs => ?_⟩
  unfold afun at h
  have key : ∃ e s cs cs' an' ls' ps1 qs, acode E c ⟨args ++ List.replicate (fn.ntmps - args.length) (.dt (.val undef)), []⟩ an ls = some (e, s, ps1, an', ls') ∧ (∀ i, e ≠ .out i) ∧ ares E.P s fn.results.toList = some cs ∧ cvL [] false s.bxf cs = some (cs', qs) ∧ r = aret cs' ∧ ps = ps1 ++ qs := by
    split at h
    · cases h
    · cases h
    · rename_i e s ps' an' ls' hne hc
      split at h
      · rename_i cs hcs
        split at h
        · rename_i cs' qs hcv
          cases h
          exact ⟨e, s, cs, cs', an', ls', ps', qs, hc, fun i he => by subst he; exact hne _ rfl, hcs, hcv, rfl, rfl⟩
        · cases h
      · cases h
  obtain ⟨e, s, cs, cs', an', ls', ps1, qs, hc, hne, hcs, hcv, rfl, rfl⟩ := key
  obtain ⟨hp1, hp2⟩ := AllP_app hp
  obtain ⟨hlen, htri⟩ := acode_sound hc hp1
  have hal := hargs.len
  refine calls_of_wp hf hb (wp_mono (htri (fun _ => False) w.heap.size w ok _ w (fun w' hb => hG w w' hw hb.below) ⟨M0 fun b => ok b ∧ b < w.heap.size, ?_⟩) ?_)
  · have nobx : ∀ b x, (AS.mk (args ++ List.replicate (fn.ntmps - args.length) (.dt (.val undef))) []).bxf b ≠ some x := fun b x h => by simp [AS.bxf] at h
    refine ⟨Bel.refl _ _ _, Nat.le_refl _, rfl, ?_, ?_, ⟨fun b x h => absurd h (nobx b x), fun b x _ h => absurd h (nobx b x), fun b _ x _ _ h => absurd h (nobx b x), (fun b g h => by cases h), (fun b v h => by cases h), fun b hb => hb.2⟩, fun b hb _ => .inl hb.1⟩
    · simp [hal]
    · intro t
      have hargs' : RL (M0 fun b => ok b ∧ b < w.heap.size) w args vs := RL.flatter (fun b hb hl => ⟨hb, hl⟩) hargs
      by_cases ht : t < args.length
      · obtain ⟨u, hu1, hu2⟩ := hargs'.get (i := t) (c := args[t]) (List.getElem?_eq_getElem ht)
        have e1 : (AS.mk (args ++ List.replicate (fn.ntmps - args.length) (.dt (.val undef))) []).tmf t = args[t] := by
          unfold AS.tmf
          simp [List.getElem?_append_left ht, ht]
        have e2 : (vs.toArray ++ Array.replicate (fn.ntmps - vs.toArray.size) undef).getD t undef = u := by
          have ht' : t < vs.length := by omega
          simp only [Array.getD_eq_getD_getElem?]
          rw [Array.getElem?_append_left (by simpa using ht')]
          simp [hu1]
        rw [e1, e2]
        exact hu2
      · have e1 : (AS.mk (args ++ List.replicate (fn.ntmps - args.length) (.dt (.val undef))) []).tmf t = .dt (.val undef) := by
          unfold AS.tmf
          rw [List.getD_eq_getElem?_getD, List.getElem?_append_right (by omega), List.getElem?_replicate]
          split <;> rfl
        have e2 : (vs.toArray ++ Array.replicate (fn.ntmps - vs.toArray.size) undef).getD t undef = undef := by
          simp only [Array.getD_eq_getD_getElem?]
          rw [Array.getElem?_append_right (by simp; omega), Array.getElem?_replicate]
          split <;> rfl
        rw [e1, e2]
        exact rv_undef
  · rintro x a' w' ⟨rfl, M, hI⟩
    obtain ⟨us, h1, h2⟩ := ares_run hI hcs
    obtain ⟨M1, hI1, h3, _⟩ := hI.hand hcv hp2 h2
    have hR : ∃ v, (results fn a'.tmps).run E.P w' = .ok v w' ∧ (fun e w' => ∃ v, e = Ending.returned v ∧ Below w.heap.size w w' ∧ RV (M0 fun b => ok b ∨ w.heap.size ≤ b) w' (aret cs') v) (.returned v) w' := by
      refine ⟨_, results_run h1, _, rfl, hI.below.below, ?_⟩
      refine RV.lift (F := M1.F) (M := M0 fun b => ok b ∨ w.heap.size ≤ b) (fun b hb _ => ?_) (aret_rv h3)
      by_cases e : b < w.heap.size
      · rcases hI1.src b hb e with h | h
        · exact .inl h
        · exact h.elim
      · exact .inr (by omega)
    cases e with
    | nxt => exact ⟨hI.defers, hR⟩
    | ret => exact ⟨hI.defers, hR⟩
    | out i => exact absurd rfl (hne i)
theorem walkB {E : En} (hG : ∀ w w', E.G w → Below w.heap.size w w' → E.G w') {f : FuncId} {fn : Func} (hf : E.P.funcs[f]? = some fn) (hn : (fn.name == "runtime.NumGoroutine") = false)
    {args : List AV} {an : List An} {ls : List LA} {r : AV} {ps : List Prop} (h : afunB E fn args an ls = some (r, ps)) (hp : AllP ps) : PureOK E.P E.G f args r := by
  unfold afunB at h
  split at h
  · rename_i c hc
    exact walk hG hf hc hn an ls h hp
  · cases h
theorem Tri.weak {E : En} {c : Code} {s s' : AS} {e : AE} (h : Tri E c s e s') (ft : List Nat) (nb : Nat) (hf : forgets nb (forget ft nb s') = true) : Tri E c s e (forget ft nb s') := by
  refine ⟨(fgt_len _ _ _).trans h.1, fun X n0 w0 ok0 a w hG hL => wp_mono (h.2 X n0 w0 ok0 a w hG hL) ?_⟩
  rintro x a' w' ⟨rfl, hL'⟩
  exact ⟨rfl, hL'.forget hf⟩
def acodeF (E : En) (c : Code) (s : AS) (an : List An) (ls : List LA) (ft : List Nat) (nb : Nat) : Option (AE × AS × List Prop) := match acode E c s an ls with
  | some (e, s', ps, _, _) => match forgets nb (forget ft nb s') with
    | true => some (e, forget ft nb s', ps)
    | false => none
  | none => none
theorem tw {E : En} {c : Code} {s s' : AS} {an : List An} {ls : List LA} {ft : List Nat} {nb : Nat} {e : AE} {ps : List Prop} (h : acodeF E c s an ls ft nb = some (e, s', ps)) (hp : AllP ps) : Tri E c s e s' := by
  unfold acodeF at h
  split at h
  · rename_i e1 s1 ps1 an1 ls1 hc
    split at h
    · rename_i hf
      cases h
      exact (acode_sound hc hp).weak ft nb hf
    · cases h
  · cases h
/-- slots by number -/
def stG (kv : List (Nat × AV)) (i : Nat) : AV := match kv with
  | [] => .un
  | (j, v) :: r => match Nat.beq i j with
    | true => v
    | false => stG r i
def stT (kv : List (Nat × AV)) : Nat → Nat → List AV
  | _, 0 => []
  | i, n + 1 => stG kv i :: stT kv (i + 1) n
abbrev stt (n : Nat) (kv : List (Nat × AV)) : List AV := stT kv 0 n
def subC : Code → List Nat → Code
  | c, [] => c
  | .seq x _, 0 :: p => subC x p
  | .seq _ y, _ :: p => subC y p
  | .cond _ x _, 0 :: p => subC x p
  | .cond _ _ y, _ :: p => subC y p
  | .block _ b, _ :: p => subC b p
  | .loop b, _ :: p => subC b p
  | .scope b, _ :: p => subC b p
  | c, _ => c
def bodyOf (fn : Func) : Code := match fn.body with
  | some c => c
  | none => .skip
end Go.Proofs.YtmkcnjfhdfanoaaGreatDoor
/- What is known of every world of this seat: the tables among the globals. -/
namespace Go.Proofs.YtmkcnjfhdfanoaaGreatDoor
open Go.RowKit

def spB (i : Nat) : Int := match Nat.beq i 32 || (Nat.ble 9 i && Nat.ble i 13) with
  | true => 1
  | false => 0
def spTab : List Int := (List.range 256).map spB
def TabSp (w : World) : Prop := Lib.TabIs Tryz.prog w "strings.asciiSpace" .u8 spTab
def Gx (w : World) : Prop := Tab w ∧ TabSp w
theorem Gx.below {w w' : World} (h : Gx w) (hb : Below w.heap.size w w') : Gx w' := ⟨h.1.below hb, Lib.tabBelow_of_tabIs h.2 w' hb⟩
theorem gSp : Tryz.prog.globalNamed "strings.asciiSpace" = some 0 := by kernel_rfl
def tabT (g i : Nat) : Option Value := match Nat.beq g 0 && Nat.ble (i + 1) 256 with
  | true => some (.int .u8 (spB i))
  | false => none
theorem tabT_ok (w : World) (h : Gx w) (g i : Nat) (v : Value) (hv : tabT g i = some v) : w.cell? ⟨g, i, none⟩ = some v := by
  unfold tabT at hv
  split at hv
  · rename_i hc
    cases hv
    rw [Bool.and_eq_true] at hc
    obtain rfl := Nat.eq_of_beq_eq_true hc.1
    have hi := Nat.le_of_ble_eq_true hc.2
    have := Lib.TabIs.cell h.2 gSp i (by simp [spTab]; omega)
    rw [this]
    simp [spTab, show i < 256 by omega]
  · cases hv
theorem mixed : Tryz.prog.follows .mixedOrders = true := by kernel_rfl
noncomputable abbrev EX : En := ⟨Tryz.prog, Gx, tabT, tabT_ok, mixed⟩
end Go.Proofs.YtmkcnjfhdfanoaaGreatDoor
/- What the rows' list of variables gives in chapter 7, and a world that holds them. -/
namespace Go.Proofs.YtmkcnjfhdfanoaaGreatDoor
open Go.ChangeShapes Go.WideShapes Go.ChangeAt Go.RowKit

/-- the settled world, four blocks more, and each variable as its initialiser lays it -/
noncomputable def laidWorld7 (os : Os) : World :=
  let w0 := World.holding Tryz.prog os ⟨#[.cells #[.string ⟨#[118, 97, 108, 117, 101, 32, 111, 117, 116, 32, 111, 102, 32, 114, 97, 110, 103, 101]⟩] 188, .cells #[.string ⟨#[105, 110, 118, 97, 108, 105, 100, 32, 115, 121, 110, 116, 97, 120]⟩] 188, .cells #[.slice (some ⟨low + 3, 0, none⟩) 7 7, .slice none 0 0, .int .i64 2] 138, .cells #[.int .u16 9, .int .u16 13, .int .u16 1, .int .u16 32, .int .u16 133, .int .u16 101, .int .u16 160, .int .u16 5760, .int .u16 5600, .int .u16 8192, .int .u16 8202, .int .u16 1, .int .u16 8232, .int .u16 8233, .int .u16 1, .int .u16 8239, .int .u16 8287, .int .u16 48, .int .u16 12288, .int .u16 12288, .int .u16 1] 141], #[], []⟩
  let h1 := put w0.heap 2 (cellsOfTab .u64 Lib.pow10Tab)
  let h2 := put h1 5 (cellsOfTab .u8 [0, 1, 28, 2, 29, 14, 24, 3, 30, 22, 20, 15, 25, 17, 4, 8, 31, 27, 13, 23, 21, 19, 16, 7, 26, 12, 18, 6, 11, 5, 10, 9])
  let h3 := put h2 6 (cellsOfTab .u8 [0, 1, 56, 2, 57, 49, 28, 3, 61, 58, 42, 50, 38, 29, 17, 4, 62, 47, 59, 36, 45, 43, 51, 22, 53, 39, 33, 30, 24, 18, 12, 5, 63, 55, 48, 27, 60, 41, 37, 16, 46, 35, 44, 21, 52, 32, 23, 11, 54, 26, 40, 15, 34, 20, 31, 10, 25, 14, 19, 9, 13, 8, 7, 6])
  let h4 := put h3 4 #[.iface 186 (.pointer (some ⟨low, 0, none⟩))]
  let h5 := put h4 3 #[.iface 186 (.pointer (some ⟨low + 1, 0, none⟩))]
  let h6 := put h5 1 #[.pointer (some ⟨low + 2, 0, none⟩)]
  let h7 := put h6 0 (cellsOfTab .u8 spTab)
  { w0 with heap := h7 }

theorem gSpType : (Tryz.prog.globals[0]?).map (·.type) = some 87 := by kernel_rfl
theorem cellsSp : Tryz.prog.cellsOf 87 = 256 := by kernel_rfl
theorem cellsU8 : Tryz.prog.cellsOf 5 = 1 := by kernel_rfl
theorem sp_data : (Rows.laid_strings_asciiSpace : DataW Unit) = Lib.tabData .u8 spTab := by kernel_rfl
theorem gx {W : World} {l : List (String × DataW Unit)} (hl : l.filter (fun x => x.1 == "internal/strconv.uint64pow10") = [("internal/strconv.uint64pow10", Rows.laid_internal_strconv_uint64pow10)]) (hs : l.filter (fun x => x.1 == "strings.asciiSpace") = [("strings.asciiSpace", Rows.laid_strings_asciiSpace)]) (h : laidMet Tryz.prog l W) : Gx W := by
  refine ⟨table hl h, ?_⟩
  have h1 := h.filter (fun x => x.1 == "strings.asciiSpace")
  rw [hs, sp_data] at h1
  exact Lib.tabIs_of_head (rest := []) gSp gSpType Tryz.underlying87 Tryz.underlying5 cellsU8 cellsSp h1
end Go.Proofs.YtmkcnjfhdfanoaaGreatDoor
/- Plain walks, second form: objects; contracts turned into plain ones. -/
namespace Go.Proofs.YtmkcnjfhdfanoaaGreatDoor
open Go.RowKit

abbrev Puk (f : FuncId) (args : List AV) (r : AV) : Prop := PureOK Tryz.prog Gx f args r
abbrev vi (n : Int) : Value := .int .i64 n
abbrev bT : Value := .bool true
abbrev bF : Value := .bool false
abbrev Bn (op : BinOp) (t : TypeId) (x y : Operand) (a b r : Value) : Prop := BinIs Tryz.prog op t x y a b r
/-- an object -/
abbrev obA (o : Ob) : AV := .agg [.dt (.val (.int .i64 o.kind)), .dt (.val (str o.num)), .dt (.val (str o.den)), .dt (.val (str o.sp)), .dt (.val (str o.sn)), .dt (.val (str o.text)), .dt (.row (o.pair.map Ob.enc))]
abbrev boA (b : Bool) : AV := .dt (.val (.bool b))
abbrev yT : An := .av (boA true)
abbrev yF : An := .av (boA false)
abbrev inA (n : Int) : AV := .dt (.val (.int .i64 n))
abbrev stA (l : List UInt8) : AV := .dt (.val (str l))
theorem RV.obj {M : Mm} {w : World} {o : Ob} {v : Value} (h : RV M w (obA o) v) : ∃ A n c, v = objV o (.slice A n c) ∧ Rd M.F w (.slice A n c) (.row (o.pair.map Ob.enc)) := by
  obtain ⟨vs, rfl, u0, _, rfl, h0, u1, _, rfl, h1, u2, _, rfl, h2, u3, _, rfl, h3, u4, _, rfl, h4, u5, _, rfl, h5, u6, _, rfl, h6, rfl⟩ := h
  obtain ⟨A, n, c, rfl, _⟩ := Rd.slice h6
  refine ⟨A, n, c, ?_, h6⟩
  rw [Rd.val_eq h0, Rd.val_eq h1, Rd.val_eq h2, Rd.val_eq h3, Rd.val_eq h4, Rd.val_eq h5]
theorem RV.ofObj {M : Mm} {w : World} {o : Ob} {A : Option Addr} {n c : Nat} (h : Rd M.F w (.slice A n c) (.row (o.pair.map Ob.enc))) : RV M w (obA o) (objV o (.slice A n c)) :=
  ⟨_, rfl, _, _, rfl, .val _, _, _, rfl, .val _, _, _, rfl, .val _, _, _, rfl, .val _, _, _, rfl, .val _, _, _, rfl, .val _, _, _, rfl, h, rfl⟩
theorem RL.one_obj {M : Mm} {w : World} {o : Ob} {vs : List Value} (h : RL M w [obA o] vs) : ∃ A n c, vs = [objV o (.slice A n c)] ∧ Rd M.F w (.slice A n c) (.row (o.pair.map Ob.enc)) := by
  obtain ⟨u, us, rfl, h1, rfl⟩ := h
  obtain ⟨A, n, c, rfl, h⟩ := h1.obj
  exact ⟨A, n, c, rfl, h⟩
theorem RL.two_obj {M : Mm} {w : World} {o o' : Ob} {vs : List Value} (h : RL M w [obA o, obA o'] vs) : ∃ A n c A' n' c', vs = [objV o (.slice A n c), objV o' (.slice A' n' c')] ∧ Rd M.F w (.slice A n c) (.row (o.pair.map Ob.enc)) ∧ Rd M.F w (.slice A' n' c') (.row (o'.pair.map Ob.enc)) := by
  obtain ⟨u, us, rfl, h1, h2⟩ := h
  obtain ⟨A, n, c, rfl, h⟩ := h1.obj
  obtain ⟨A', n', c', rfl, h'⟩ := RL.one_obj h2
  exact ⟨A, n, c, A', n', c', rfl, h, h'⟩
theorem RL.one_val {M : Mm} {w : World} {u : Value} {vs : List Value} (h : RL M w [.dt (.val u)] vs) : vs = [u] := by
  obtain ⟨x, us, rfl, h1, rfl⟩ := h
  rw [Rd.val_eq h1]
theorem RetObj.pure {ok : Nat → Prop} {r : Ob} {w w' : World} {e : Ending} (h : RetObj ok r w e w') : ∃ v, e = .returned v ∧ Below w.heap.size w w' ∧ RV (M0 fun b => ok b ∨ w.heap.size ≤ b) w' (obA r) v := by
  obtain ⟨A, n, c, rfl, h1, h2⟩ := h
  exact ⟨_, rfl, h2, RV.ofObj h1⟩
theorem RetBel.pure {ok : Nat → Prop} {r : Value} {w w' : World} {e : Ending} (h : RetBel r w e w') : ∃ v, e = .returned v ∧ Below w.heap.size w w' ∧ RV (M0 fun b => ok b ∨ w.heap.size ≤ b) w' (.dt (.val r)) v := by
  obtain ⟨rfl, h2⟩ := h
  exact ⟨_, rfl, h2, .val _⟩
abbrev Fn (f : FuncId) : Prop := ∃ fn, Tryz.prog.funcs[f]? = some fn ∧ fn.body.isNone = false ∧ (fn.name == "runtime.NumGoroutine") = false
theorem pk_ov {f : FuncId} (hf : Fn f) {o : Ob} {r : Value} (h : ∀ (ok : Nat → Prop) (A : Option Addr) (n c : Nat) (w : World), Tab w → Rd ok w (.slice A n c) (.row (o.pair.map Ob.enc)) → Calls Tryz.prog f #[objV o (.slice A n c)] w (RetBel r w)) : Puk f [obA o] (.dt (.val r)) :=
  ⟨hf, fun ok w vs ht hv => by
    obtain ⟨A, n, c, rfl, hr⟩ := hv.one_obj
    exact (h ok A n c w ht.1 hr).mono fun _ _ => RetBel.pure⟩
theorem pk_ooo {f : FuncId} (hf : Fn f) {o o' r : Ob} (h : ∀ (ok : Nat → Prop) (A A' : Option Addr) (n c n' c' : Nat) (w : World), Tab w → Rd ok w (.slice A n c) (.row (o.pair.map Ob.enc)) → Rd ok w (.slice A' n' c') (.row (o'.pair.map Ob.enc)) → Calls Tryz.prog f #[objV o (.slice A n c), objV o' (.slice A' n' c')] w (RetObj ok r w)) : Puk f [obA o, obA o'] (obA r) :=
  ⟨hf, fun ok w vs ht hv => by
    obtain ⟨A, n, c, A', n', c', rfl, hr, hr'⟩ := hv.two_obj
    exact (h ok A A' n c n' c' w ht.1 hr hr').mono fun _ _ => RetObj.pure⟩
theorem pk_oov {f : FuncId} (hf : Fn f) {o o' : Ob} {r : Value} (h : ∀ (ok : Nat → Prop) (A A' : Option Addr) (n c n' c' : Nat) (w : World), Tab w → Rd ok w (.slice A n c) (.row (o.pair.map Ob.enc)) → Rd ok w (.slice A' n' c') (.row (o'.pair.map Ob.enc)) → Calls Tryz.prog f #[objV o (.slice A n c), objV o' (.slice A' n' c')] w (RetBel r w)) : Puk f [obA o, obA o'] (.dt (.val r)) :=
  ⟨hf, fun ok w vs ht hv => by
    obtain ⟨A, n, c, A', n', c', rfl, hr, hr'⟩ := hv.two_obj
    exact (h ok A A' n c n' c' w ht.1 hr hr').mono fun _ _ => RetBel.pure⟩
/-- a function walked -/
theorem pwalk {f : FuncId} {fn : Func} (hf : Tryz.prog.funcs[f]? = some fn) (hn : (fn.name == "runtime.NumGoroutine") = false) {args : List AV} {an : List An} {ls : List LA} {r : AV} {ps : List Prop} (h : afunB EX fn args an ls = some (r, ps)) (hp : AllP ps) : Puk f args r :=
  walkB (E := EX) (fun _ _ h hb => h.below hb) hf hn h hp
theorem twalk {c : Code} {s s' : AS} {an : List An} {ls : List LA} {ft : List Nat} {nb : Nat} {e : AE} {ps : List Prop} (h : acodeF EX c s an ls ft nb = some (e, s', ps)) (hp : AllP ps) : Tri EX c s e s' := tw h hp
theorem fnm {f : FuncId} {fn : Func} (hf : Tryz.prog.funcs[f]? = some fn) (hb : fn.body.isNone = false) (hn : (fn.name == "runtime.NumGoroutine") = false) : Fn f := ⟨fn, hf, hb, hn⟩
theorem Puk.val {f : FuncId} {args : List AV} {a b : AV} (h : Puk f args a) (e : a = b) : Puk f args b := e ▸ h
theorem Puk.b {f : FuncId} {args : List AV} {a b : Bool} (h : Puk f args (boA a)) (e : a = b) : Puk f args (boA b) := e ▸ h
def Tr.isC : Tr → Bool
  | .cons _ _ => true
  | _ => false
abbrev trA (t : Tr) : AV := obA t.ob
abbrev encL (o : Ob) : List Dt := [.val (.int .i64 o.kind), .val (str o.num), .val (str o.den), .val (str o.sp), .val (str o.sn), .val (str o.text), .row (o.pair.map Ob.enc)]
theorem enc_L (o : Ob) : o.enc = encL o := Ob.enc_eq o
theorem ix_obj {l : List Ob} {i : Nat} {o : Ob} (h : l[i]? = some o) : IxAt (l.map Ob.enc) (i : Int) 7 (encL o) := ⟨Int.natCast_nonneg _, by
  rw [Int.toNat_natCast, List.getElem?_map, h]
  exact congrArg some (enc_L o), rfl⟩
theorem RetEq.pure {ok : Nat → Prop} {p : Prop} [Decidable p] {w w' : World} {e : Ending} (h : RetEq p w e w') : ∃ v, e = .returned v ∧ Below w.heap.size w w' ∧ RV (M0 fun b => ok b ∨ w.heap.size ≤ b) w' (boA (decide p)) v := by
  obtain ⟨b, rfl, hb, h2⟩ := h
  refine ⟨_, rfl, h2, ?_⟩
  rw [show decide p = b by cases b <;> simp_all]
  exact .val _
theorem RetEq.iff {p q : Prop} (h : p ↔ q) {w w' : World} {e : Ending} (hr : RetEq p w e w') : RetEq q w e w' := by
  obtain ⟨b, h1, h2, h3⟩ := hr
  exact ⟨b, h1, h2.trans h, h3⟩
theorem RetLeaf.pure {ok : Nat → Prop} {r : Ob} {w w' : World} {e : Ending} (hp : r.pair = []) (h : RetLeaf r w e w') : ∃ v, e = .returned v ∧ Below w.heap.size w w' ∧ RV (M0 fun b => ok b ∨ w.heap.size ≤ b) w' (obA r) v := RetObj.pure (ok := ok) (h.obj hp)
theorem RetNum.pure {ok : Nat → Prop} {q : Rat} {w w' : World} {e : Ending} (h : RetNum q w e w') : ∃ v, e = .returned v ∧ Below w.heap.size w w' ∧ RV (M0 fun b => ok b ∨ w.heap.size ≤ b) w' (trA (.num q)) v := by
  obtain ⟨A, c, rfl, h2⟩ := h
  exact ⟨_, rfl, h2, RV.ofObj (o := ratO q) (.nil _ _)⟩
theorem p_oCons (a d : Ob) : Puk 44 [obA a, obA d] (obA (consO a d)) :=
  pk_ooo (fnm Tryz.func44 rfl (by kernel_rfl)) fun ok A A' n c n' c' w _ h h' => oCons_any ok a d A A' n n' c c' w h h'
theorem p_oEq {k : Nat} {a : Tr} (b : Tr) (ha : a.Ok k) (hk : k ≤ 100000) : Puk 53 [trA a, trA b] (boA (decide (a = b))) :=
  ⟨fnm Tryz.func53 rfl (by kernel_rfl), fun ok w vs ht hv => by
    obtain ⟨A, n, c, A', n', c', rfl, hr, hr'⟩ := hv.two_obj
    exact (oEqual_any ok ok a.ob.size a.ob b.ob (Nat.le_refl _) (ha.wf hk) A A' n n' c c' w hr hr').mono fun e w' h => (RetEq.iff Tr.ob_iff h).pure⟩
theorem p_oValid {k : Nat} {t : Tr} (h : t.Ok k) (hk : k ≤ 100000) : Puk 56 [trA t] (boA t.valid) :=
  pk_ov (fnm Tryz.func56 rfl (by kernel_rfl)) fun ok A n c w ht hr => by
    rw [← Tr.validB_ob]
    exact oValid_any ok t.ob (h.wf hk) (h.sm hk) A n c w ht hr
theorem p_rCons (a d : Ob) : Puk 77 [obA a, obA d] (obA (consO a d)) :=
  pk_ooo (fnm Tryz.func77 rfl (by kernel_rfl)) fun ok A A' n c n' c' w _ h h' => rCons_any ok a d A A' n n' c c' w h h'
theorem p_rEq {k : Nat} {a : Tr} (b : Tr) (ha : a.Ok k) (hk : k ≤ 100000) : Puk 22 [trA a, trA b] (boA (decide (a = b))) :=
  ⟨fnm Tryz.func22 rfl (by kernel_rfl), fun ok w vs ht hv => by
    obtain ⟨A, n, c, A', n', c', rfl, hr, hr'⟩ := hv.two_obj
    exact (rEqual_any ok ok a.ob.size a.ob b.ob (Nat.le_refl _) (ha.wf hk) A A' n n' c c' w hr hr').mono fun e w' h => (RetEq.iff Tr.ob_iff h).pure⟩
theorem p_rLessN {k : Nat} {a b : Tr} (ha : a.Ok k) (hb : b.Ok k) (h1 : 1 ≤ k) (hk : k ≤ 10000) : Puk 110 [trA a, trA b] (boA (decide (a.val < b.val))) :=
  ⟨fnm Tryz.func110 rfl (by kernel_rfl), fun ok w vs ht hv => by
    obtain ⟨A, n, c, A', n', c', rfl, hr, hr'⟩ := hv.two_obj
    have e1 := hr.len
    have e2 := hr'.len
    rw [List.length_map] at e1 e2
    exact (rLess_any a.ob b.ob a.val b.val a.val_ob b.val_ob (ha.val h1) (hb.val h1) hk hk A A' n n' c c' e1 e2 w ht.1).mono fun _ _ => RetBel.pure⟩
theorem p_rValid {k : Nat} {t : Tr} (h : t.Ok k) (hk : k ≤ 100000) : Puk 28 [trA t] (boA t.valid) :=
  pk_ov (fnm Tryz.func28 rfl (by kernel_rfl)) fun ok A n c w ht hr => by
    rw [← Tr.validB_ob]
    exact rValid_any ok t.ob (h.wf hk) (h.sm hk) A n c w hr
theorem p_oInt (n : Int) (h0 : -9223372036854775808 ≤ n) (h1 : n ≤ 9223372036854775807) : Puk 51 [inA n] (trA (.num n)) :=
  ⟨fnm Tryz.func51 rfl (by kernel_rfl), fun ok w vs ht hv => by
    obtain rfl := hv.one_val
    exact (oInt_any n w ht.1 h0 h1).mono fun _ _ h => RetLeaf.pure (r := (Tr.num n).ob) rfl (by
      show RetLeaf (ratO n) _ _ _
      rw [ratO_int]
      exact h)⟩
theorem p_rInt (n : Int) (h0 : -9223372036854775808 ≤ n) (h1 : n ≤ 9223372036854775807) : Puk 27 [inA n] (trA (.num n)) :=
  ⟨fnm Tryz.func27 rfl (by kernel_rfl), fun ok w vs ht hv => by
    obtain rfl := hv.one_val
    exact (rInt_any n w ht.1 h0 h1).mono fun _ _ h => RetLeaf.pure (r := (Tr.num n).ob) rfl h⟩
theorem p_rIsCons (o : Ob) (hn : o.pair.length ≤ 9223372036854775807) : Puk 102 [obA o] (boA (decide (o.kind = 4 ∧ o.pair.length = 2))) :=
  pk_ov (fnm Tryz.func102 rfl (by kernel_rfl)) fun ok A n c w _ hr => by
    have e1 := hr.len
    rw [List.length_map] at e1
    rw [e1]
    exact rIsCons_any o A n c w (by omega)
end Go.Proofs.YtmkcnjfhdfanoaaGreatDoor
/- Operators on plain values. -/
namespace Go.Proofs.YtmkcnjfhdfanoaaGreatDoor
open Go.RowKit

theorem strs_app (a b : List UInt8) : (⟨a.toArray⟩ : ByteArray) ++ ⟨b.toArray⟩ = ⟨(a ++ b).toArray⟩ := by
  apply ByteArray.ext
  rw [ByteArray.data_append]
  simp
theorem bin_strs {P : Program} {t : TypeId} {x y : Operand} {a b : List UInt8} (h : a.length + b.length ≤ 9223372036854775807) : BinIs P .add t x y (str a) (str b) (str (a ++ b)) := by
  have := bin_cat (P := P) (t := t) (x := x) (y := y) (a := ⟨a.toArray⟩) (b := ⟨b.toArray⟩) (by
    show ((a.toArray.size + b.toArray.size : Nat) : Int) ≤ 9223372036854775807
    simp only [List.size_toArray]
    omega)
  rw [strs_app] at this
  exact this
theorem toList_str (a : List UInt8) : (⟨a.toArray⟩ : ByteArray).toList = a := by
  rw [Lib.toList_data]
theorem eqD {α : Type} [BEq α] [LawfulBEq α] [DecidableEq α] (a b : α) : (a == b) = decide (a = b) := by
  by_cases h : a = b <;> simp [h]
theorem bin_seq {P : Program} {t : TypeId} {x y : Operand} {a b : List UInt8} {r : Bool} (h : decide (a = b) = r) : BinIs P .eql t x y (str a) (str b) (.bool r) := by
  refine sbin_is ?_
  show some (Value.bool (a == b)) = _
  rw [← h, eqD a b]
theorem bin_sne {P : Program} {t : TypeId} {x y : Operand} {a b : List UInt8} {r : Bool} (h : decide (a = b) = !r) : BinIs P .neq t x y (str a) (str b) (.bool r) := by
  refine sbin_is ?_
  show some (Value.bool !(a == b)) = _
  rw [eqD a b, h, Bool.not_not]
theorem bin_ieq {P : Program} {t : TypeId} {x y : Operand} {k : IntKind} {a b : Int} {r : Bool} (h : decide (a = b) = r) : BinIs P .eql t x y (.int k a) (.int k b) (.bool r) := by
  refine sbin_is ?_
  simp only [sbin, decide_true]
  rw [eqD a b, h]
theorem bin_ilt {P : Program} {t : TypeId} {x y : Operand} {k : IntKind} {a b : Int} {r : Bool} (h : decide (a < b) = r) : BinIs P .lss t x y (.int k a) (.int k b) (.bool r) := by
  refine sbin_is ?_
  simp only [sbin, decide_true]
  rw [h]
theorem bin_igt {P : Program} {t : TypeId} {x y : Operand} {k : IntKind} {a b : Int} {r : Bool} (h : decide (b < a) = r) : BinIs P .gtr t x y (.int k a) (.int k b) (.bool r) := by
  refine sbin_is ?_
  simp only [sbin, decide_true, gt_iff_lt]
  rw [h]
theorem bin_ige {P : Program} {t : TypeId} {x y : Operand} {k : IntKind} {a b : Int} {r : Bool} (h : decide (b ≤ a) = r) : BinIs P .geq t x y (.int k a) (.int k b) (.bool r) := by
  refine sbin_is ?_
  simp only [sbin, decide_true, ge_iff_le]
  rw [h]
theorem bin_iadd {P : Program} {t : TypeId} {x y : Operand} {a b c : Int} (h : a + b = c) (h0 : -9223372036854775808 ≤ c) (h1 : c ≤ 9223372036854775807) : BinIs P .add t x y (.int .i64 a) (.int .i64 b) (.int .i64 c) := by
  refine sbin_is ?_
  simp only [sbin, decide_true]
  rw [h, show IntKind.i64.wrap c = c by rw [IntKind.wrap_i64]; omega]
theorem bin_isub {P : Program} {t : TypeId} {x y : Operand} {a b c : Int} (h : a - b = c) (h0 : -9223372036854775808 ≤ c) (h1 : c ≤ 9223372036854775807) : BinIs P .sub t x y (.int .i64 a) (.int .i64 b) (.int .i64 c) := by
  refine sbin_is ?_
  simp only [sbin, decide_true]
  rw [h, show IntKind.i64.wrap c = c by rw [IntKind.wrap_i64]; omega]
theorem run_equal_bool {P : Program} {t : TypeId} (hu : P.underlying t = some .bool) (a b : Bool) (w : World) : (Op.equal t (.bool a) (.bool b)).run P w = .ok (a == b) w := by
  show (Op.equalIn (9999 + 1) t (.bool a) (.bool b)).run P w = _
  rw [Op.equalIn]
  simp only [Sem.run_bind, run_underlying hu, Result.andThen, Sem.run_pure]
theorem bin_beq {P : Program} {t : TypeId} {x y : Operand} {a b r : Bool} (hu : P.underlying t = some .bool) (h : (a == b) = r) : BinIs P .eql t x y (.bool a) (.bool b) (.bool r) := by
  intro w
  rw [← h]
  have e : (Op.equal t (.bool a) (.bool b)).run P w = .ok (a == b) w := run_equal_bool hu a b w
  simp only [eqGuard, binOp, Sem.run_bind, Result.andThen, Bool.not_true, Bool.false_eq_true, if_false, Sem.run_pure]
  rw [e]
  all_goals rfl
end Go.Proofs.YtmkcnjfhdfanoaaGreatDoor
/- The names of the primitives, as bytes. -/
namespace Go.Proofs.YtmkcnjfhdfanoaaGreatDoor
open Go.RowKit

abbrev syA (p n : List UInt8) : AV := .agg [stA p, stA n]
abbrev namesB : List UInt8 := [105, 102, 32, 51, 32, 101, 113, 117, 97, 108, 32, 50, 32, 99, 111, 110, 115, 32, 50, 32, 99, 97, 114, 32, 49, 32, 99, 100, 114, 32, 49, 32, 99, 111, 110, 115, 112, 32, 49, 32, 115, 121, 109, 98, 111, 108, 112, 32, 49, 32, 115, 116, 114, 105, 110, 103, 112, 32, 49, 32, 114, 97, 116, 105, 111, 110, 97, 108, 112, 32, 49, 32, 105, 110, 116, 101, 103, 101, 114, 112, 32, 49, 32, 98, 105, 110, 97, 114, 121, 45, 43, 32, 50, 32, 98, 105, 110, 97, 114, 121, 45, 42, 32, 50, 32, 117, 110, 97, 114, 121, 45, 45, 32, 49, 32, 117, 110, 97, 114, 121, 45, 47, 32, 49, 32, 60, 32, 50, 32, 110, 117, 109, 101, 114, 97, 116, 111, 114, 32, 49, 32, 100, 101, 110, 111, 109, 105, 110, 97, 116, 111, 114, 32, 49, 32, 102, 108, 111, 111, 114, 32, 49, 32, 115, 121, 109, 98, 111, 108, 45, 110, 97, 109, 101, 32, 49, 32, 115, 121, 109, 98, 111, 108, 45, 112, 97, 99, 107, 97, 103, 101, 45, 110, 97, 109, 101, 32, 49, 32, 105, 110, 116, 101, 114, 110, 32, 50, 32, 115, 116, 114, 105, 110, 103, 45, 97, 112, 112, 101, 110, 100, 32, 50, 32, 115, 116, 114, 105, 110, 103, 45, 108, 101, 110, 103, 116, 104, 32, 49, 32, 115, 116, 114, 105, 110, 103, 45, 98, 121, 116, 101, 32, 50, 32, 98, 121, 116, 101, 45, 115, 116, 114, 105, 110, 103, 32, 49]
abbrev wordL : List (List UInt8) := [[105, 102], [51], [101, 113, 117, 97, 108], [50], [99, 111, 110, 115], [50], [99, 97, 114], [49], [99, 100, 114], [49], [99, 111, 110, 115, 112], [49], [115, 121, 109, 98, 111, 108, 112], [49], [115, 116, 114, 105, 110, 103, 112], [49], [114, 97, 116, 105, 111, 110, 97, 108, 112], [49], [105, 110, 116, 101, 103, 101, 114, 112], [49], [98, 105, 110, 97, 114, 121, 45, 43], [50], [98, 105, 110, 97, 114, 121, 45, 42], [50], [117, 110, 97, 114, 121, 45, 45], [49], [117, 110, 97, 114, 121, 45, 47], [49], [60], [50], [110, 117, 109, 101, 114, 97, 116, 111, 114], [49], [100, 101, 110, 111, 109, 105, 110, 97, 116, 111, 114], [49], [102, 108, 111, 111, 114], [49], [115, 121, 109, 98, 111, 108, 45, 110, 97, 109, 101], [49], [115, 121, 109, 98, 111, 108, 45, 112, 97, 99, 107, 97, 103, 101, 45, 110, 97, 109, 101], [49], [105, 110, 116, 101, 114, 110], [50], [115, 116, 114, 105, 110, 103, 45, 97, 112, 112, 101, 110, 100], [50], [115, 116, 114, 105, 110, 103, 45, 108, 101, 110, 103, 116, 104], [49], [115, 116, 114, 105, 110, 103, 45, 98, 121, 116, 101], [50], [98, 121, 116, 101, 45, 115, 116, 114, 105, 110, 103], [49]]
abbrev wrow (w : List UInt8) : List Dt := [.val (str w)]
/-- the primitives: name and arity -/
abbrev primL : List (List UInt8 × Nat) := [([105, 102], 3), ([101, 113, 117, 97, 108], 2), ([99, 111, 110, 115], 2), ([99, 97, 114], 1), ([99, 100, 114], 1), ([99, 111, 110, 115, 112], 1), ([115, 121, 109, 98, 111, 108, 112], 1), ([115, 116, 114, 105, 110, 103, 112], 1), ([114, 97, 116, 105, 111, 110, 97, 108, 112], 1), ([105, 110, 116, 101, 103, 101, 114, 112], 1), ([98, 105, 110, 97, 114, 121, 45, 43], 2), ([98, 105, 110, 97, 114, 121, 45, 42], 2), ([117, 110, 97, 114, 121, 45, 45], 1), ([117, 110, 97, 114, 121, 45, 47], 1), ([60], 2), ([110, 117, 109, 101, 114, 97, 116, 111, 114], 1), ([100, 101, 110, 111, 109, 105, 110, 97, 116, 111, 114], 1), ([102, 108, 111, 111, 114], 1), ([115, 121, 109, 98, 111, 108, 45, 110, 97, 109, 101], 1), ([115, 121, 109, 98, 111, 108, 45, 112, 97, 99, 107, 97, 103, 101, 45, 110, 97, 109, 101], 1), ([105, 110, 116, 101, 114, 110], 2), ([115, 116, 114, 105, 110, 103, 45, 97, 112, 112, 101, 110, 100], 2), ([115, 116, 114, 105, 110, 103, 45, 108, 101, 110, 103, 116, 104], 1), ([115, 116, 114, 105, 110, 103, 45, 98, 121, 116, 101], 2), ([98, 121, 116, 101, 45, 115, 116, 114, 105, 110, 103], 1)]
abbrev srow (x : List UInt8 × Nat) : List Dt := [.val (str lispB), .val (str x.1)]
abbrev rrow (x : List UInt8 × Nat) : List Dt := [.val (str x.1), .val (.int .i64 x.2)]
def pickN (n : Int) : List UInt8 × Nat := primL.getD (n % 25).toNat ([], 0)
end Go.Proofs.YtmkcnjfhdfanoaaGreatDoor
/- strings.Fields: the states of its loops. -/
namespace Go.Proofs.YtmkcnjfhdfanoaaGreatDoor
open Go.RowKit

def or8 (a b : Int) : Int := IntKind.u8.wrap (BitVec.ofInt IntKind.u8.bits a ||| BitVec.ofInt IntKind.u8.bits b).toNat
abbrev st1 (i : Nat) (n ws bt : Int) : AS := ⟨stt 106 [(0, stA namesB), (2, .nil), (3, inA n), (4, inA ws), (5, .dt (.val (.int .u8 bt))), (6, inA i)], []⟩
abbrev st1x (n ws bt : Int) : AS := ⟨stt 106 [(0, stA namesB), (2, .nil), (3, inA n), (4, inA ws), (5, .dt (.val (.int .u8 bt)))], []⟩
noncomputable abbrev bd1 : Code := subC (bodyOf Tryz.f41) [1, 1, 1, 1, 0, 1, 0, 0]
noncomputable abbrev bd3 : Code := subC (bodyOf Tryz.f41) [1, 1, 1, 1, 1, 1, 1, 1, 1, 1, 1, 1, 0, 0, 0]
abbrev rowsF (ws : List (List UInt8)) : Bx := .rws 9 1 (ws.map wrow)
abbrev st3 (i n f : Nat) (ws : List (List UInt8)) : AS := ⟨stt 106 [(0, stA namesB), (2, .nil), (9, .sl 0 50), (10, inA n), (11, inA f), (12, inA i)], [some (rowsF ws)]⟩
abbrev st3x (n f : Nat) (ws : List (List UInt8)) : AS := ⟨stt 106 [(0, stA namesB), (2, .nil), (9, .sl 0 50), (10, inA n), (11, inA f)], [some (rowsF ws)]⟩
end Go.Proofs.YtmkcnjfhdfanoaaGreatDoor
