/- A region that draws its order and only reads or makes memory (loads, calls, tests; at most one store, its last operation): one walk over the operations, whatever the order. -/
import Derived.Test.YtgphkgmhcmffnaaGreatDoorAsg
namespace Go.Proofs.YtgphkgmhcmffnaaGreatDoor
open Go.RowKit

theorem frame_old {ds : List Nat} {base : Act} {u : Nat → Value} {d : Nat} {v : Value} (h : base.tmps[d]? = some v) (hd : ds.contains d = false) : (frame ds base u).eval (.tmp d) = v := by
  have hd' : d ∉ ds := fun hm => by rw [List.contains_iff_mem.2 hm] at hd; cases hd
  simp [frame, Act.eval, hd', h]
theorem frame_new {ds : List Nat} {base : Act} {u : Nat → Value} {d n : Nat} (h : base.tmps.size = n) (hd : (ds.contains d && decide (d < n)) = true) : (frame ds base u).eval (.tmp d) = u d := by
  rw [Bool.and_eq_true, decide_eq_true_eq] at hd
  exact frame_eval (List.contains_iff_mem.1 hd.1) (by omega)
def waits (ops : Array Oper) (i : Nat) : List Nat :=
  match ops[i]? with
  | some o => (o.after.toList.filter (Region.binds .any)).map (·.on)
  | none => []
theorem mem_waits {ops : Array Oper} {i j : Nat} {o : Oper} (ho : ops[i]? = some o) : j ∈ waits ops i ↔ ∃ e ∈ o.after, Region.binds .any e = true ∧ e.on = j := by
  unfold waits
  rw [ho]
  simp only [List.mem_map, List.mem_filter, Array.mem_toList_iff]
  exact ⟨fun ⟨e, h1, h2⟩ => ⟨e, h1.1, h1.2, h2⟩, fun ⟨e, h1, h2, h3⟩ => ⟨e, ⟨h1, h2⟩, h3⟩⟩
def backA (ops : Array Oper) : Bool := (List.range ops.size).all fun i => match ops[i]? with | some o => o.after.all fun e => decide (e.on < i) | none => true
theorem backA_spec {ops : Array Oper} (h : backA ops = true) (i : Nat) (o : Oper) (ho : ops[i]? = some o) : ∀ e ∈ o.after, e.on < i := by
  unfold backA at h
  rw [List.all_eq_true] at h
  have := h i (List.mem_range.2 (Array.getElem?_eq_some_iff.1 ho).1)
  rw [ho] at this
  simp only [Array.all_eq_true_iff_forall_mem, decide_eq_true_eq] at this
  exact this
/-- the shape: the first n operations fill the slots sl, wait for dep; a last one waits for all -/
def xpB (ops : Array Oper) (n : Nat) (sl : List Nat) (dep : List (List Nat)) : Bool :=
  backA ops && sl.length == n && dep.length == n && decide sl.Nodup && decide (n ≤ ops.size) &&
  ((List.range n).all fun i => (match ops[i]? with | some o => o.dst == some (sl.getD i 0) | none => false) && (dep.getD i []).all fun j => decide (j < i) && (waits ops i).contains j) &&
  (ops.size == n || (ops.size == n + 1 && (List.range n).all fun i => (List.range (n + 1)).any fun j => decide (i < j) && (waits ops j).contains i))
structure XpI (n : Nat) (sl : List Nat) (wn : Nat → Bool) (S : Nat → World → Value → Prop) (w0 : World) (ops : Array Oper) (D : Nat → Prop) (u : Nat → Value) (w : World) : Prop where
  below : Below w0.heap.size w0 w
  clo : ∀ i, D i → ∀ j ∈ waits ops i, D j
  yes : ∀ i, i < n → D i → wn i = true → S i w (u (sl.getD i 0))
  no : ∀ i, i < n → D i → wn i = false → u (sl.getD i 0) = undef
theorem xp_region {P : Program} {ops : Array Oper} {Q : Exit → Act → World → Prop} {base : Act} {w0 : World} (n : Nat) (sl : List Nat) (dep : List (List Nat)) (wn : Nat → Bool) (S : Nat → World → Value → Prop)
    (hB : xpB ops n sl dep = true) (hsz : ∀ x ∈ sl, x < base.tmps.size)
    (hS : ∀ i w w' v, S i w v → Below w.heap.size w w' → S i w' v)
    (hguard : ∀ i o, i < n → ops[i]? = some o → (o.guard = none ∧ wn i = true) ∨ ∃ g b c, o.guard = some (g, b) ∧ g ∈ dep.getD i [] ∧ (∀ w v, S g w v → v = .bool c) ∧ wn i = (wn g && (c == b)))
    (step : ∀ i o, i < n → ops[i]? = some o → ∀ u w, Below w0.heap.size w0 w → (∀ j ∈ dep.getD i [], wn j = true → S j w (u (sl.getD j 0))) → wn i = true → o.wp P (frame sl base u) w (fun a' w' => ∃ v, a' = (frame sl base u).put o.dst v ∧ Below w.heap.size w w' ∧ S i w' v) Q)
    (fin : ∀ u w, Below w0.heap.size w0 w → (∀ i, i < n → wn i = true → S i w (u (sl.getD i 0))) → (ops.size = n → Q .normal (frame sl base u) w) ∧ ∀ o, ops[n]? = some o → o.guard = none ∧ o.wp P (frame sl base u) w (Q .normal) Q) :
    wpAny P .any ops Q ops.size (Array.replicate ops.size false) base w0 := by
  unfold xpB at hB
  simp only [Bool.and_eq_true, beq_iff_eq, decide_eq_true_eq, List.all_eq_true, List.mem_range, Bool.or_eq_true] at hB
  obtain ⟨⟨⟨⟨⟨⟨hback, hl1⟩, hl2⟩, hnd⟩, hn⟩, hops⟩, hlast⟩ := hB
  have hdst : ∀ i o, i < n → ops[i]? = some o → o.dst = some (sl.getD i 0) := fun i o hi ho => by
    have := (hops i hi).1
    rw [ho] at this
    simpa using this
  have hdep : ∀ i, i < n → ∀ j ∈ dep.getD i [], j < i ∧ j ∈ waits ops i := fun i hi j hj => by
    have := (hops i hi).2 j hj
    simpa using this
  have hmem : ∀ i, i < n → sl.getD i 0 ∈ sl := fun i hi => by
    have h : i < sl.length := by omega
    simp [h]
  have hinj : ∀ i j, i < n → j < n → sl.getD i 0 = sl.getD j 0 → i = j := fun i j hi hj h => by
    have h1 : i < sl.length := by omega
    have h2 : j < sl.length := by omega
    simp only [List.getD_eq_getElem?_getD, List.getElem?_eq_getElem h1, List.getElem?_eq_getElem h2, Option.getD_some] at h
    refine (List.getElem?_inj h1 hnd).1 ?_
    rw [List.getElem?_eq_getElem h1, List.getElem?_eq_getElem h2, h]
  refine wpAny_inv (md := .any) (fun listed a w => (∃ u, a = frame sl base u ∧ (¬ listed.getD n false = true) ∧ XpI n sl wn S w0 ops (fun i => listed.getD i false = true) u w) ∨ ((∀ i, i < ops.size → listed.getD i false = true) ∧ Q .normal a w)) (fun i o ho => backA_spec hback i o ho) ?_ ?_ _ _ _ _ (by simp) (by simp [List.countP_replicate]) ?_
  · intro listed a w i hI hs hr
    rw [mem_ready] at hr
    obtain ⟨h0, o, ho, hafter⟩ := hr
    have hlt := (Array.getElem?_eq_some_iff.1 ho).1
    have hD0 : ¬ listed.getD i false = true := by
      have hlt' : i < listed.size := by omega
      simp [hlt'] at h0 ⊢
      exact h0
    rcases hI with ⟨u, rfl, hln, hI⟩ | ⟨hall, _⟩
    case inr => exact absurd (hall i hlt) hD0
    have hset : (listed.setIfInBounds i true).getD i false = true := by
      have hlt' : i < listed.size := by omega
      simp [hlt']
    have hup : ∀ j, listed.getD j false = true → (listed.setIfInBounds i true).getD j false = true := fun j h => getD_set_true h
    have hdn : ∀ j, (listed.setIfInBounds i true).getD j false = true → j = i ∨ listed.getD j false = true := fun j h => getD_upd h
    have hw8 : ∀ j ∈ waits ops i, listed.getD j false = true := fun j hj => by
      obtain ⟨e, he, hb, rfl⟩ := (mem_waits ho).1 hj
      exact hafter e he hb
    by_cases hin : i < n
    · -- an operation of the expression
      have hdeps : ∀ j ∈ dep.getD i [], wn j = true → S j w (u (sl.getD j 0)) := fun j hj hw => hI.yes j (by have := (hdep i hin j hj).1; omega) (hw8 j (hdep i hin j hj).2) hw
      have hwant : Region.wanted o (yielded ops (frame sl base u).tmps) = wn i := by
        rcases hguard i o hin ho with ⟨h1, h2⟩ | ⟨g, b, c, h1, h2, h3, h4⟩
        · rw [h2]; unfold Region.wanted; rw [h1]
        · have hg := hdep i hin g h2
          have hgn : g < n := by omega
          have hgl := hw8 g hg.2
          have hgo : ∃ og, ops[g]? = some og := ⟨ops[g]'(by omega), Array.getElem?_eq_getElem (by omega)⟩
          obtain ⟨og, hog⟩ := hgo
          have h5 : (frame sl base u).tmps[sl.getD g 0]? = some (u (sl.getD g 0)) := by
            have := hsz _ (hmem g hgn)
            unfold frame
            simp only [Array.getElem?_mapIdx]
            rw [Array.getElem?_eq_getElem this]
            simp only [Option.map_some, if_pos (hmem g hgn)]
          have hyT : ∀ c, u (sl.getD g 0) = .bool c → yielded ops (frame sl base u).tmps g = some c := fun c hc => by
            unfold yielded
            rw [hog]
            simp only [Option.bind_some, hdst g og hgn hog, h5, hc]
          have hyF : u (sl.getD g 0) = undef → yielded ops (frame sl base u).tmps g = none := fun hc => by
            unfold yielded
            rw [hog]
            simp only [Option.bind_some, hdst g og hgn hog, h5, hc]
            rfl
          unfold Region.wanted
          rw [h1]
          cases hwg : wn g with
          | true =>
            simp only [hyT c (h3 _ _ (hI.yes g hgn hgl hwg)), h4, hwg, Bool.true_and]
            cases c <;> cases b <;> rfl
          | false =>
            simp only [hyF (hI.no g hgn hgl hwg), h4, hwg]
            rfl
      have key : ∀ v w', Below w.heap.size w w' → (wn i = true → S i w' v) → (wn i = false → v = undef) → ∃ u', (frame sl base u).put o.dst v = frame sl base u' ∧ (¬ (listed.setIfInBounds i true).getD n false = true) ∧ XpI n sl wn S w0 ops (fun i' => (listed.setIfInBounds i true).getD i' false = true) u' w' := by
        intro v w' hb' hv1 hv2
        refine ⟨upd u (sl.getD i 0) v, by rw [hdst i o hin ho, frame_put (hmem i hin)], fun h => ?_, ?_⟩
        · rcases hdn n h with e | e
          · omega
          · exact hln e
        · refine ⟨then_ hI.below hb', fun k hk j hj => ?_, fun k hk hD hw => ?_, fun k hk hD hw => ?_⟩
          · rcases hdn k hk with rfl | e
            · exact hup j (hw8 j hj)
            · exact hup j (hI.clo k e j hj)
          · by_cases e : k = i
            · subst e; rw [upd_same]; exact hv1 hw
            · rw [upd_ne (fun h => e (hinj k i hk hin h))]
              exact hS _ _ _ _ (hI.yes k hk ((hdn k hD).resolve_left e) hw) hb'
          · by_cases e : k = i
            · subst e; rw [upd_same]; exact hv2 hw
            · rw [upd_ne (fun h => e (hinj k i hk hin h))]
              exact hI.no k hk ((hdn k hD).resolve_left e) hw
      unfold wpOp
      simp only [ho, hwant]
      cases hw : wn i with
      | true =>
        simp only [if_true]
        left
        refine Oper.wp_mono ?_ (step i o hin ho u w hI.below hdeps hw)
        rintro a' w' ⟨v, rfl, hb', hv⟩
        exact .inl (key v w' hb' (fun _ => hv) (fun h => by rw [hw] at h; cases h))
      | false =>
        simp only [Bool.false_eq_true, if_false]
        exact .inl (key undef w (Below.refl _ _) (fun h => by rw [hw] at h; cases h) (fun _ => rfl))
    · -- the last operation
      rcases hlast with hlast | ⟨hl, hsucc⟩
      · omega
      obtain rfl : i = n := by omega
      have hT : ∀ k, k ≤ i → ∀ j, j = i - k → j < i → listed.getD j false = true := by
        intro k
        induction k using Nat.strongRecOn with
        | _ k ih =>
          intro hk j hj hji
          have := hsucc j hji
          rw [List.any_eq_true] at this
          obtain ⟨m, hm, h2⟩ := this
          simp only [List.mem_range, Bool.and_eq_true, decide_eq_true_eq, List.contains_iff_mem] at hm h2
          by_cases hmi : m = i
          · subst hmi; exact hw8 j h2.2
          · exact hI.clo m (ih (i - m) (by omega) (by omega) m (by omega) (by omega)) j h2.2
      have hall : ∀ j, j < i → listed.getD j false = true := fun j hj => hT (i - j) (by omega) j (by omega) hj
      obtain ⟨_, hf⟩ := fin u w hI.below (fun j hj hw => hI.yes j hj (hall j hj) hw)
      obtain ⟨hg, hf⟩ := hf o ho
      have hwant : Region.wanted o (yielded ops (frame sl base u).tmps) = true := by unfold Region.wanted; rw [hg]
      unfold wpOp
      simp only [ho, hwant, if_true]
      left
      refine Oper.wp_mono ?_ hf
      intro a' w' hq
      refine .inr ⟨fun j hj => ?_, hq⟩
      by_cases e : j = i
      · subst e; exact hset
      · exact hup j (hall j (by omega))
  · intro listed a w hI hall
    rcases hI with ⟨u, rfl, hln, hI⟩ | ⟨_, hq⟩
    · have hsn : ops.size = n := by
        rcases hlast with h | ⟨h, _⟩
        · exact h
        · exact absurd (hall n (by omega)) hln
      exact (fin u w hI.below (fun j hj hw => hI.yes j hj (hall j (by omega)) hw)).1 hsn
    · exact hq
  · refine .inl ⟨fun i => base.tmps.getD i undef, frame_base.symm, ?_, ?_⟩
    · by_cases h : n < ops.size <;> simp [h]
    · have hno : ∀ i, ¬ (Array.replicate ops.size false).getD i false = true := fun i => by
        by_cases h : i < ops.size <;> simp [h]
      exact ⟨Below.refl _ _, fun i h => absurd h (hno _), fun i _ h => absurd h (hno _), fun i _ h => absurd h (hno _)⟩
end Go.Proofs.YtgphkgmhcmffnaaGreatDoor
