/- A region that draws its order and assigns several struct variables at once ('x, y := f(a), g(b)'): loads, calls, allocations and stores, in whatever order. -/
import Derived.Test.YtgphkgmhcmffnaaGreatDoorJP
import Derived.Orders
namespace Go.Proofs.YtgphkgmhcmffnaaGreatDoor
open Go.RowKit

/-- an invariant over all orders: each operation that may come up keeps it -/
theorem wpAny_inv {P : Program} {ops : Array Oper} {Q : Exit → Act → World → Prop} {md : Region.Mode} (I : Array Bool → Act → World → Prop)
    (back : ∀ (i : Nat) (o : Oper), ops[i]? = some o → ∀ e ∈ o.after, e.on < i)
    (step : ∀ listed a w i, I listed a w → listed.size = ops.size → i ∈ Region.ready md ops listed → wpOp P ops Q i (I (listed.setIfInBounds i true)) a w)
    (done : ∀ listed a w, I listed a w → (∀ i, i < ops.size → listed.getD i false = true) → Q .normal a w) :
    ∀ (fuel : Nat) (listed : Array Bool) (a : Act) (w : World), listed.size = ops.size → listed.toList.countP (fun b => !b) ≤ fuel → I listed a w → wpAny P md ops Q fuel listed a w := by
  have full : ∀ listed : Array Bool, listed.size = ops.size → Region.ready md ops listed = [] → ∀ i, i < ops.size → listed.getD i false = true := by
    intro listed hs hr i
    induction i using Nat.strongRecOn with
    | _ i ih =>
      intro hi
      rcases hb : listed.getD i false with _ | _
      · exfalso
        have hmem : i ∈ Region.ready md ops listed := by
          rw [mem_ready]
          refine ⟨?_, ops[i], Array.getElem?_eq_getElem hi, fun e he _ => ?_⟩
          · have hlt : i < listed.size := by omega
            simpa [hlt] using hb
          · have := back i _ (Array.getElem?_eq_getElem hi) e he
            exact ih e.on this (by omega)
        rw [hr] at hmem
        cases hmem
      · rfl
  intro fuel
  induction fuel with
  | zero =>
    intro listed a w hs hc hI
    have hall : ∀ i, i < ops.size → listed.getD i false = true := by
      intro i hi
      have h0 : listed.toList.countP (fun b => !b) = 0 := by omega
      rw [List.countP_eq_zero] at h0
      have hlt : i < listed.size := by omega
      have := h0 listed[i] (by simp)
      simpa [hlt] using this
    have hr : Region.ready md ops listed = [] := by
      cases hr : Region.ready md ops listed with
      | nil => rfl
      | cons x xs =>
        have hx : x ∈ Region.ready md ops listed := by rw [hr]; exact List.mem_cons_self ..
        rw [mem_ready] at hx
        obtain ⟨h0, o, ho, _⟩ := hx
        have hlt := (Array.getElem?_eq_some_iff.1 ho).1
        have := hall x hlt
        have hlt' : x < listed.size := by omega
        simp [hlt'] at h0 this
        rw [h0] at this
        cases this
    exact ⟨hr, done _ _ _ hI hall⟩
  | succ fuel ih =>
    intro listed a w hs hc hI
    refine ⟨fun hr => done _ _ _ hI (full listed hs hr), fun i hi => ?_⟩
    refine wpOp_mono (fun a' w' hI' => ?_) (step listed a w i hI hs hi)
    refine ih _ _ _ (by simp [hs]) ?_ hI'
    rw [mem_ready] at hi
    obtain ⟨h0, o, ho, _⟩ := hi
    have hlt : i < listed.size := by rw [hs]; exact (Array.getElem?_eq_some_iff.1 ho).1
    have hf : listed[i] = false := by simpa [hlt] using h0
    have hl : listed.toList = listed.toList.take i ++ false :: listed.toList.drop (i + 1) := by
      have h1 : i < listed.toList.length := by simpa using hlt
      conv => lhs; rw [← List.take_append_drop i listed.toList, List.drop_eq_getElem_cons h1]
      simp [hf]
    have hl' : (listed.setIfInBounds i true).toList = listed.toList.take i ++ true :: listed.toList.drop (i + 1) := by
      have h1 : i < listed.toList.length := by simpa using hlt
      rw [Array.toList_setIfInBounds, List.set_eq_take_append_cons_drop, if_pos h1]
    rw [hl] at hc
    rw [hl']
    simp only [List.countP_append, List.countP_cons, Bool.not_false, Bool.not_true, if_true, Bool.false_eq_true, if_false] at hc ⊢
    omega

/-- a frame, some slots of which are given anew -/
def frame (ds : List Nat) (base : Act) (u : Nat → Value) : Act := { tmps := base.tmps.mapIdx (fun i x => if i ∈ ds then u i else x), defers := base.defers }
def upd (u : Nat → Value) (d : Nat) (v : Value) : Nat → Value := fun i => if i = d then v else u i
theorem upd_same (u : Nat → Value) (d : Nat) (v : Value) : upd u d v d = v := if_pos rfl
theorem upd_ne {u : Nat → Value} {d i : Nat} {v : Value} (h : i ≠ d) : upd u d v i = u i := if_neg h
theorem frame_put {ds : List Nat} {base : Act} {u : Nat → Value} {d : Nat} {v : Value} (hd : d ∈ ds) : (frame ds base u).put (some d) v = frame ds base (upd u d v) := by
  unfold frame Act.put
  simp only [Act.mk.injEq, and_true]
  apply Array.ext_getElem?
  intro i
  by_cases hi : i = d
  · subst hi
    by_cases hs : i < base.tmps.size
    · simp [hs, hd, upd_same]
    · simp [hs]
  · rw [Array.getElem?_setIfInBounds_ne (Ne.symm hi)]
    simp [upd_ne hi]
theorem frame_eval {ds : List Nat} {base : Act} {u : Nat → Value} {d : Nat} (hd : d ∈ ds) (hs : d < base.tmps.size) : (frame ds base u).eval (.tmp d) = u d := by
  simp [frame, Act.eval, hd, hs]
theorem frame_base {ds : List Nat} {base : Act} : frame ds base (fun i => base.tmps.getD i undef) = base := by
  unfold frame
  cases base with
  | mk t d =>
    simp only [Act.mk.injEq, and_true]
    apply Array.ext
    · simp
    · intro i h1 h2
      simp [h2]

section
variable {P : Program} {ops : Array Oper} {Q : Exit → Act → World → Prop}
/-- what is known of the region -/
structure Asg (P : Program) (ops : Array Oper) (Q : Exit → Act → World → Prop) (k : Nat) (iL iC iA iS sl sc sx : Nat → Nat) (ds : List Nat) (base : Act) (w0 : World) (T : TypeId) (vl : Nat → Value) (z : Array Value)
    (G : Nat → (Nat → Prop) → World → Value → Prop) (St : World → Nat → Value → World) (C : Value → Array Value) : Prop where
  back : ∀ (i : Nat) (o : Oper), ops[i]? = some o → ∀ e ∈ o.after, e.on < i
  cover : ∀ i, i < ops.size → ∃ j, j < k ∧ (i = iL j ∨ i = iC j ∨ i = iA j ∨ i = iS j)
  noGuard : ∀ (i : Nat) (o : Oper), ops[i]? = some o → o.guard = none
  dstL : ∀ j, j < k → ∃ o : Oper, ops[iL j]? = some o ∧ o.dst = some (sl j) ∧ ∀ u w, Below w0.heap.size w0 w → (execOp (frame ds base u).eval o).run P w = .ok (.value (vl j)) w
  dstC : ∀ j, j < k → ∃ o : Oper, ops[iC j]? = some o ∧ o.dst = some (sc j) ∧ (∃ e ∈ o.after, Region.binds .any e = true ∧ e.on = iL j) ∧
    ∀ u w K, Below w0.heap.size w0 w → u (sl j) = vl j → (∀ v w', Below w.heap.size w w' → G j (fun b => w.heap.size ≤ b) w' v → K ((frame ds base u).put o.dst v) w') → o.wp P (frame ds base u) w K Q
  dstA : ∀ j, j < k → ∃ o : Oper, ops[iA j]? = some o ∧ o.dst = some (sx j) ∧ ∀ u w, (execOp (frame ds base u).eval o).run P w = .ok (.value (.pointer (some ⟨w.heap.size, 0, none⟩))) (w.alloc (.cells z T))
  dstS : ∀ j, j < k → ∃ o : Oper, ops[iS j]? = some o ∧ o.dst = none ∧ (∃ e ∈ o.after, Region.binds .any e = true ∧ e.on = iA j) ∧ (∃ e ∈ o.after, Region.binds .any e = true ∧ e.on = iC j) ∧
    ∀ u w g ok, u (sx j) = .pointer (some ⟨g, 0, none⟩) → BlkIs w g T z → G j ok w (u (sc j)) → (execOp (frame ds base u).eval o).run P w = .ok .skip (St w g (u (sc j)))
  inj : ∀ i j, i < k → j < k → (iL i = iL j → i = j) ∧ (iC i = iC j → i = j) ∧ (iA i = iA j → i = j) ∧ (iS i = iS j → i = j) ∧ iL i ≠ iC j ∧ iL i ≠ iA j ∧ iL i ≠ iS j ∧ iC i ≠ iA j ∧ iC i ≠ iS j ∧ iA i ≠ iS j
  slots : ∀ i j, i < k → j < k → (sl i = sl j → i = j) ∧ (sc i = sc j → i = j) ∧ (sx i = sx j → i = j) ∧ sl i ≠ sc j ∧ sl i ≠ sx j ∧ sc i ≠ sx j
  memds : ∀ j, j < k → sl j ∈ ds ∧ sc j ∈ ds ∧ sx j ∈ ds
  keepG : ∀ j ok w w' v, G j ok w v → w.heap.size ≤ w'.heap.size → (∀ b, ok b → b < w.heap.size → w'.heap[b]? = w.heap[b]?) → G j ok w' v
  monoG : ∀ j ok ok' w v, G j ok w v → (∀ b, ok b → b < w.heap.size → ok' b) → G j ok' w v
  storeSize : ∀ w g v, (St w g v).heap.size = w.heap.size
  storeFar : ∀ w g v b, b ≠ g → (St w g v).heap[b]? = w.heap[b]?
  storeIs : ∀ j ok w g v, BlkIs w g T z → G j ok w v → BlkIs (St w g v) g T (C v)
  storeBelow : ∀ w g v, w0.heap.size ≤ g → Below w0.heap.size w0 w → Below w0.heap.size w0 (St w g v)
end

section
variable {P : Program} {ops : Array Oper} {Q : Exit → Act → World → Prop} {k : Nat} {iL iC iA iS sl sc sx : Nat → Nat} {ds : List Nat} {base : Act} {w0 : World} {T : TypeId} {vl : Nat → Value} {z : Array Value}
  {G : Nat → (Nat → Prop) → World → Value → Prop} {St : World → Nat → Value → World} {C : Value → Array Value}
abbrev ptr (g : Nat) : Value := .pointer (some ⟨g, 0, none⟩)
def okB (k : Nat) (iA sx : Nat → Nat) (w0 : World) (D : Nat → Prop) (u : Nat → Value) (b : Nat) : Prop := w0.heap.size ≤ b ∧ ∀ j, j < k → D (iA j) → u (sx j) ≠ ptr b
structure AsgI (k : Nat) (iL iC iA iS sl sc sx : Nat → Nat) (w0 : World) (T : TypeId) (vl : Nat → Value) (z : Array Value) (G : Nat → (Nat → Prop) → World → Value → Prop) (C : Value → Array Value) (D : Nat → Prop) (u : Nat → Value) (w : World) : Prop where
  below : Below w0.heap.size w0 w
  fL : ∀ j, j < k → D (iL j) → u (sl j) = vl j
  fC : ∀ j, j < k → D (iC j) → G j (okB k iA sx w0 D u) w (u (sc j))
  fA : ∀ j, j < k → D (iA j) → ∃ g, u (sx j) = ptr g ∧ w0.heap.size ≤ g ∧ g < w.heap.size ∧ (¬ D (iS j) → BlkIs w g T z) ∧ (D (iS j) → BlkIs w g T (C (u (sc j))))
  fS : ∀ j, j < k → D (iS j) → D (iC j) ∧ D (iA j)
  fN : ∀ i j, i < k → j < k → i ≠ j → D (iA i) → D (iA j) → u (sx i) ≠ u (sx j)
theorem getD_upd {listed : Array Bool} {i j : Nat} (h : (listed.setIfInBounds i true).getD j false = true) : j = i ∨ listed.getD j false = true := by
  by_cases e : i = j
  · exact .inl e.symm
  · rw [Go.getD_set_ne false e] at h; exact .inr h
theorem ptr_inj {a b : Nat} (h : ptr a = ptr b) : a = b := by
  injection h with h
  injection h with h
  injection h
theorem asg_region (H : Asg P ops Q k iL iC iA iS sl sc sx ds base w0 T vl z G St C)
    (fin : ∀ u w, Below w0.heap.size w0 w → (∀ j, j < k → ∃ g, u (sx j) = ptr g ∧ w0.heap.size ≤ g ∧ g < w.heap.size ∧ BlkIs w g T (C (u (sc j))) ∧ G j (fun b => w0.heap.size ≤ b ∧ ∀ i, i < k → u (sx i) ≠ ptr b) w (u (sc j))) → (∀ i j, i < k → j < k → i ≠ j → u (sx i) ≠ u (sx j)) → Q .normal (frame ds base u) w) :
    wpAny P .any ops Q ops.size (Array.replicate ops.size false) base w0 := by
  refine wpAny_inv (md := .any) (fun listed a w => ∃ u, a = frame ds base u ∧ AsgI k iL iC iA iS sl sc sx w0 T vl z G C (fun i => listed.getD i false = true) u w) H.back ?_ ?_ _ _ _ _ (by simp) (by simp [List.countP_replicate]) ?_
  · rintro listed a w i ⟨u, rfl, hI⟩ hs hr
    rw [mem_ready] at hr
    obtain ⟨h0, o, ho, hafter⟩ := hr
    have hlt := (Array.getElem?_eq_some_iff.1 ho).1
    have hD0 : ¬ listed.getD i false = true := by
      have hlt' : i < listed.size := by omega
      simp [hlt'] at h0 ⊢
      exact h0
    have hw : Region.wanted o (yielded ops (frame ds base u).tmps) = true := by simp [Region.wanted, H.noGuard i o ho]
    have hset : (listed.setIfInBounds i true).getD i false = true := by
      have hlt' : i < listed.size := by omega
      simp [hlt']
    have hup : ∀ j, listed.getD j false = true → (listed.setIfInBounds i true).getD j false = true := fun j h => getD_set_true h
    have hdn : ∀ j, (listed.setIfInBounds i true).getD j false = true → j = i ∨ listed.getD j false = true := fun j h => getD_upd h
    generalize hD : (fun j => listed.getD j false = true) = D at *
    have hD' : ∀ j, (listed.getD j false = true) = D j := fun j => by rw [← hD]
    simp only [hD'] at hD0 hup hdn hafter
    clear hD
    generalize hE : (fun j => (listed.setIfInBounds i true).getD j false = true) = E at *
    have hE' : ∀ j, ((listed.setIfInBounds i true).getD j false = true) = E j := fun j => by rw [← hE]
    simp only [hE'] at hset hup hdn
    unfold wpOp
    simp only [ho, hw, if_true]
    left
    have wrap : ∀ u' w', AsgI k iL iC iA iS sl sc sx w0 T vl z G C E u' w' → ∃ u, frame ds base u' = frame ds base u ∧ AsgI k iL iC iA iS sl sc sx w0 T vl z G C E u w' := fun u' w' h => ⟨u', rfl, h⟩
    obtain ⟨j, hj, hc⟩ := H.cover i hlt
    rcases hc with rfl | rfl | rfl | rfl
    · -- a load
      obtain ⟨o', ho', hd, hrun⟩ := H.dstL j hj
      obtain rfl : o' = o := Option.some.inj (ho'.symm.trans ho)
      unfold Oper.wp
      rw [hrun u w hI.below, Oper.upon_value, hd, frame_put (H.memds j hj).1]
      refine wrap _ _ ?_
      have hn : ∀ j', j' < k → (sl j' ≠ sl j ↔ j' ≠ j) ∧ sc j' ≠ sl j ∧ sx j' ≠ sl j := fun j' hj' => ⟨⟨fun h e => h (by rw [e]), fun h e => h ((H.slots j' j hj' hj).1 e)⟩, fun e => (H.slots j j' hj hj').2.2.2.1 e.symm, fun e => (H.slots j j' hj hj').2.2.2.2.1 e.symm⟩
      have hok : ∀ b, okB k iA sx w0 D u b → okB k iA sx w0 E (upd u (sl j) (vl j)) b := fun b hb => ⟨hb.1, fun j' hj' hE => by
        rw [upd_ne (hn j' hj').2.2]
        rcases hdn _ hE with e | e
        · exact absurd e.symm ((H.inj j j' hj hj').2.2.2.2.2.1)
        · exact hb.2 j' hj' e⟩
      refine ⟨hI.below, fun j' hj' hE => ?_, fun j' hj' hE => ?_, fun j' hj' hE => ?_, fun j' hj' hE => ?_, fun a b ha hb hab hEa hEb => ?_⟩
      · by_cases e : j' = j
        · subst e; exact upd_same _ _ _
        · rw [upd_ne ((hn j' hj').1.2 e)]
          rcases hdn _ hE with e' | e'
          · exact absurd ((H.inj j' j hj' hj).1 e') e
          · exact hI.fL j' hj' e'
      · rw [upd_ne (hn j' hj').2.1]
        rcases hdn _ hE with e | e
        · exact absurd e.symm ((H.inj j j' hj hj').2.2.2.2.1)
        · exact H.monoG _ _ _ _ _ (hI.fC j' hj' e) fun b hb _ => hok b hb
      · rw [upd_ne (hn j' hj').2.2, upd_ne (hn j' hj').2.1]
        rcases hdn _ hE with e | e
        · exact absurd e.symm ((H.inj j j' hj hj').2.2.2.2.2.1)
        · obtain ⟨g, h1, h2, h3, h4, h5⟩ := hI.fA j' hj' e
          refine ⟨g, h1, h2, h3, fun h => h4 fun h' => h (hup _ h'), fun h => ?_⟩
          rcases hdn _ h with e' | e'
          · exact absurd e'.symm ((H.inj j j' hj hj').2.2.2.2.2.2.1)
          · exact h5 e'
      · rcases hdn _ hE with e | e
        · exact absurd e.symm ((H.inj j j' hj hj').2.2.2.2.2.2.1)
        · exact ⟨hup _ (hI.fS j' hj' e).1, hup _ (hI.fS j' hj' e).2⟩
      · rw [upd_ne (hn a ha).2.2, upd_ne (hn b hb).2.2]
        rcases hdn _ hEa with e | e
        · exact absurd e.symm ((H.inj j a hj ha).2.2.2.2.2.1)
        · rcases hdn _ hEb with e' | e'
          · exact absurd e'.symm ((H.inj j b hj hb).2.2.2.2.2.1)
          · exact hI.fN a b ha hb hab e e'
    · -- a call
      obtain ⟨o', ho', hd, ⟨ed, hed, hbd, hon⟩, hrun⟩ := H.dstC j hj
      obtain rfl : o' = o := Option.some.inj (ho'.symm.trans ho)
      have hLd : D (iL j) := by rw [← hon]; exact hafter ed hed hbd
      refine hrun u w _ hI.below (hI.fL j hj hLd) fun v w' hb hG => ?_
      rw [hd, frame_put (H.memds j hj).2.1]
      refine wrap _ _ ?_
      have hn : ∀ j', j' < k → sl j' ≠ sc j ∧ (sc j' ≠ sc j ↔ j' ≠ j) ∧ sx j' ≠ sc j := fun j' hj' => ⟨fun e => (H.slots j' j hj' hj).2.2.2.1 e, ⟨fun h e => h (by rw [e]), fun h e => h ((H.slots j' j hj' hj).2.1 e)⟩, fun e => (H.slots j j' hj hj').2.2.2.2.2 e.symm⟩
      have hok : ∀ b, okB k iA sx w0 D u b → okB k iA sx w0 E (upd u (sc j) v) b := fun b hb => ⟨hb.1, fun j' hj' hE => by
        rw [upd_ne (hn j' hj').2.2]
        rcases hdn _ hE with e | e
        · exact absurd e.symm ((H.inj j j' hj hj').2.2.2.2.2.2.2.1)
        · exact hb.2 j' hj' e⟩
      refine ⟨then_ hI.below hb, fun j' hj' hE => ?_, fun j' hj' hE => ?_, fun j' hj' hE => ?_, fun j' hj' hE => ?_, fun a b ha hb' hab hEa hEb => ?_⟩
      · rw [upd_ne (hn j' hj').1]
        rcases hdn _ hE with e | e
        · exact absurd e ((H.inj j' j hj' hj).2.2.2.2.1)
        · exact hI.fL j' hj' e
      · by_cases e : j' = j
        · subst e
          rw [upd_same]
          refine H.monoG _ _ _ _ _ hG fun b hb' _ => ⟨Nat.le_trans hI.below.size hb', fun i' hi' hE' => ?_⟩
          rw [upd_ne (hn i' hi').2.2]
          rcases hdn _ hE' with e' | e'
          · exact absurd e'.symm ((H.inj j' i' hj' hi').2.2.2.2.2.2.2.1)
          · obtain ⟨g, h1, _, h3, _⟩ := hI.fA i' hi' e'
            rw [h1]
            intro e2
            have := ptr_inj e2
            omega
        · rw [upd_ne ((hn j' hj').2.1.2 e)]
          rcases hdn _ hE with e' | e'
          · exact absurd ((H.inj j' j hj' hj).2.1 e') e
          · exact H.monoG _ _ _ _ _ (H.keepG _ _ _ _ _ (hI.fC j' hj' e') hb.size fun b _ hlt' => hb.block b hlt') fun b hb' _ => hok b hb'
      · rw [upd_ne (hn j' hj').2.2]
        rcases hdn _ hE with e | e
        · exact absurd e.symm ((H.inj j j' hj hj').2.2.2.2.2.2.2.1)
        · obtain ⟨g, h1, h2, h3, h4, h5⟩ := hI.fA j' hj' e
          refine ⟨g, h1, h2, Nat.lt_of_lt_of_le h3 hb.size, fun h => (h4 fun h' => h (hup _ h')).below hb, fun h => ?_⟩
          rcases hdn _ h with e' | e'
          · exact absurd e'.symm ((H.inj j j' hj hj').2.2.2.2.2.2.2.2.1)
          · have hne : j' ≠ j := fun e2 => by subst e2; exact hD0 (hI.fS j' hj' e').1
            rw [upd_ne ((hn j' hj').2.1.2 hne)]
            exact (h5 e').below hb
      · rcases hdn _ hE with e | e
        · exact absurd e.symm ((H.inj j j' hj hj').2.2.2.2.2.2.2.2.1)
        · exact ⟨hup _ (hI.fS j' hj' e).1, hup _ (hI.fS j' hj' e).2⟩
      · rw [upd_ne (hn a ha).2.2, upd_ne (hn b hb').2.2]
        rcases hdn _ hEa with e | e
        · exact absurd e.symm ((H.inj j a hj ha).2.2.2.2.2.2.2.1)
        · rcases hdn _ hEb with e' | e'
          · exact absurd e'.symm ((H.inj j b hj hb').2.2.2.2.2.2.2.1)
          · exact hI.fN a b ha hb' hab e e'
    · -- an allocation
      obtain ⟨o', ho', hd, hrun⟩ := H.dstA j hj
      obtain rfl : o' = o := Option.some.inj (ho'.symm.trans ho)
      unfold Oper.wp
      rw [hrun u w, Oper.upon_value, hd, frame_put (H.memds j hj).2.2]
      refine wrap _ _ ?_
      have hb : Below w.heap.size w (w.alloc (.cells z T)) := box _ _
      have hn : ∀ j', j' < k → sl j' ≠ sx j ∧ sc j' ≠ sx j ∧ (sx j' ≠ sx j ↔ j' ≠ j) := fun j' hj' => ⟨fun e => (H.slots j' j hj' hj).2.2.2.2.1 e, fun e => (H.slots j' j hj' hj).2.2.2.2.2 e, ⟨fun h e => h (by rw [e]), fun h e => h ((H.slots j' j hj' hj).2.2.1 e)⟩⟩
      have hDE : ∀ j', j' < k → j' ≠ j → E (iA j') → D (iA j') := fun j' hj' hne h => by
        rcases hdn _ h with e | e
        · exact absurd ((H.inj j' j hj' hj).2.2.1 e) hne
        · exact e
      refine ⟨then_ hI.below hb, fun j' hj' hE => ?_, fun j' hj' hE => ?_, fun j' hj' hE => ?_, fun j' hj' hE => ?_, fun a b ha hb' hab hEa hEb => ?_⟩
      · rw [upd_ne (hn j' hj').1]
        rcases hdn _ hE with e | e
        · exact absurd e ((H.inj j' j hj' hj).2.2.2.2.2.1)
        · exact hI.fL j' hj' e
      · rw [upd_ne (hn j' hj').2.1]
        rcases hdn _ hE with e | e
        · exact absurd e ((H.inj j' j hj' hj).2.2.2.2.2.2.2.1)
        · have h1 := hI.fC j' hj' e
          have h2 := H.monoG _ _ (fun b => okB k iA sx w0 D u b ∧ b < w.heap.size) _ _ h1 fun b hb1 hb2 => ⟨hb1, hb2⟩
          have h3 := H.keepG _ _ _ _ _ h2 hb.size fun b _ hlt' => hb.block b hlt'
          refine H.monoG _ _ _ _ _ h3 fun b hb1 _ => ⟨hb1.1.1, fun i' hi' hE' => ?_⟩
          by_cases e2 : i' = j
          · subst e2
            rw [upd_same]
            intro e3
            have := ptr_inj e3
            omega
          · rw [upd_ne ((hn i' hi').2.2.2 e2)]
            exact hb1.1.2 i' hi' (hDE i' hi' e2 hE')
      · by_cases e : j' = j
        · subst e
          rw [upd_same]
          refine ⟨w.heap.size, rfl, hI.below.size, by simp, fun _ => BlkIs.new w T z, fun h => ?_⟩
          rcases hdn _ h with e' | e'
          · exact absurd e'.symm ((H.inj j' j' hj' hj').2.2.2.2.2.2.2.2.2)
          · exact absurd (hI.fS j' hj' e').2 hD0
        · rw [upd_ne ((hn j' hj').2.2.2 e), upd_ne (hn j' hj').2.1]
          obtain ⟨g, h1, h2, h3, h4, h5⟩ := hI.fA j' hj' (hDE j' hj' e hE)
          refine ⟨g, h1, h2, Nat.lt_of_lt_of_le h3 hb.size, fun h => (h4 fun h' => h (hup _ h')).below hb, fun h => ?_⟩
          rcases hdn _ h with e' | e'
          · exact absurd e'.symm ((H.inj j j' hj hj').2.2.2.2.2.2.2.2.2)
          · exact (h5 e').below hb
      · rcases hdn _ hE with e | e
        · exact absurd e.symm ((H.inj j j' hj hj').2.2.2.2.2.2.2.2.2)
        · exact ⟨hup _ (hI.fS j' hj' e).1, hup _ (hI.fS j' hj' e).2⟩
      · by_cases ea : a = j
        · subst ea
          have eb : b ≠ a := fun e => hab e.symm
          rw [upd_same, upd_ne ((hn b hb').2.2.2 eb)]
          obtain ⟨g, h1, _, h3, _⟩ := hI.fA b hb' (hDE b hb' eb hEb)
          rw [h1]
          intro e
          have := ptr_inj e
          omega
        · rw [upd_ne ((hn a ha).2.2.2 ea)]
          obtain ⟨g, h1, _, h3, _⟩ := hI.fA a ha (hDE a ha ea hEa)
          by_cases eb : b = j
          · subst eb
            rw [upd_same, h1]
            intro e
            have := ptr_inj e
            omega
          · rw [upd_ne ((hn b hb').2.2.2 eb)]
            exact hI.fN a b ha hb' hab (hDE a ha ea hEa) (hDE b hb' eb hEb)
    · -- a store
      obtain ⟨o', ho', hd, ⟨e1, he1, hb1, hon1⟩, ⟨e2, he2, hb2, hon2⟩, hrun⟩ := H.dstS j hj
      obtain rfl : o' = o := Option.some.inj (ho'.symm.trans ho)
      have hAd : D (iA j) := by rw [← hon1]; exact hafter e1 he1 hb1
      have hCd : D (iC j) := by rw [← hon2]; exact hafter e2 he2 hb2
      obtain ⟨g, hg1, hg2, hg3, hg4, _⟩ := hI.fA j hj hAd
      have hgB := hg4 hD0
      have hG := hI.fC j hj hCd
      unfold Oper.wp
      rw [hrun u w g _ hg1 hgB hG, Oper.upon_skip, hd]
      show ∃ u', frame ds base u = frame ds base u' ∧ _
      refine wrap _ _ ?_
      have hDE : ∀ x, x ≠ iS j → E x → D x := fun x hne h => (hdn x h).resolve_left hne
      have hsz := H.storeSize w g (u (sc j))
      refine ⟨H.storeBelow w g _ hg2 hI.below, fun j' hj' hE => ?_, fun j' hj' hE => ?_, fun j' hj' hE => ?_, fun j' hj' hE => ?_, fun a b ha hb' hab hEa hEb => ?_⟩
      · exact hI.fL j' hj' (hDE _ ((H.inj j' j hj' hj).2.2.2.2.2.2.1) hE)
      · have h1 := hI.fC j' hj' (hDE _ ((H.inj j' j hj' hj).2.2.2.2.2.2.2.2.1) hE)
        have h2 := H.keepG _ _ _ (St w g (u (sc j))) _ h1 (by omega) fun b hb3 _ => H.storeFar w g _ b fun e => hb3.2 j hj hAd (by rw [hg1, e])
        exact H.monoG _ _ _ _ _ h2 fun b hb3 _ => ⟨hb3.1, fun i' hi' hE' => hb3.2 i' hi' (hDE _ ((H.inj i' j hi' hj).2.2.2.2.2.2.2.2.2) hE')⟩
      · obtain ⟨g', h1, h2, h3, h4, h5⟩ := hI.fA j' hj' (hDE _ ((H.inj j' j hj' hj).2.2.2.2.2.2.2.2.2) hE)
        refine ⟨g', h1, h2, by omega, fun h => ?_, fun h => ?_⟩
        · have hne : j' ≠ j := fun e => by subst e; exact h hset
          have hgg : g' ≠ g := fun e => hI.fN j' j hj' hj hne (hDE _ ((H.inj j' j hj' hj).2.2.2.2.2.2.2.2.2) hE) hAd (by rw [h1, hg1, e])
          exact (h4 fun h' => h (hup _ h')).keep (H.storeFar w g _ g' hgg)
        · by_cases e : j' = j
          · subst e
            obtain rfl : g' = g := ptr_inj (h1.symm.trans hg1)
            exact H.storeIs j' _ w g' _ hgB hG
          · have hgg : g' ≠ g := fun e3 => hI.fN j' j hj' hj e (hDE _ ((H.inj j' j hj' hj).2.2.2.2.2.2.2.2.2) hE) hAd (by rw [h1, hg1, e3])
            exact (h5 (hDE _ (fun e3 => e ((H.inj j' j hj' hj).2.2.2.1 e3)) h)).keep (H.storeFar w g _ g' hgg)
      · by_cases e : j' = j
        · subst e; exact ⟨hup _ hCd, hup _ hAd⟩
        · have := hI.fS j' hj' (hDE _ (fun e3 => e ((H.inj j' j hj' hj).2.2.2.1 e3)) hE)
          exact ⟨hup _ this.1, hup _ this.2⟩
      · exact hI.fN a b ha hb' hab (hDE _ ((H.inj a j ha hj).2.2.2.2.2.2.2.2.2) hEa) (hDE _ ((H.inj b j hb' hj).2.2.2.2.2.2.2.2.2) hEb)
  · rintro listed a w ⟨u, rfl, hI⟩ hall
    have hd : ∀ x, x < ops.size → listed.getD x false = true := hall
    have hA : ∀ j, j < k → iA j < ops.size := fun j hj => by obtain ⟨o, ho, _⟩ := H.dstA j hj; exact (Array.getElem?_eq_some_iff.1 ho).1
    have hC : ∀ j, j < k → iC j < ops.size := fun j hj => by obtain ⟨o, ho, _⟩ := H.dstC j hj; exact (Array.getElem?_eq_some_iff.1 ho).1
    have hS : ∀ j, j < k → iS j < ops.size := fun j hj => by obtain ⟨o, ho, _⟩ := H.dstS j hj; exact (Array.getElem?_eq_some_iff.1 ho).1
    refine fin u w hI.below (fun j hj => ?_) (fun i j hi hj hne => hI.fN i j hi hj hne (hd _ (hA i hi)) (hd _ (hA j hj)))
    obtain ⟨g, h1, h2, h3, _, h5⟩ := hI.fA j hj (hd _ (hA j hj))
    exact ⟨g, h1, h2, h3, h5 (hd _ (hS j hj)), H.monoG _ _ _ _ _ (hI.fC j hj (hd _ (hC j hj))) fun b hb _ => ⟨hb.1, fun i hi => hb.2 i hi (hd _ (hA i hi))⟩⟩
  · refine ⟨fun i => base.tmps.getD i undef, frame_base.symm, ?_⟩
    have hno : ∀ i, ¬ (Array.replicate ops.size false).getD i false = true := fun i => by
      by_cases h : i < ops.size <;> simp [h]
    exact ⟨Below.refl _ _, fun j _ h => absurd h (hno _), fun j _ h => absurd h (hno _), fun j _ h => absurd h (hno _), fun j _ h => absurd h (hno _), fun i j _ _ _ h => absurd h (hno _)⟩
end
end Go.Proofs.YtgphkgmhcmffnaaGreatDoor
