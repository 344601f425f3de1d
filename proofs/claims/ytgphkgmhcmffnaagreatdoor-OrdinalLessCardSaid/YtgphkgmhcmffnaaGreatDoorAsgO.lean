/- The same for variables of type api.Object: 'a, b := f(x), f(y)'. -/
import Derived.Test.YtgphkgmhcmffnaaGreatDoorAsg
import Derived.Test.YtgphkgmhcmffnaaGreatDoorMkB
namespace Go.Proofs.YtgphkgmhcmffnaaGreatDoor
open Go.RowKit

theorem frame_fold : ∀ (ds : List Nat) (base : Act) (u : Nat → Value), frame ds base u = ds.foldl (fun a d => a.put (some d) (u d)) base
  | [], base, u => by
    obtain ⟨t, d⟩ := base
    unfold frame
    simp only [List.foldl_nil, Act.mk.injEq, and_true]
    apply Array.ext_getElem?
    intro i
    simp
  | d :: ds, base, u => by
    rw [List.foldl_cons, ← frame_fold ds]
    unfold frame Act.put
    simp only [Act.mk.injEq, and_true]
    apply Array.ext_getElem?
    intro i
    simp only [Array.getElem?_mapIdx]
    by_cases hi : i = d
    · subst hi
      by_cases hs : i < base.tmps.size
      · simp [hs]
      · simp [hs]
    · rw [Array.getElem?_setIfInBounds_ne (Ne.symm hi)]
      simp [hi]
def St7 (w : World) (g : Nat) (v : Value) : World :=
  match v with
  | .agg cs => (List.range 7).foldl (fun w i => w.setCell ⟨g, i, none⟩ (cs.getD i undef)) w
  | _ => w
def C7 (v : Value) : Array Value :=
  match v with
  | .agg cs => cs
  | _ => #[]
def GO (ob : Nat → Ob) (j : Nat) (ok : Nat → Prop) (w : World) (v : Value) : Prop := ∃ A n c, v = objV (ob j) (.slice A n c) ∧ Rd ok w (.slice A n c) (.row ((ob j).pair.map Ob.enc))
set_option maxHeartbeats 1000000 in
theorem run_store_obj {o : Oper} {ρ : Operand → Value} {x y : Operand} (ho : o.op = .store 31 x y) {w : World} {g : Nat} {ob : Ob} {A : Option Addr} {n c : Nat} (hx : ρ x = ptr g) (hy : ρ y = objV ob (.slice A n c)) (hB : BlkIs w g 31 zeroCells) :
    (execOp ρ o).run Tryz.prog w = .ok .skip (St7 w g (objV ob (.slice A n c))) := by
  obtain ⟨c0, c1, c2, c3, c4, c5, c6, _⟩ := hB.seven
  obtain ⟨f0, f1, f2, f3, f4, f5, f6⟩ := hB.frozen7
  obtain ⟨d, op, ty, pos, af, gd⟩ := o
  simp only at ho
  subst ho
  go_simp
  rfl
theorem run_alloc_obj {o : Oper} {ρ : Operand → Value} (ho : o.op = .alloc 31) (w : World) :
    (execOp ρ o).run Tryz.prog w = .ok (.value (ptr w.heap.size)) (w.alloc (.cells zeroCells 31)) := by
  obtain ⟨d, op, ty, pos, af, gd⟩ := o
  simp only at ho
  subst ho
  go_simp
theorem run_load_raw {o : Oper} {ρ : Operand → Value} {x : Operand} (ho : o.op = .load 41 x) {w : World} {g : Nat} {c0 c1 c2 c3 : Value} (hx : ρ x = ptr g) (hB : BlkIs w g 41 #[c0, c1, c2, c3]) :
    (execOp ρ o).run Tryz.prog w = .ok (.value (.agg #[c0, c1, c2, c3])) w := by
  obtain ⟨h0, h1, h2, h3, _⟩ := hB.four
  obtain ⟨d, op, ty, pos, af, gd⟩ := o
  simp only at ho
  subst ho
  go_simp
theorem run_load_obj {o : Oper} {ρ : Operand → Value} {x : Operand} (ho : o.op = .load 31 x) {w : World} {g : Nat} {c0 c1 c2 c3 c4 c5 c6 : Value} (hx : ρ x = ptr g) (hB : BlkIs w g 31 #[c0, c1, c2, c3, c4, c5, c6]) :
    (execOp ρ o).run Tryz.prog w = .ok (.value (.agg #[c0, c1, c2, c3, c4, c5, c6])) w := by
  obtain ⟨h0, h1, h2, h3, h4, h5, h6, _⟩ := hB.seven
  obtain ⟨d, op, ty, pos, af, gd⟩ := o
  simp only at ho
  subst ho
  go_simp
theorem wp_call1 {o : Oper} {f : FuncId} {x : Operand} {ts : Array TypeId} {a : Act} {w : World} {K : Act → World → Prop} {Q : Exit → Act → World → Prop} (ho : o.op = .call ⟨.value (.func f), #[x], ts⟩) (hc : ∀ (args : Array Value) (w : World), (callFunc f args).run Tryz.prog w = .ok (.enter f args) w)
    (h : Calls Tryz.prog f #[a.eval x] w (fun e w' => ∃ v, e = .returned v ∧ K (a.put o.dst v) w')) : o.wp Tryz.prog a w K Q := by
  have hr : (execOp a.eval o).run Tryz.prog w = .ok (.enter f #[a.eval x]) w := by
    obtain ⟨d, op, ty, pos, af, gd⟩ := o
    simp only at ho
    subst ho
    go_simp
  unfold Oper.wp
  rw [hr, Oper.upon_enter]
  refine h.mono ?_
  rintro e w' ⟨v, rfl, hk⟩
  exact hk

def isLoad (ops : Array Oper) (i : Nat) (t : TypeId) (b d : Nat) : Bool :=
  match ops[i]? with
  | some o => (match o.op with | .load t' (.tmp b') => t' == t && b' == b | _ => false) && o.dst == some d
  | none => false
def isCall (ops : Array Oper) (i : Nat) (f : FuncId) (x d on : Nat) : Bool :=
  match ops[i]? with
  | some o => (match o.op with | .call ⟨.value (.func f'), args, _⟩ => f' == f && (match args.toList with | [.tmp x'] => x' == x | _ => false) | _ => false) && o.dst == some d && o.after.any fun e => Region.binds .any e && e.on == on
  | none => false
def isAlloc (ops : Array Oper) (i : Nat) (t : TypeId) (d : Nat) : Bool :=
  match ops[i]? with
  | some o => (match o.op with | .alloc t' => t' == t | _ => false) && o.dst == some d
  | none => false
def isStore (ops : Array Oper) (i : Nat) (t : TypeId) (x y on on' : Nat) : Bool :=
  match ops[i]? with
  | some o => (match o.op with | .store t' (.tmp x') (.tmp y') => t' == t && x' == x && y' == y | _ => false) && o.dst == none && (o.after.any fun e => Region.binds .any e && e.on == on) && o.after.any fun e => Region.binds .any e && e.on == on'
  | none => false
theorem any_edge {es : Array Edge} {on : Nat} (h : (es.any fun e => Region.binds .any e && e.on == on) = true) : ∃ e ∈ es, Region.binds .any e = true ∧ e.on = on := by
  rw [Array.any_eq_true'] at h
  obtain ⟨e, he, h⟩ := h
  simp only [Bool.and_eq_true, beq_iff_eq] at h
  exact ⟨e, he, h⟩
theorem isLoad_spec {ops : Array Oper} {i : Nat} {t : TypeId} {b d : Nat} (h : isLoad ops i t b d = true) : ∃ o, ops[i]? = some o ∧ o.dst = some d ∧ o.op = .load t (.tmp b) := by
  unfold isLoad at h
  split at h
  · rename_i o ho
    simp only [Bool.and_eq_true, beq_iff_eq] at h
    obtain ⟨h1, h2⟩ := h
    split at h1
    · simp only [Bool.and_eq_true, beq_iff_eq] at h1
      obtain ⟨rfl, rfl⟩ := h1
      exact ⟨o, ho, h2, by assumption⟩
    · cases h1
  · cases h
theorem isCall_spec {ops : Array Oper} {i : Nat} {f : FuncId} {x d on : Nat} (h : isCall ops i f x d on = true) : ∃ o ts, ops[i]? = some o ∧ o.dst = some d ∧ o.op = .call ⟨.value (.func f), #[.tmp x], ts⟩ ∧ ∃ e ∈ o.after, Region.binds .any e = true ∧ e.on = on := by
  unfold isCall at h
  split at h
  · rename_i o ho
    simp only [Bool.and_eq_true, beq_iff_eq] at h
    obtain ⟨⟨h1, h2⟩, h3⟩ := h
    split at h1
    · rename_i f' args ts hop
      simp only [Bool.and_eq_true, beq_iff_eq] at h1
      obtain ⟨rfl, h4⟩ := h1
      split at h4
      · rename_i x' hx
        rw [beq_iff_eq] at h4
        subst h4
        obtain rfl : args = #[.tmp x'] := by apply Array.ext'; simpa using hx
        exact ⟨o, ts, ho, h2, hop, any_edge h3⟩
      · cases h4
    · cases h1
  · cases h
theorem isAlloc_spec {ops : Array Oper} {i : Nat} {t : TypeId} {d : Nat} (h : isAlloc ops i t d = true) : ∃ o, ops[i]? = some o ∧ o.dst = some d ∧ o.op = .alloc t := by
  unfold isAlloc at h
  split at h
  · rename_i o ho
    simp only [Bool.and_eq_true, beq_iff_eq] at h
    obtain ⟨h1, h2⟩ := h
    split at h1
    · rw [beq_iff_eq] at h1
      subst h1
      exact ⟨o, ho, h2, by assumption⟩
    · cases h1
  · cases h
theorem isStore_spec {ops : Array Oper} {i : Nat} {t : TypeId} {x y on on' : Nat} (h : isStore ops i t x y on on' = true) : ∃ o, ops[i]? = some o ∧ o.dst = none ∧ o.op = .store t (.tmp x) (.tmp y) ∧ (∃ e ∈ o.after, Region.binds .any e = true ∧ e.on = on) ∧ ∃ e ∈ o.after, Region.binds .any e = true ∧ e.on = on' := by
  unfold isStore at h
  split at h
  · rename_i o ho
    simp only [Bool.and_eq_true, beq_iff_eq] at h
    obtain ⟨⟨⟨h1, h2⟩, h3⟩, h4⟩ := h
    split at h1
    · simp only [Bool.and_eq_true, beq_iff_eq] at h1
      obtain ⟨⟨rfl, rfl⟩, rfl⟩ := h1
      exact ⟨o, ho, h2, by assumption, any_edge h3, any_edge h4⟩
    · cases h1
  · cases h
def backB (ops : Array Oper) : Bool := (List.range ops.size).all fun i => match ops[i]? with | some o => o.guard.isNone && o.after.all fun e => decide (e.on < i) | none => true
theorem backB_spec {ops : Array Oper} (h : backB ops = true) (i : Nat) (o : Oper) (ho : ops[i]? = some o) : o.guard = none ∧ ∀ e ∈ o.after, e.on < i := by
  unfold backB at h
  rw [List.all_eq_true] at h
  have := h i (List.mem_range.2 (Array.getElem?_eq_some_iff.1 ho).1)
  rw [ho] at this
  simp only [Bool.and_eq_true, Option.isNone_iff_eq_none, Array.all_eq_true_iff_forall_mem, decide_eq_true_eq] at this
  exact this
/-- the region's shape: k loads of type t from the slots sb, k calls of fn, k variables from slot x0 on -/
def asgB (ops : Array Oper) (k s0 x0 : Nat) (t : TypeId) (sb : Nat → Nat) (fn : Nat → FuncId) : Bool :=
  ops.size == 4 * k && backB ops && (List.range k).all fun j => isLoad ops (2 * j) t (sb j) (s0 + 2 * j) && isCall ops (2 * j + 1) (fn j) (s0 + 2 * j) (s0 + 2 * j + 1) (2 * j) && isAlloc ops (2 * k + j) 31 (x0 + j) && isStore ops (3 * k + j) 31 (x0 + j) (s0 + 2 * j + 1) (2 * k + j) (2 * j + 1)
def asgD (k s0 x0 : Nat) : List Nat := (List.range k).map (x0 + ·) ++ (List.range (2 * k)).map (s0 + ·)
theorem rd_keep {ok : Nat → Prop} {w w' : World} {v : Value} {d : Dt} (h : Rd ok w v d) (hs : w.heap.size ≤ w'.heap.size) (hk : ∀ b, ok b → b < w.heap.size → w'.heap[b]? = w.heap[b]?) : Rd ok w' v d := h.keep hs hk
theorem asg_objs {ops : Array Oper} {Q : Exit → Act → World → Prop} {base : Act} {w0 : World} (k s0 x0 : Nat) (t : TypeId) (sb : Nat → Nat) (fn : Nat → FuncId) (vl : Nat → Value) (ob : Nat → Ob)
    (hB : asgB ops k s0 x0 t sb fn = true) (hx : x0 + k ≤ s0) (hsz : s0 + 2 * k ≤ base.tmps.size) (hsb : ∀ j, j < k → sb j < x0)
    (hload : ∀ j, j < k → ∀ (o : Oper) (ρ : Operand → Value) (w : World), o.op = .load t (.tmp (sb j)) → ρ (.tmp (sb j)) = base.tmps.getD (sb j) undef → Below w0.heap.size w0 w → (execOp ρ o).run Tryz.prog w = .ok (.value (vl j)) w)
    (hfn : ∀ j, j < k → ∀ (args : Array Value) (w : World), (callFunc (fn j) args).run Tryz.prog w = .ok (.enter (fn j) args) w)
    (hcall : ∀ j, j < k → ∀ w, Below w0.heap.size w0 w → Calls Tryz.prog (fn j) #[vl j] w (RetNew (ob j) w))
    (fin : ∀ (u : Nat → Value) (w : World), Below w0.heap.size w0 w → (∀ j, j < k → ∃ g A n c, u (x0 + j) = ptr g ∧ w0.heap.size ≤ g ∧ g < w.heap.size ∧ BlkIs w g 31 (obCells (ob j) (.slice A n c)) ∧ Rd (fun b => w0.heap.size ≤ b ∧ ∀ i, i < k → u (x0 + i) ≠ ptr b) w (.slice A n c) (.row ((ob j).pair.map Ob.enc))) → (∀ i j, i < k → j < k → i ≠ j → u (x0 + i) ≠ u (x0 + j)) → Q .normal ((asgD k s0 x0).foldl (fun a d => a.put (some d) (u d)) base) w) :
    wpAny Tryz.prog .any ops Q ops.size (Array.replicate ops.size false) base w0 := by
  unfold asgB at hB
  simp only [Bool.and_eq_true, beq_iff_eq, List.all_eq_true, List.mem_range] at hB
  obtain ⟨⟨hs, hb⟩, hall⟩ := hB
  have mem1 : ∀ j, j < k → x0 + j ∈ asgD k s0 x0 := fun j hj => List.mem_append_left _ (List.mem_map.2 ⟨j, List.mem_range.2 hj, rfl⟩)
  have mem2 : ∀ j, j < 2 * k → s0 + j ∈ asgD k s0 x0 := fun j hj => List.mem_append_right _ (List.mem_map.2 ⟨j, List.mem_range.2 hj, rfl⟩)
  have nmem : ∀ j, j < k → sb j ∉ asgD k s0 x0 := fun j hj h => by
    have := hsb j hj
    rcases List.mem_append.1 h with h | h
    · obtain ⟨i, _, h⟩ := List.mem_map.1 h; omega
    · obtain ⟨i, _, h⟩ := List.mem_map.1 h; omega
  refine asg_region (k := k) (iL := fun j => 2 * j) (iC := fun j => 2 * j + 1) (iA := fun j => 2 * k + j) (iS := fun j => 3 * k + j) (sl := fun j => s0 + 2 * j) (sc := fun j => s0 + 2 * j + 1) (sx := fun j => x0 + j) (ds := asgD k s0 x0) (T := 31) (vl := vl) (z := zeroCells) (G := GO ob) (St := St7) (C := C7) ?_ ?_
  · refine ⟨fun i o ho => (backB_spec hb i o ho).2, fun i hi => ?_, fun i o ho => (backB_spec hb i o ho).1, fun j hj => ?_, fun j hj => ?_, fun j hj => ?_, fun j hj => ?_, fun i j hi hj => ?_, fun i j hi hj => ?_, fun j hj => ?_, ?_, ?_, ?_, ?_, ?_, ?_⟩
    · by_cases h1 : i < 2 * k
      · rcases Nat.mod_two_eq_zero_or_one i with h | h
        · exact ⟨i / 2, by omega, .inl (by omega)⟩
        · exact ⟨i / 2, by omega, .inr (.inl (by omega))⟩
      · by_cases h2 : i < 3 * k
        · exact ⟨i - 2 * k, by omega, .inr (.inr (.inl (by omega)))⟩
        · exact ⟨i - 3 * k, by omega, .inr (.inr (.inr (by omega)))⟩
    · obtain ⟨o, ho, hd, hop⟩ := isLoad_spec (hall j hj).1.1.1
      refine ⟨o, ho, hd, fun u w hbw => hload j hj o _ w hop ?_ hbw⟩
      have := hsb j hj
      simp [frame, Act.eval, nmem j hj, show sb j < base.tmps.size by omega]
    · obtain ⟨o, ts, ho, hd, hop, he⟩ := isCall_spec (hall j hj).1.1.2
      refine ⟨o, ho, hd, he, fun u w K hbw hu hK => wp_call1 hop (hfn j hj) ?_⟩
      rw [frame_eval (mem2 (2 * j) (by omega)) (by omega), hu]
      refine (hcall j hj w hbw).mono ?_
      rintro e w' ⟨A, n, c, rfl, hr, hb'⟩
      exact ⟨_, rfl, hK _ _ hb' ⟨A, n, c, rfl, hr⟩⟩
    · obtain ⟨o, ho, hd, hop⟩ := isAlloc_spec (hall j hj).1.2
      exact ⟨o, ho, hd, fun u w => run_alloc_obj hop w⟩
    · obtain ⟨o, ho, hd, hop, he1, he2⟩ := isStore_spec (hall j hj).2
      refine ⟨o, ho, hd, he1, he2, fun u w g ok hu hB hG => ?_⟩
      obtain ⟨A, n, c, hv, _⟩ := hG
      rw [hv]
      refine run_store_obj hop ?_ ?_ hB
      · rw [frame_eval (mem1 j hj) (by omega)]; exact hu
      · rw [show s0 + 2 * j + 1 = s0 + (2 * j + 1) by omega, frame_eval (mem2 (2 * j + 1) (by omega)) (by omega)]; exact hv
    · refine ⟨?_, ?_, ?_, ?_, ?_, ?_, ?_, ?_, ?_, ?_⟩ <;> omega
    · refine ⟨?_, ?_, ?_, ?_, ?_, ?_⟩ <;> omega
    · exact ⟨mem2 (2 * j) (by omega), mem2 (2 * j + 1) (by omega), mem1 j hj⟩
    · rintro j ok w w' v ⟨A, n, c, rfl, hr⟩ h1 h2
      exact ⟨A, n, c, rfl, rd_keep hr h1 h2⟩
    · rintro j ok ok' w v ⟨A, n, c, rfl, hr⟩ h1
      exact ⟨A, n, c, rfl, hr.mono h1⟩
    · intro w g v
      unfold St7
      split
      · simp [List.range, List.range.loop, World.setCell]
      · rfl
    · intro w g v b hbg
      unfold St7
      split
      · simp only [List.range, List.range.loop, List.foldl_cons, List.foldl_nil]
        rw [Below.heap_setCell _ _ _ _ hbg, Below.heap_setCell _ _ _ _ hbg, Below.heap_setCell _ _ _ _ hbg, Below.heap_setCell _ _ _ _ hbg, Below.heap_setCell _ _ _ _ hbg, Below.heap_setCell _ _ _ _ hbg, Below.heap_setCell _ _ _ _ hbg]
      · rfl
    · rintro j ok w g v hB ⟨A, n, c, rfl, _⟩
      exact hB.put7
    · intro w g v hg hbw
      unfold St7
      split
      · simp only [List.range, List.range.loop, List.foldl_cons, List.foldl_nil]
        exact set7 hbw hg _ _ _ _ _ _ _
      · exact hbw
  · intro u w hbw hj hne
    rw [frame_fold]
    refine fin u w hbw (fun j hj' => ?_) hne
    obtain ⟨g, h1, h2, h3, h4, A, n, c, h5, h6⟩ := hj j hj'
    rw [h5] at h4
    exact ⟨g, A, n, c, h1, h2, h3, h4, h6⟩
end Go.Proofs.YtgphkgmhcmffnaaGreatDoor
