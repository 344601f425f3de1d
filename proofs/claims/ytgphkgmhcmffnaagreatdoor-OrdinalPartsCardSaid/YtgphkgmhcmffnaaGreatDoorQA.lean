/- Plain values for a walk: what a value of the machine stands for, while the call's own boxes are known and the rest of the memory stays as it is. -/
import Derived.Test.YtgphkgmhcmffnaaGreatDoorJP
import Derived.Test.YtgphkgmhcmffnaaGreatDoorAsg
import Derived.Laws.CopyRow
import Derived.Laws.Cells
import Derived.Great.BuildSlice
import Derived.Test.YtgphkgmhcmffnaaGreatDoorXp
import Derived.Scope
import Derived.Deep.LoopGhost
namespace Go.Proofs.YtgphkgmhcmffnaaGreatDoor
open Go.RowKit

inductive AV where
  | dt (d : Dt)
  | ptr (b off : Nat)
  | pin (ds : List Dt)
  | agg (cs : List AV)
  | tup (cs : List AV)
  | clo (f : FuncId) (cs : List AV)
  | un
namespace AV
abbrev v (x : Value) : AV := .dt (.val x)
def one : AV → Bool
  | .dt d => d.one
  | .ptr _ _ => true
  | .pin _ => true
  | .clo _ _ => true
  | _ => false
def cells : AV → List AV
  | .agg cs => cs
  | x => [x]
end AV
/-- the boxes (m) and the blocks that stay as they are (F) -/
structure Mm where
  m : Nat → Option Nat
  F : Nat → Prop
mutual
def RV (M : Mm) (w : World) : AV → Value → Prop
  | .dt d, v => Rd M.F w v d
  | .ptr b off, v => ∃ g, M.m b = some g ∧ v = .pointer (some ⟨g, off, none⟩)
  | .pin ds, v => ∃ g o, v = .pointer (some ⟨g, o, none⟩) ∧ M.F g ∧ g < w.heap.size ∧ ∀ j (h : j < ds.length), ∃ u, w.cell? ⟨g, o + j, none⟩ = some u ∧ Rd M.F w u ds[j]
  | .agg cs, v => ∃ vs, v = .agg vs.toArray ∧ RL M w cs vs
  | .tup cs, v => ∃ vs, v = .tuple vs.toArray ∧ RL M w cs vs
  | .clo f cs, v => ∃ vs, v = .func (.func f) #[] vs.toArray ∧ RL M w cs vs
  | .un, _ => True
def RL (M : Mm) (w : World) : List AV → List Value → Prop
  | [], vs => vs = []
  | c :: cs, vs => ∃ u us, vs = u :: us ∧ RV M w c u ∧ RL M w cs us
end
/-- a step of the memory -/
structure Go1 (n0 : Nat) (M : Mm) (w : World) (M' : Mm) (w' : World) : Prop where
  below : Below n0 w w'
  keep : ∀ b, M.F b → b < w.heap.size → w'.heap[b]? = w.heap[b]?
  F : ∀ b, M.F b → b < w.heap.size → M'.F b
  m : ∀ k g, M.m k = some g → M'.m k = some g
theorem Go1.refl (n0 : Nat) (M : Mm) (w : World) : Go1 n0 M w M w := ⟨Below.refl _ _, fun _ _ _ => rfl, fun _ h _ => h, fun _ _ h => h⟩
theorem cell_eq {w w' : World} {a : Addr} (h : w'.heap[a.block]? = w.heap[a.block]?) : w'.cell? a = w.cell? a := by
  unfold World.cell?
  rw [h]
theorem Rd.go {n0 : Nat} {M M' : Mm} {w w' : World} {v : Value} {d : Dt} (g : Go1 n0 M w M' w') (h : Rd M.F w v d) : Rd M'.F w' v d :=
  (h.mono (ok' := fun b => M.F b ∧ M'.F b) fun b hb hl => ⟨hb, g.F b hb hl⟩).keep g.below.size (fun b hb hl => g.keep b hb.1 hl) |>.mono fun _ h _ => h.2
mutual
theorem RV.go {n0 : Nat} {M M' : Mm} {w w' : World} (g : Go1 n0 M w M' w') : ∀ (a : AV) (v : Value), RV M w a v → RV M' w' a v
  | .dt d, v, h => Rd.go g h
  | .ptr b off, v, ⟨x, h1, h2⟩ => ⟨x, g.m _ _ h1, h2⟩
  | .pin ds, v, ⟨x, o, h1, h2, h3, h4⟩ => ⟨x, o, h1, g.F _ h2 h3, Nat.lt_of_lt_of_le h3 g.below.size, fun j hj => by
      obtain ⟨u, e1, e2⟩ := h4 j hj
      exact ⟨u, (cell_eq (g.keep x h2 h3)).trans e1, Rd.go g e2⟩⟩
  | .agg cs, v, ⟨vs, h1, h2⟩ => ⟨vs, h1, RL.go g cs vs h2⟩
  | .tup cs, v, ⟨vs, h1, h2⟩ => ⟨vs, h1, RL.go g cs vs h2⟩
  | .clo f cs, v, ⟨vs, h1, h2⟩ => ⟨vs, h1, RL.go g cs vs h2⟩
  | .un, _, _ => trivial
theorem RL.go {n0 : Nat} {M M' : Mm} {w w' : World} (g : Go1 n0 M w M' w') : ∀ (cs : List AV) (vs : List Value), RL M w cs vs → RL M' w' cs vs
  | [], _, h => h
  | c :: cs, _, ⟨u, us, h1, h2, h3⟩ => ⟨u, us, h1, RV.go g c u h2, RL.go g cs us h3⟩
end
theorem RL.len {M : Mm} {w : World} : ∀ {cs : List AV} {vs : List Value}, RL M w cs vs → vs.length = cs.length
  | [], _, h => by rw [show _ = _ from h]; rfl
  | c :: cs, _, ⟨u, us, h1, _, h3⟩ => by rw [h1, List.length_cons, List.length_cons, RL.len h3]
theorem RL.get {M : Mm} {w : World} : ∀ {cs : List AV} {vs : List Value}, RL M w cs vs → ∀ {i : Nat} {c : AV}, cs[i]? = some c → ∃ u, vs[i]? = some u ∧ RV M w c u
  | [], _, _, i, c, hi => by simp at hi
  | c :: cs, _, ⟨u, us, h1, h2, h3⟩, i, c', hi => by
    subst h1
    cases i with
    | zero => exact ⟨u, rfl, by simpa using (Option.some.inj hi) ▸ h2⟩
    | succ i => exact RL.get h3 (by simpa using hi)
theorem RL.take {M : Mm} {w : World} : ∀ {cs : List AV} {vs : List Value} (n : Nat), RL M w cs vs → RL M w (cs.take n) (vs.take n)
  | _, _, 0, _ => rfl
  | [], _, n + 1, h => by rw [show _ = _ from h]; rfl
  | c :: cs, _, n + 1, ⟨u, us, h1, h2, h3⟩ => by subst h1; exact ⟨u, us.take n, rfl, h2, RL.take n h3⟩
theorem RL.drop {M : Mm} {w : World} : ∀ {cs : List AV} {vs : List Value} (n : Nat), RL M w cs vs → RL M w (cs.drop n) (vs.drop n)
  | _, _, 0, h => h
  | [], _, n + 1, h => by rw [show _ = _ from h]; rfl
  | c :: cs, _, n + 1, ⟨u, us, h1, h2, h3⟩ => by subst h1; exact RL.drop n h3
theorem RL.append {M : Mm} {w : World} : ∀ {cs ds : List AV} {vs us : List Value}, RL M w cs vs → RL M w ds us → RL M w (cs ++ ds) (vs ++ us)
  | [], _, _, _, h, h' => by rw [show _ = _ from h]; exact h'
  | c :: cs, _, _, _, ⟨u, us, h1, h2, h3⟩, h' => by subst h1; exact ⟨u, us ++ _, rfl, h2, RL.append h3 h'⟩
theorem RV.oneCell {M : Mm} {w : World} {a : AV} {v : Value} (h : RV M w a v) (h1 : a.one = true) : v.oneCell' = true := by
  cases a with
  | dt d => exact Rd.one h h1
  | ptr b off => obtain ⟨g, _, rfl⟩ := h; rfl
  | pin ds => obtain ⟨g, o, rfl, _⟩ := h; rfl
  | clo f cs => obtain ⟨vs, rfl, _⟩ := h; rfl
  | agg cs => cases h1
  | tup cs => cases h1
  | un => cases h1
theorem RL.oneCell {M : Mm} {w : World} : ∀ {cs : List AV} {vs : List Value}, RL M w cs vs → cs.all AV.one = true → ∀ u ∈ vs, u.oneCell' = true
  | [], _, h, _ => by rw [show _ = _ from h]; intro u hu; cases hu
  | c :: cs, _, ⟨u, us, h1, h2, h3⟩, ha => by
    subst h1
    rw [List.all_cons, Bool.and_eq_true] at ha
    intro x hx
    rcases List.mem_cons.1 hx with rfl | hx
    · exact h2.oneCell ha.1
    · exact RL.oneCell h3 ha.2 x hx
theorem cells_one {v : Value} (h : v.oneCell' = true) : v.cells = #[v] := by
  cases v <;> first | rfl | cases h
/-- the cells of a value -/
theorem RV.cells {M : Mm} {w : World} {a : AV} {v : Value} (h : RV M w a v) (h1 : a.cells.all AV.one = true) : ∃ vs, v.cells = vs.toArray ∧ RL M w a.cells vs := by
  cases a with
  | agg cs => obtain ⟨vs, rfl, hr⟩ := h; exact ⟨vs, rfl, hr⟩
  | tup cs => simp [AV.cells, AV.one] at h1
  | un => simp [AV.cells, AV.one] at h1
  | _ =>
    refine ⟨[v], ?_, v, [], rfl, h, rfl⟩
    rw [cells_one (h.oneCell (by simpa [AV.cells] using h1))]
structure Inv (n0 : Nat) (w0 : World) (ok0 : Nat → Prop) (M : Mm) (nt : Nat) (tm : Nat → AV) (bx : Nat → Option (List AV)) (a : Act) (w : World) : Prop where
  below : Below n0 w0 w
  le : n0 ≤ w.heap.size
  defers : a.defers = []
  size : a.tmps.size = nt
  tmps : ∀ t, RV M w (tm t) (a.tmps.getD t undef)
  box : ∀ b cs, bx b = some cs → ∃ g T vs, M.m b = some g ∧ BlkIs w g T vs.toArray ∧ RL M w cs vs
  dom : ∀ b g, M.m b = some g → n0 ≤ g ∧ g < w.heap.size ∧ ¬ M.F g ∧ (bx b).isSome = true
  inj : ∀ b b' g, M.m b = some g → M.m b' = some g → b = b'
  fz : ∀ b, M.F b → b < w.heap.size
  src : ∀ b, M.F b → b < n0 → ok0 b
def toAV : Value → AV
  | .slice none 0 0 => .dt (.row [])
  | v => .dt (.val v)
theorem toAV_rv (M : Mm) (w : World) (v : Value) : RV M w (toAV v) v := by
  unfold toAV
  split
  · exact .nil _ _
  · exact .val _
theorem toAV_rl (M : Mm) (w : World) : ∀ vs : List Value, RL M w (vs.map toAV) vs
  | [] => rfl
  | v :: vs => ⟨v, vs, rfl, toAV_rv M w v, toAV_rl M w vs⟩
def aev (tm : Nat → AV) : Operand → AV
  | .tmp t => tm t
  | .const v => toAV v
  | .global _ => .un
  | .func f => .clo f []
theorem Inv.ev {n0 : Nat} {w0 : World} {ok0 : Nat → Prop} {M : Mm} {nt : Nat} {tm : Nat → AV} {bx : Nat → Option (List AV)} {a : Act} {w : World} (h : Inv n0 w0 ok0 M nt tm bx a w) (x : Operand) : RV M w (aev tm x) (a.eval x) := by
  cases x with
  | tmp t => exact h.tmps t
  | const v =>
    exact toAV_rv M w v
  | global g => trivial
  | func f => exact ⟨[], rfl, rfl⟩
def updT (tm : Nat → AV) (d : Option Nat) (r : AV) : Nat → AV := match d with
  | some d => fun t => if t = d then r else tm t
  | none => tm
def updB (bx : Nat → Option (List AV)) (x : Option (Nat × List AV)) : Nat → Option (List AV) := match x with
  | some (b, cs) => fun k => if k = b then some cs else bx k
  | none => bx
/-- the state behind an operation that yields v and leaves the boxes -/
theorem Inv.put {n0 : Nat} {w0 : World} {ok0 : Nat → Prop} {M M' : Mm} {nt : Nat} {tm : Nat → AV} {bx : Nat → Option (List AV)} {a : Act} {w w' : World} (h : Inv n0 w0 ok0 M nt tm bx a w) (g : Go1 n0 M w M' w')
    (hk : ∀ b g, M.m b = some g → w'.heap[g]? = w.heap[g]?) (hm : M'.m = M.m) (hF : ∀ b, M'.F b → b < w'.heap.size ∧ (M.F b ∨ w.heap.size ≤ b)) (d : Option Nat) (hd : ∀ t, d = some t → t < nt) {v : Value} {r : AV} (hr : RV M' w' r v) :
    Inv n0 w0 ok0 M' nt (updT tm d r) bx (a.put d v) w' := by
  refine ⟨h.below.trans g.below, Nat.le_trans h.le g.below.size, ?_, ?_, ?_, ?_, ?_, ?_, fun b hb => (hF b hb).1, fun b hb hl => ?_⟩
  · cases d <;> exact h.defers
  · cases d with
    | none => exact h.size
    | some d => show (a.tmps.setIfInBounds d v).size = nt; rw [Array.size_setIfInBounds]; exact h.size
  · intro t
    cases d with
    | none => exact RV.go g _ _ (h.tmps t)
    | some d =>
      have hd' := hd d rfl
      show RV M' w' (if t = d then r else tm t) ((a.tmps.setIfInBounds d v).getD t undef)
      by_cases e : t = d
      · subst e
        rw [if_pos rfl]
        have : (a.tmps.setIfInBounds t v).getD t undef = v := by
          have := h.size
          simp [show t < a.tmps.size by omega]
        rw [this]
        exact hr
      · rw [if_neg e]
        have : (a.tmps.setIfInBounds d v).getD t undef = a.tmps.getD t undef := by
          simp [Ne.symm e]
        rw [this]
        exact RV.go g _ _ (h.tmps t)
  · intro b cs hb
    obtain ⟨x, T, vs, h1, h2, h3⟩ := h.box b cs hb
    exact ⟨x, T, vs, g.m _ _ h1, h2.keep (hk b x h1), RL.go g _ _ h3⟩
  · intro b x hb
    rw [hm] at hb
    obtain ⟨h1, h2, h3, h4⟩ := h.dom b x hb
    refine ⟨h1, Nat.lt_of_lt_of_le h2 g.below.size, fun hf => ?_, h4⟩
    rcases (hF x hf).2 with e | e
    · exact h3 e
    · omega
  · intro b b' x h1 h2
    rw [hm] at h1 h2
    exact h.inj b b' x h1 h2
  · rcases (hF b hb).2 with e | e
    · exact h.src b e hl
    · have := h.le; omega
/-- nothing but a value -/
theorem Inv.val {n0 : Nat} {w0 : World} {ok0 : Nat → Prop} {M : Mm} {nt : Nat} {tm : Nat → AV} {bx : Nat → Option (List AV)} {a : Act} {w : World} (h : Inv n0 w0 ok0 M nt tm bx a w) (d : Option Nat) (hd : ∀ t, d = some t → t < nt) {v : Value} {r : AV} (hr : RV M w r v) :
    Inv n0 w0 ok0 M nt (updT tm d r) bx (a.put d v) w :=
  h.put (Go1.refl _ _ _) (fun _ _ _ => rfl) rfl (fun b hb => ⟨h.fz b hb, .inl hb⟩) d hd hr
/-- a call, or a block that stays as it is -/
theorem Inv.grown {n0 : Nat} {w0 : World} {ok0 : Nat → Prop} {M : Mm} {nt : Nat} {tm : Nat → AV} {bx : Nat → Option (List AV)} {a : Act} {w w' : World} (h : Inv n0 w0 ok0 M nt tm bx a w) (hb : Below w.heap.size w w') (d : Option Nat) (hd : ∀ t, d = some t → t < nt) {v : Value} {r : AV}
    (hr : RV ⟨M.m, fun b => (M.F b ∨ w.heap.size ≤ b) ∧ b < w'.heap.size⟩ w' r v) : ∃ M', Inv n0 w0 ok0 M' nt (updT tm d r) bx (a.put d v) w' :=
  have g : Go1 n0 M w ⟨M.m, fun b => (M.F b ∨ w.heap.size ≤ b) ∧ b < w'.heap.size⟩ w' := ⟨hb.mono h.le, fun b _ hl => hb.block b hl, fun _ hb' hl => ⟨.inl hb', Nat.lt_of_lt_of_le hl hb.size⟩, fun _ _ h => h⟩
  ⟨_, h.put g (fun b x hg => hb.block x (h.dom b x hg).2.1) rfl (fun _ hb' => ⟨hb'.2, hb'.1⟩) d hd hr⟩
/-- a new box -/
theorem Inv.alloc {n0 : Nat} {w0 : World} {ok0 : Nat → Prop} {M : Mm} {nt : Nat} {tm : Nat → AV} {bx : Nat → Option (List AV)} {a : Act} {w : World} (h : Inv n0 w0 ok0 M nt tm bx a w) {k : Nat} (hk : bx k = none) (T : TypeId) {cs : List AV} {vs : List Value} (hv : RL M w cs vs) (d : Option Nat) (hd : ∀ t, d = some t → t < nt) :
    ∃ M', Inv n0 w0 ok0 M' nt (updT tm d (.ptr k 0)) (updB bx (some (k, cs))) (a.put d (.pointer (some ⟨w.heap.size, 0, none⟩))) (w.alloc (.cells vs.toArray T)) := by
  have hm : M.m k = none := by
    cases e : M.m k with
    | none => rfl
    | some g => have := (h.dom k g e).2.2.2; rw [hk] at this; cases this
  let M' : Mm := ⟨fun b => if b = k then some w.heap.size else M.m b, M.F⟩
  have hmm : ∀ b g, M.m b = some g → M'.m b = some g := fun b g hb => by
    show (if b = k then some w.heap.size else M.m b) = some g
    by_cases e : b = k
    · subst e; rw [hm] at hb; cases hb
    · rw [if_neg e, hb]
  have hsz : (w.alloc (.cells vs.toArray T)).heap.size = w.heap.size + 1 := by simp
  have g : Go1 n0 M w M' (w.alloc (.cells vs.toArray T)) := ⟨(Below.refl _ _).alloc h.le _, fun b _ hl => Below.heap_alloc _ _ _ hl, fun b hb _ => hb, hmm⟩
  refine ⟨M', h.below.trans g.below, by rw [hsz]; have := h.le; omega, ?_, ?_, ?_, ?_, ?_, ?_, ?_, h.src⟩
  · cases d <;> exact h.defers
  · cases d with
    | none => exact h.size
    | some d => show (a.tmps.setIfInBounds d _).size = nt; rw [Array.size_setIfInBounds]; exact h.size
  · intro t
    cases d with
    | none => exact RV.go g _ _ (h.tmps t)
    | some d =>
      have hd' := hd d rfl
      show RV M' _ (if t = d then .ptr k 0 else tm t) ((a.tmps.setIfInBounds d _).getD t undef)
      by_cases e : t = d
      · subst e
        rw [if_pos rfl]
        refine ⟨w.heap.size, if_pos rfl, ?_⟩
        have := h.size
        simp [show t < a.tmps.size by omega]
      · rw [if_neg e]
        have : ∀ v, (a.tmps.setIfInBounds d v).getD t undef = a.tmps.getD t undef := fun v => by
          simp [Ne.symm e]
        rw [this]
        exact RV.go g _ _ (h.tmps t)
  · intro b cs' hb
    replace hb : (if b = k then some cs else bx b) = some cs' := hb
    by_cases e : b = k
    · rw [if_pos e] at hb
      cases hb
      exact ⟨w.heap.size, T, vs, by subst e; exact if_pos rfl, BlkIs.new w T vs.toArray, RL.go g _ _ hv⟩
    · rw [if_neg e] at hb
      obtain ⟨x, T', vs', h1, h2, h3⟩ := h.box b cs' hb
      exact ⟨x, T', vs', hmm _ _ h1, h2.alloc _, RL.go g _ _ h3⟩
  · intro b x hb
    replace hb : (if b = k then some w.heap.size else M.m b) = some x := hb
    show n0 ≤ x ∧ x < _ ∧ ¬ M.F x ∧ (if b = k then some cs else bx b).isSome = true
    by_cases e : b = k
    · rw [if_pos e] at hb ⊢
      cases hb
      exact ⟨h.le, by rw [hsz]; omega, fun hf => by have := h.fz _ hf; omega, rfl⟩
    · rw [if_neg e] at hb ⊢
      obtain ⟨h1, h2, h3, h4⟩ := h.dom b x hb
      exact ⟨h1, by rw [hsz]; omega, h3, h4⟩
  · intro b b' x h1 h2
    replace h1 : (if b = k then some w.heap.size else M.m b) = some x := h1
    replace h2 : (if b' = k then some w.heap.size else M.m b') = some x := h2
    by_cases e : b = k <;> by_cases e' : b' = k
    · rw [e, e']
    · rw [if_pos e] at h1; rw [if_neg e'] at h2
      cases h1
      have := (h.dom _ _ h2).2.1
      omega
    · rw [if_neg e] at h1; rw [if_pos e'] at h2
      cases h2
      have := (h.dom _ _ h1).2.1
      omega
    · rw [if_neg e] at h1; rw [if_neg e'] at h2
      exact h.inj _ _ _ h1 h2
  · intro b hb
    have := h.fz b hb
    rw [hsz]; omega
/-- a store into a box -/
theorem Inv.store {n0 : Nat} {w0 : World} {ok0 : Nat → Prop} {M : Mm} {nt : Nat} {tm : Nat → AV} {bx : Nat → Option (List AV)} {a : Act} {w : World} (h : Inv n0 w0 ok0 M nt tm bx a w) {b g : Nat} {T : TypeId} (hg : M.m b = some g) {old new : List Value} (hB : BlkIs w g T old.toArray) {cs : List AV} (hv : RL M w cs new) (d : Option Nat) (hd : ∀ t, d = some t → t < nt) :
    Inv n0 w0 ok0 M nt (updT tm d (.dt (.val undef))) (updB bx (some (b, cs))) (a.put d undef) (w.setRow g new.toArray) := by
  obtain ⟨hg0, hg1, hg2, _⟩ := h.dom b g hg
  have hother : ∀ x, x ≠ g → (w.setRow g new.toArray).heap[x]? = w.heap[x]? := fun x hx => by
    unfold World.setRow
    simp only [Array.getElem?_modify]
    rw [if_neg (Ne.symm hx)]
  have hthis : BlkIs (w.setRow g new.toArray) g T new.toArray := by
    unfold BlkIs at hB ⊢
    unfold World.setRow
    simp only [Array.getElem?_modify, if_true, hB, Option.map_some]
  have hsz : (w.setRow g new.toArray).heap.size = w.heap.size := by unfold World.setRow; simp
  have gg : Go1 n0 M w M (w.setRow g new.toArray) := ⟨⟨rfl, rfl, rfl, by rw [hsz]; exact Nat.le_refl _, fun x hx => hother x (by omega)⟩, fun x hx _ => hother x (fun e => hg2 (e ▸ hx)), fun _ h _ => h, fun _ _ h => h⟩
  refine ⟨h.below.trans gg.below, by rw [hsz]; exact h.le, ?_, ?_, ?_, ?_, ?_, h.inj, fun x hx => by rw [hsz]; exact h.fz x hx, h.src⟩
  · cases d <;> exact h.defers
  · cases d with
    | none => exact h.size
    | some d => show (a.tmps.setIfInBounds d _).size = nt; rw [Array.size_setIfInBounds]; exact h.size
  · intro t
    cases d with
    | none => exact RV.go gg _ _ (h.tmps t)
    | some d =>
      have hd' := hd d rfl
      show RV M _ (if t = d then .dt (.val undef) else tm t) ((a.tmps.setIfInBounds d _).getD t undef)
      by_cases e : t = d
      · subst e
        rw [if_pos rfl]
        have : (a.tmps.setIfInBounds t undef).getD t undef = undef := by
          have := h.size
          simp [show t < a.tmps.size by omega]
        rw [this]
        exact .val _
      · rw [if_neg e]
        have : ∀ v, (a.tmps.setIfInBounds d v).getD t undef = a.tmps.getD t undef := fun v => by
          simp [Ne.symm e]
        rw [this]
        exact RV.go gg _ _ (h.tmps t)
  · intro b' cs' hb
    replace hb : (if b' = b then some cs else bx b') = some cs' := hb
    by_cases e : b' = b
    · rw [if_pos e] at hb
      cases hb
      subst e
      exact ⟨g, T, new, hg, hthis, RL.go gg _ _ hv⟩
    · rw [if_neg e] at hb
      obtain ⟨x, T', vs', h1, h2, h3⟩ := h.box b' cs' hb
      exact ⟨x, T', vs', h1, h2.keep (hother x (fun ex => e (h.inj _ _ _ h1 (ex ▸ hg)))), RL.go gg _ _ h3⟩
  · intro b' x hb
    obtain ⟨h1, h2, h3, h4⟩ := h.dom b' x hb
    refine ⟨h1, by rw [hsz]; exact h2, h3, ?_⟩
    show (if b' = b then some cs else bx b').isSome = true
    by_cases e : b' = b
    · rw [if_pos e]; rfl
    · rw [if_neg e]; exact h4
end Go.Proofs.YtgphkgmhcmffnaaGreatDoor
/- Plain walks: what an operation does to plain values and boxes, and that the machine does the same. -/
namespace Go.Proofs.YtgphkgmhcmffnaaGreatDoor
open Go.RowKit

mutual
def AV.fl : AV → Bool
  | .dt _ => true
  | .pin _ => true
  | .agg cs => AV.fls cs
  | .tup cs => AV.fls cs
  | .clo _ cs => AV.fls cs
  | _ => false
def AV.fls : List AV → Bool
  | [] => true
  | c :: cs => AV.fl c && AV.fls cs
end
mutual
theorem RV.fl {M : Mm} {m' : Nat → Option Nat} {w : World} : ∀ (a : AV) (v : Value), a.fl = true → RV M w a v → RV ⟨m', M.F⟩ w a v
  | .dt d, v, _, h => h
  | .pin ds, v, _, h => h
  | .agg cs, v, hf, ⟨vs, h1, h2⟩ => ⟨vs, h1, RL.fl cs vs hf h2⟩
  | .tup cs, v, hf, ⟨vs, h1, h2⟩ => ⟨vs, h1, RL.fl cs vs hf h2⟩
  | .clo f cs, v, hf, ⟨vs, h1, h2⟩ => ⟨vs, h1, RL.fl cs vs hf h2⟩
  | .ptr _ _, _, hf, _ => by cases hf
  | .un, _, hf, _ => by cases hf
theorem RL.fl {M : Mm} {m' : Nat → Option Nat} {w : World} : ∀ (cs : List AV) (vs : List Value), AV.fls cs = true → RL M w cs vs → RL ⟨m', M.F⟩ w cs vs
  | [], _, _, h => h
  | c :: cs, _, hf, ⟨u, us, h1, h2, h3⟩ => by
    have hf' : (c.fl && AV.fls cs) = true := hf
    rw [Bool.and_eq_true] at hf'
    exact ⟨u, us, h1, RV.fl c u hf'.1 h2, RL.fl cs us hf'.2 h3⟩
end
/-- more boxes, more blocks that stay -/
theorem RV.more {M M' : Mm} {w : World} (hm : ∀ k g, M.m k = some g → M'.m k = some g) (hF : ∀ b, M.F b → b < w.heap.size → M'.F b) (a : AV) (v : Value) (h : RV M w a v) : RV M' w a v :=
  RV.go (n0 := 0) ⟨Below.refl _ _, fun _ _ _ => rfl, hF, hm⟩ a v h
def PureOK (P : Program) (G : World → Prop) (f : FuncId) (args : List AV) (r : AV) : Prop :=
  (∃ fn, P.funcs[f]? = some fn ∧ fn.body.isNone = false ∧ (fn.name == "runtime.NumGoroutine") = false) ∧
  ∀ (ok : Nat → Prop) (w : World) (vs : List Value), G w → RL ⟨fun _ => none, ok⟩ w args vs →
    Calls P f vs.toArray w (fun e w' => ∃ v, e = .returned v ∧ Below w.heap.size w w' ∧ RV ⟨fun _ => none, fun b => ok b ∨ w.heap.size ≤ b⟩ w' r v)
theorem call_run {P : Program} {f : FuncId} {args : Array Value} {w : World} (h : ∃ fn, P.funcs[f]? = some fn ∧ fn.body.isNone = false ∧ (fn.name == "runtime.NumGoroutine") = false) : (callFunc f args).run P w = .ok (.enter f args) w := by
  obtain ⟨fn, h1, h2, h3⟩ := h
  simp only [callFunc, program, Sem.run_bind, Sem.run, Result.andThen, h1, h2, h3, Bool.false_eq_true, if_false]
  rfl
inductive AAct where
  | val (v : AV)
  | load (b off n : Nat) (ag : Bool)
  | store (b off : Nat) (cs : List AV)
  | alloc (t : TypeId) (cs : List AV)
  | mk (t : TypeId) (es : List (List Dt))
  | call (f : FuncId) (args : List AV) (r : AV)
def AAct.isA : AAct → Bool
  | .alloc _ _ => true
  | _ => false
def AAct.run (bx : Nat → Option (List AV)) (k : Nat) : AAct → Option (AV × Option (Nat × List AV))
  | .val v => some (v, none)
  | .load b off n ag => match bx b with
    | some cs => match Nat.ble (off + n) cs.length with
      | true => match ag with
        | true => some (.agg ((cs.drop off).take n), none)
        | false => match cs[off]? with
          | some c => some (c, none)
          | none => none
      | false => none
    | none => none
  | .store b off vs => match bx b with
    | some cs => match Nat.ble (off + vs.length) cs.length && vs.all AV.one with
      | true => some (.dt (.val undef), some (b, cs.take off ++ vs ++ cs.drop (off + vs.length)))
      | false => none
    | none => none
  | .alloc _ cs => match cs.all AV.one with
    | true => some (.ptr k 0, some (k, cs))
    | false => none
  | .mk _ es => some (.dt (.row es), none)
  | .call _ _ r => some (r, none)
def asz (P : Program) (t : TypeId) : Option Nat := match P.info? t with | some i => some i.size | none => none
def aag (P : Program) (t : TypeId) : Option Bool := match P.underlying t with
  | some (.struct _) => some true
  | some (.array _ _) => some true
  | some _ => some false
  | none => none
theorem run_isAgg {P : Program} {t : TypeId} {b : Bool} (h : aag P t = some b) (w : World) : (isAgg t).run P w = .ok b w := by
  unfold aag at h
  unfold isAgg underlying
  cases hu : P.underlying t with
  | none => rw [hu] at h; cases h
  | some d =>
    simp only [program, Sem.run_bind, Sem.run, hu, Sem.run_pure, Result.andThen]
    cases d <;> (rw [hu] at h; cases h; rfl)
theorem run_sizeOf {P : Program} {t : TypeId} {n : Nat} (h : asz P t = some n) (w : World) : (sizeOf t).run P w = .ok n w := by
  unfold asz at h
  unfold sizeOf typeInfo
  cases hu : P.info? t with
  | none => rw [hu] at h; cases h
  | some d =>
    rw [hu] at h; cases h
    simp only [program, Sem.run_bind, Sem.run, hu, Sem.run_pure, Result.andThen]
theorem add_addr (g o n : Nat) : (⟨g, o, none⟩ : Addr).add n = ⟨g, o + n, none⟩ := by
  unfold Addr.add
  split
  · rename_i h; subst h; rfl
  · rfl
section
variable {P : Program} {G : World → Prop} {n0 : Nat} {w0 : World} {ok0 : Nat → Prop} {M : Mm} {nt : Nat} {tm : Nat → AV} {bx : Nat → Option (List AV)} {a : Act} {w : World} {o : Oper} {Q : Exit → Act → World → Prop}
/-- what is left behind an operation -/
def Left (n0 : Nat) (w0 : World) (ok0 : Nat → Prop) (nt : Nat) (tm : Nat → AV) (bx : Nat → Option (List AV)) (a : Act) (w : World) : Prop := ∃ M, Inv n0 w0 ok0 M nt tm bx a w
theorem wp_val {v : Value} {r : AV} (hI : Inv n0 w0 ok0 M nt tm bx a w) (hd : ∀ t, o.dst = some t → t < nt) (hrun : (execOp a.eval o).run P w = .ok (.value v) w) (hr : RV M w r v) :
    o.wp P a w (Left n0 w0 ok0 nt (updT tm o.dst r) (updB bx none)) Q := by
  unfold Oper.wp
  rw [hrun, Oper.upon_value]
  exact ⟨M, hI.val o.dst hd hr⟩
theorem wp_load_box {t : TypeId} {x : Operand} (ho : o.op = .load t x) (hI : Inv n0 w0 ok0 M nt tm bx a w) (hd : ∀ t, o.dst = some t → t < nt) {b off n : Nat} {ag : Bool} (hx : aev tm x = .ptr b off) (hn : asz P t = some n) (ha : aag P t = some ag) {r : AV} {y : Option (Nat × List AV)} (hr : (AAct.load b off n ag).run bx 0 = some (r, y)) :
    o.wp P a w (Left n0 w0 ok0 nt (updT tm o.dst r) (updB bx y)) Q := by
  have hv := hI.ev x
  rw [hx] at hv
  obtain ⟨g, hg, hv⟩ := hv
  simp only [AAct.run] at hr
  cases hb : bx b with
  | none => rw [hb] at hr; cases hr
  | some cs =>
    rw [hb] at hr
    obtain ⟨g', T, vs, hg', hB, hl⟩ := hI.box b cs hb
    rw [hg] at hg'; cases hg'
    simp only at hr
    cases hle : Nat.ble (off + n) cs.length with
    | false => rw [hle] at hr; cases hr
    | true =>
      rw [hle] at hr
      have hle' := Nat.le_of_ble_eq_true hle
      have hlen := hl.len
      simp only at hr
      obtain ⟨dd, op, ty, pos, af, gd⟩ := o
      simp only at ho
      subst ho
      cases ag with
      | true =>
        simp only [Option.some.injEq, Prod.mk.injEq] at hr
        obtain ⟨rfl, rfl⟩ := hr
        refine wp_val hI hd (v := .agg ((vs.drop off).take n).toArray) ?_ ⟨_, rfl, (hl.drop off).take n⟩
        have h1 : (loadCells ⟨g, off, none⟩ n).run P w = .ok ((vs.drop off).take n).toArray w := by
          have hn' : ((vs.drop off).take n).length = n := by simp; omega
          have := run_loadCells_list (P := P) w ⟨g, off, none⟩ ((vs.drop off).take n) (fun j v hj => by
            rw [add_addr, hB.cell]
            rw [List.getElem?_take] at hj
            split at hj
            · rw [List.getElem?_drop] at hj
              simpa using hj
            · cases hj)
          rwa [hn'] at this
        simp only [execOp, Instr.loadAt, loadVar, Instr.sureAddr, hv, Sem.run_bind, Sem.run_pure, Result.andThen, run_isAgg ha, run_sizeOf hn, h1, if_true]
      | false =>
        simp only at hr
        cases hc : cs[off]? with
        | none => rw [hc] at hr; cases hr
        | some c =>
          rw [hc] at hr
          simp only [Option.some.injEq, Prod.mk.injEq] at hr
          obtain ⟨rfl, rfl⟩ := hr
          obtain ⟨u, hu, hru⟩ := hl.get hc
          refine wp_val hI hd (v := u) ?_ hru
          have hcell : w.cell? ⟨g, off, none⟩ = some u := by rw [hB.cell]; simpa using hu
          simp only [execOp, Instr.loadAt, loadVar, Instr.sureAddr, hv, Sem.run_bind, Sem.run_pure, Result.andThen, run_isAgg ha, load, Sem.run, hcell, Bool.false_eq_true, if_false]
theorem wp_load_pin {t : TypeId} {x : Operand} (ho : o.op = .load t x) (hI : Inv n0 w0 ok0 M nt tm bx a w) (hd : ∀ t, o.dst = some t → t < nt) {ds : List Dt} {n : Nat} (hx : aev tm x = .pin ds) (hn : asz P t = some n) (ha : aag P t = some true) (hle : n ≤ ds.length) :
    o.wp P a w (Left n0 w0 ok0 nt (updT tm o.dst (.agg ((ds.take n).map .dt))) (updB bx none)) Q := by
  have hv := hI.ev x
  rw [hx] at hv
  obtain ⟨g, off, hv, hF, hlt, hc⟩ := hv
  have key : ∀ n, n ≤ ds.length → ∃ vs : List Value, vs.length = n ∧ (∀ j v, vs[j]? = some v → w.cell? ⟨g, off + j, none⟩ = some v) ∧ RL M w ((ds.take n).map .dt) vs := by
    intro n
    induction n with
    | zero => exact fun _ => ⟨[], rfl, fun j v hj => by simp at hj, rfl⟩
    | succ n ih =>
      intro hn
      obtain ⟨vs, h1, h2, h3⟩ := ih (by omega)
      obtain ⟨u, hu, hr⟩ := hc n (by omega)
      refine ⟨vs ++ [u], by simp [h1], fun j v hj => ?_, ?_⟩
      · rw [List.getElem?_append] at hj
        split at hj
        · exact h2 j v hj
        · rename_i hnj
          have : j = n := by
            cases hjn : j - vs.length with
            | zero => omega
            | succ k => rw [hjn] at hj; simp at hj
          subst this
          rw [h1, Nat.sub_self] at hj
          simp at hj
          rw [hu, hj]
      · rw [List.take_add_one, List.getElem?_eq_getElem (by omega), List.map_append]
        exact h3.append ⟨u, [], rfl, hr, rfl⟩
  obtain ⟨vs, h1, h2, h3⟩ := key n hle
  obtain ⟨dd, op, ty, pos, af, gd⟩ := o
  simp only at ho
  subst ho
  refine wp_val hI hd (v := .agg vs.toArray) ?_ ⟨_, rfl, h3⟩
  have h4 := run_loadCells_list (P := P) w ⟨g, off, none⟩ vs (fun j v hj => by rw [add_addr]; exact h2 j v hj)
  rw [h1] at h4
  simp only [execOp, Instr.loadAt, loadVar, Instr.sureAddr, hv, Sem.run_bind, Sem.run_pure, Result.andThen, run_isAgg ha, run_sizeOf hn, h4, if_true]
theorem wp_load_pin1 {t : TypeId} {x : Operand} (ho : o.op = .load t x) (hI : Inv n0 w0 ok0 M nt tm bx a w) (hd : ∀ t, o.dst = some t → t < nt) {d : Dt} {ds : List Dt} (hx : aev tm x = .pin (d :: ds)) (ha : aag P t = some false) :
    o.wp P a w (Left n0 w0 ok0 nt (updT tm o.dst (.dt d)) (updB bx none)) Q := by
  have hv := hI.ev x
  rw [hx] at hv
  obtain ⟨g, off, hv, hF, hlt, hc⟩ := hv
  obtain ⟨u, hu, hr⟩ := hc 0 (by simp)
  obtain ⟨dd, op, ty, pos, af, gd⟩ := o
  simp only at ho
  subst ho
  refine wp_val hI hd (v := u) ?_ hr
  simp only [Nat.add_zero] at hu
  simp only [execOp, Instr.loadAt, loadVar, Instr.sureAddr, hv, Sem.run_bind, Sem.run_pure, Result.andThen, run_isAgg ha, load, Sem.run, hu, Bool.false_eq_true, if_false]
theorem wp_store {t : TypeId} {x y : Operand} (ho : o.op = .store t x y) (hI : Inv n0 w0 ok0 M nt tm bx a w) (hd : ∀ t, o.dst = some t → t < nt) {b off : Nat} (hx : aev tm x = .ptr b off) (hn : asz P t = some (aev tm y).cells.length) {r : AV} {z : Option (Nat × List AV)} (hr : (AAct.store b off (aev tm y).cells).run bx 0 = some (r, z)) :
    o.wp P a w (Left n0 w0 ok0 nt (updT tm o.dst r) (updB bx z)) Q := by
  have hv := hI.ev x
  rw [hx] at hv
  obtain ⟨g, hg, hv⟩ := hv
  simp only [AAct.run] at hr
  cases hb : bx b with
  | none => rw [hb] at hr; cases hr
  | some cs =>
    rw [hb] at hr
    obtain ⟨g', T, vs, hg', hB, hl⟩ := hI.box b cs hb
    rw [hg] at hg'; cases hg'
    simp only at hr
    cases hle : (Nat.ble (off + (aev tm y).cells.length) cs.length && (aev tm y).cells.all AV.one) with
    | false => rw [hle] at hr; cases hr
    | true =>
      rw [hle] at hr
      simp only [Option.some.injEq, Prod.mk.injEq] at hr
      obtain ⟨rfl, rfl⟩ := hr
      rw [Bool.and_eq_true] at hle
      have hle' := Nat.le_of_ble_eq_true hle.1
      have hlen := hl.len
      obtain ⟨us, hu1, hu2⟩ := (hI.ev y).cells hle.2
      have hul := hu2.len
      have h1 := run_storeCells_at (P := P) g off T us 0 vs.toArray w hB (by simp; omega) (hu2.oneCell hle.2)
      simp only [Nat.add_zero] at h1
      have hrun : (execOp a.eval o).run P w = .ok .skip (w.setRow g (vs.take off ++ us ++ vs.drop (off + us.length)).toArray) := by
        obtain ⟨dd, op, ty, pos, af, gd⟩ := o
        simp only at ho
        subst ho
        have hsz : (a.eval y).cells.size = (aev tm y).cells.length := by rw [hu1]; simp [hul]
        simp only [execOp, Instr.storeAt, storeVar, Instr.sureAddr, hv, Sem.run_bind, Sem.run_pure, Result.andThen, run_sizeOf hn, hsz, ne_eq, not_true_eq_false, if_false]
        rw [hu1]
        simp only [h1]
      unfold Oper.wp
      rw [hrun, Oper.upon_skip]
      rw [← hul]
      exact ⟨M, hI.store hg hB (((hl.take off).append hu2).append (hl.drop (off + us.length))) o.dst hd⟩
theorem wp_alloc {t : TypeId} (ho : o.op = .alloc t) (hI : Inv n0 w0 ok0 M nt tm bx a w) (hd : ∀ t, o.dst = some t → t < nt) {k : Nat} (hk : bx k = none) {i : TypeInfo} {z : Value} (hi : P.info? t = some i) (hz : i.zero = some z) :
    o.wp P a w (Left n0 w0 ok0 nt (updT tm o.dst (.ptr k 0)) (updB bx (some (k, z.cells.toList.map toAV)))) Q := by
  have hrun : (execOp a.eval o).run P w = .ok (.value (.pointer (some ⟨w.heap.size, 0, none⟩))) (w.alloc (.cells z.cells.toList.toArray t)) := by
    obtain ⟨dd, op, ty, pos, af, gd⟩ := o
    simp only at ho
    subst ho
    simp only [execOp, Instr.alloc, zeroValue, typeInfo, program, newVar, newRow, newObj, Sem.run_bind, Sem.run, Sem.run_pure, Result.andThen, hi, hz]
    rfl
  unfold Oper.wp
  rw [hrun, Oper.upon_value]
  exact hI.alloc hk t (toAV_rl M w _) o.dst hd
theorem wp_box {t : TypeId} {x : Operand} (ho : o.op = .box t x) (hI : Inv n0 w0 ok0 M nt tm bx a w) (hd : ∀ t, o.dst = some t → t < nt) {k : Nat} (hk : bx k = none) (h1 : (aev tm x).cells.all AV.one = true) :
    o.wp P a w (Left n0 w0 ok0 nt (updT tm o.dst (.ptr k 0)) (updB bx (some (k, (aev tm x).cells)))) Q := by
  obtain ⟨us, hu1, hu2⟩ := (hI.ev x).cells h1
  have hrun : (execOp a.eval o).run P w = .ok (.value (.pointer (some ⟨w.heap.size, 0, none⟩))) (w.alloc (.cells us.toArray t)) := by
    obtain ⟨dd, op, ty, pos, af, gd⟩ := o
    simp only at ho
    subst ho
    simp only [execOp, Instr.box, newVar, newRow, newObj, Sem.run_bind, Sem.run, Sem.run_pure, Result.andThen, hu1]
    rfl
  unfold Oper.wp
  rw [hrun, Oper.upon_value]
  exact hI.alloc hk t hu2 o.dst hd
theorem RL.map {M : Mm} {w : World} {ρ : Operand → AV} {ε : Operand → Value} (h : ∀ x, RV M w (ρ x) (ε x)) : ∀ xs : List Operand, RL M w (xs.map ρ) (xs.map ε)
  | [] => rfl
  | x :: xs => ⟨ε x, xs.map ε, rfl, h x, RL.map h xs⟩
theorem wp_call {x : Operand} {args : Array Operand} {ts : Array TypeId} (ho : o.op = .call ⟨.value x, args, ts⟩) (hI : Inv n0 w0 ok0 M nt tm bx a w) (hd : ∀ t, o.dst = some t → t < nt) (hG : G w) {f : FuncId} {caps : List AV} {r : AV} (hx : aev tm x = .clo f caps)
    (hfl : AV.fls (args.toList.map (aev tm) ++ caps) = true) (hc : PureOK P G f (args.toList.map (aev tm) ++ caps) r) :
    o.wp P a w (Left n0 w0 ok0 nt (updT tm o.dst r) (updB bx none)) Q := by
  have hv := hI.ev x
  rw [hx] at hv
  obtain ⟨us, hv, hus⟩ := hv
  have hargs : RL M w (args.toList.map (aev tm) ++ caps) (args.toList.map a.eval ++ us) := (RL.map hI.ev _).append hus
  have hrun : (execOp a.eval o).run P w = .ok (.enter f (args.toList.map a.eval ++ us).toArray) w := by
    obtain ⟨dd, op, ty, pos, af, gd⟩ := o
    simp only at ho
    subst ho
    have e : args.map a.eval ++ us.toArray = (args.toList.map a.eval ++ us).toArray := by
      apply Array.ext'
      simp
    simp only [execOp, resolve, invoke, hv, Deferred.ofValue, Sem.run_bind, Sem.run_pure, Result.andThen, Array.empty_append]
    rw [e]
    exact call_run hc.1
  unfold Oper.wp
  rw [hrun, Oper.upon_enter]
  refine (hc.2 M.F w _ hG (RL.fl _ _ hfl hargs)).mono ?_
  rintro e w' ⟨v, rfl, hb, hr⟩
  exact hI.grown hb o.dst hd (RV.more (M' := ⟨M.m, fun b => (M.F b ∨ w.heap.size ≤ b) ∧ b < w'.heap.size⟩) (fun _ _ h => by cases h) (fun b hb' hl => ⟨hb', hl⟩) _ _ hr)
end
end Go.Proofs.YtgphkgmhcmffnaaGreatDoor
/- Plain walks: the other operations; all operations in one. -/
namespace Go.Proofs.YtgphkgmhcmffnaaGreatDoor
open Go.RowKit

def svs : List AV → Option (List Value)
  | [] => some []
  | .dt (.val v) :: cs => match svs cs with
    | some vs => some (v :: vs)
    | none => none
  | _ :: _ => none
/-- a value without memory -/
def AV.sv : AV → Option Value
  | .dt (.val v) => some v
  | .agg cs => match svs cs with
    | some vs => some (.agg vs.toArray)
    | none => none
  | _ => none
theorem RL.svs {M : Mm} {w : World} : ∀ {cs : List AV} {vs us : List Value}, RL M w cs vs → svs cs = some us → vs = us
  | [], _, _, h, hs => by cases hs; exact h
  | .dt (.val v) :: cs, _, us, ⟨u, us', h1, h2, h3⟩, hs => by
    have h2' : u = v := Rd.val_eq h2
    cases hc : Go.Proofs.YtgphkgmhcmffnaaGreatDoor.svs cs with
    | none => simp [Go.Proofs.YtgphkgmhcmffnaaGreatDoor.svs, hc] at hs
    | some ys =>
      simp only [Go.Proofs.YtgphkgmhcmffnaaGreatDoor.svs, hc, Option.some.injEq] at hs
      rw [h1, h2', RL.svs h3 hc, hs]
  | .dt (.row _) :: cs, _, us, _, hs => by simp [Go.Proofs.YtgphkgmhcmffnaaGreatDoor.svs] at hs
  | .ptr _ _ :: cs, _, us, _, hs => by simp [Go.Proofs.YtgphkgmhcmffnaaGreatDoor.svs] at hs
  | .pin _ :: cs, _, us, _, hs => by simp [Go.Proofs.YtgphkgmhcmffnaaGreatDoor.svs] at hs
  | .agg _ :: cs, _, us, _, hs => by simp [Go.Proofs.YtgphkgmhcmffnaaGreatDoor.svs] at hs
  | .tup _ :: cs, _, us, _, hs => by simp [Go.Proofs.YtgphkgmhcmffnaaGreatDoor.svs] at hs
  | .clo _ _ :: cs, _, us, _, hs => by simp [Go.Proofs.YtgphkgmhcmffnaaGreatDoor.svs] at hs
  | .un :: cs, _, us, _, hs => by simp [Go.Proofs.YtgphkgmhcmffnaaGreatDoor.svs] at hs
theorem RV.sv {M : Mm} {w : World} {a : AV} {v u : Value} (h : RV M w a v) (hs : a.sv = some u) : v = u := by
  cases a with
  | dt d => cases d with
    | val x => cases hs; exact Rd.val_eq h
    | row l => cases hs
  | agg cs =>
    obtain ⟨vs, rfl, hl⟩ := h
    cases hc : svs cs with
    | none => simp [AV.sv, hc] at hs
    | some ys =>
      simp only [AV.sv, hc, Option.some.injEq] at hs
      rw [← hs, hl.svs hc]
  | _ => cases hs
def BinIs (P : Program) (op : BinOp) (t : TypeId) (x y : Operand) (vx vy r : Value) : Prop :=
  ∀ w, Sem.run P (do eqGuard op t x y vx vy; binOp op t vx vy) w = .ok r w
def sbin : BinOp → Value → Value → Option Value
  | .add, .int k a, .int k' b => match decide (k = k') with | true => some (.int k (k.wrap (a + b))) | false => none
  | .sub, .int k a, .int k' b => match decide (k = k') with | true => some (.int k (k.wrap (a - b))) | false => none
  | .mul, .int k a, .int k' b => match decide (k = k') with | true => some (.int k (k.wrap (a * b))) | false => none
  | .eql, .int k a, .int k' b => match decide (k = k') with | true => some (.bool (a == b)) | false => none
  | .neq, .int k a, .int k' b => match decide (k = k') with | true => some (.bool (a != b)) | false => none
  | .lss, .int k a, .int k' b => match decide (k = k') with | true => some (.bool (decide (a < b))) | false => none
  | .leq, .int k a, .int k' b => match decide (k = k') with | true => some (.bool (decide (a ≤ b))) | false => none
  | .gtr, .int k a, .int k' b => match decide (k = k') with | true => some (.bool (decide (a > b))) | false => none
  | .geq, .int k a, .int k' b => match decide (k = k') with | true => some (.bool (decide (a ≥ b))) | false => none
  | .eql, .string a, .string b => some (.bool (a.toList == b.toList))
  | .neq, .string a, .string b => some (.bool !(a.toList == b.toList))
  | .lss, .string a, .string b => some (.bool (Op.bytesLess a.toList b.toList))
  | _, _, _ => none
theorem sbin_is {P : Program} {op : BinOp} {t : TypeId} {x y : Operand} {vx vy r : Value} (h : sbin op vx vy = some r) : BinIs P op t x y vx vy r := by
  intro w
  unfold sbin at h
  split at h <;> try (split at h)
  all_goals first
    | (cases h; done)
    | (rename_i hk
       have e := of_decide_eq_true hk
       subst e
       cases h
       simp [eqGuard, binOp, Op.intArith, Op.intCmp]
       done)
    | (cases h
       rfl)
/-- the strings joined -/
theorem bin_cat {P : Program} {t : TypeId} {x y : Operand} {a b : ByteArray} (h : ((a.size + b.size : Nat) : Int) ≤ IntKind.i64.max) : BinIs P .add t x y (.string a) (.string b) (.string (a ++ b)) := by
  intro w
  have h' : ¬ ((a.size + b.size : Nat) : Int) > IntKind.i64.max := by omega
  simp only [eqGuard, binOp, Op.stringOp, if_neg h']
  rfl
def afill (place : Nat → Option (Nat × Nat)) : List AV → List (Nat × AV) → Option (List AV)
  | cs, [] => some cs
  | cs, (i, v) :: rest => match place i with
    | none => none
    | some (off, size) => match Nat.beq v.cells.length size && Nat.ble (off + v.cells.length) cs.length && v.cells.all AV.one with
      | true => afill place (cs.take off ++ v.cells ++ cs.drop (off + v.cells.length)) rest
      | false => none
theorem fold_set (off : Nat) : ∀ (us : List Value) (k : Nat) (vs : List Value), off + k + us.length ≤ vs.length →
    (us.zipIdx k).foldl (fun (cs : Array Value) (x : Value × Nat) => cs.setIfInBounds (off + x.2) x.1) vs.toArray = (vs.take (off + k) ++ us ++ vs.drop (off + k + us.length)).toArray
  | [], k, vs, h => by simp
  | u :: us, k, vs, h => by
    rw [List.length_cons] at h
    rw [List.zipIdx_cons, List.foldl_cons]
    have e : (vs.toArray.setIfInBounds (off + k) u) = (vs.set (off + k) u).toArray := by simp
    simp only [e]
    rw [fold_set off us (k + 1) (vs.set (off + k) u) (by simp; omega)]
    congr 1
    have h1 : (vs.set (off + k) u).take (off + (k + 1)) = vs.take (off + k) ++ [u] := by
      rw [List.set_eq_take_append_cons_drop, if_pos (by omega), List.take_append, List.take_of_length_le (by simp; omega)]
      simp [List.length_take]
      rw [show off + (k + 1) - min (off + k) vs.length = 1 by omega]
      rfl
    have h2 : (vs.set (off + k) u).drop (off + (k + 1) + us.length) = vs.drop (off + k + (us.length + 1)) := by
      rw [List.drop_set, if_pos (by omega)]
      congr 1
      omega
    rw [h1, h2, List.length_cons]
    simp
/-- parts and what they stand for -/
def RP (M : Mm) (w : World) : List (Nat × AV) → List (Nat × Value) → Prop
  | [], ps => ps = []
  | (i, a) :: qs, ps => ∃ v vs, ps = (i, v) :: vs ∧ RV M w a v ∧ RP M w qs vs
theorem RP.map {M : Mm} {w : World} {ρ : Operand → AV} {ε : Operand → Value} (h : ∀ x, RV M w (ρ x) (ε x)) : ∀ xs : List (Nat × Operand), RP M w (xs.map fun x => (x.1, ρ x.2)) (xs.map fun x => (x.1, ε x.2))
  | [] => rfl
  | x :: xs => ⟨_, _, rfl, h x.2, RP.map h xs⟩
theorem fill_rl {M : Mm} {w : World} {place : Nat → Option (Nat × Nat)} : ∀ {qs : List (Nat × AV)} {ps : List (Nat × Value)} {cs cs' : List AV} {vs : List Value}, RP M w qs ps → RL M w cs vs → afill place cs qs = some cs' → ∃ vs', Instr.fill place vs.toArray ps = some vs'.toArray ∧ RL M w cs' vs'
  | [], ps, cs, cs', vs, hp, hl, h => by
    cases h
    rw [show ps = [] from hp]
    exact ⟨vs, rfl, hl⟩
  | (i, a) :: qs, _, cs, cs', vs, ⟨v, rest, hp, hv, hr⟩, hl, h => by
    subst hp
    unfold afill at h
    unfold Instr.fill
    cases hpl : place i with
    | none => rw [hpl] at h; cases h
    | some x =>
      obtain ⟨off, size⟩ := x
      rw [hpl] at h
      simp only at h ⊢
      cases hc : (Nat.beq a.cells.length size && Nat.ble (off + a.cells.length) cs.length && a.cells.all AV.one) with
      | false => rw [hc] at h; cases h
      | true =>
        rw [hc] at h
        simp only at h
        simp only [Bool.and_eq_true] at hc
        have h1 := Nat.eq_of_beq_eq_true hc.1.1
        have h2 := Nat.le_of_ble_eq_true hc.1.2
        obtain ⟨us, hu1, hu2⟩ := hv.cells hc.2
        have hul := hu2.len
        have hvl := hl.len
        have e1 : (v.cells.size ≠ size || decide (off + v.cells.size > vs.toArray.size)) = false := by
          rw [hu1]
          simp
          omega
        have e2 : v.cells.zipIdx.foldl (fun cs (x : Value × Nat) => cs.setIfInBounds (off + x.2) x.1) vs.toArray = (vs.take off ++ us ++ vs.drop (off + us.length)).toArray := by
          have := fold_set off us 0 vs (by omega)
          rw [hu1]
          simp only [Nat.add_zero] at this
          rw [← this, ← Array.foldl_toList]
          simp
        rw [if_neg (by rw [e1]; simp), e2]
        refine fill_rl hr (((hl.take off).append hu2).append (hl.drop (off + us.length))) ?_
        rw [hul]
        exact h
end Go.Proofs.YtgphkgmhcmffnaaGreatDoor
/- Plain walks: all operations. -/
namespace Go.Proofs.YtgphkgmhcmffnaaGreatDoor
open Go.RowKit

def IxAt (es : List (List Dt)) (n : Int) (sz : Nat) (ds : List Dt) : Prop := 0 ≤ n ∧ es[n.toNat]? = some ds ∧ ds.length = sz
def IxS (s : ByteArray) (n : Int) (r : Value) : Prop := ∃ b, 0 ≤ n ∧ s[n.toNat]? = some b ∧ r = .int .u8 b.toNat
def dts : List AV → Option (List Dt)
  | [] => some []
  | .dt d :: cs => match dts cs with
    | some ds => some (d :: ds)
    | none => none
  | _ :: _ => none
def chunks (ds : List Dt) (sz len : Nat) : List (List Dt) := (List.range len).map fun i => (ds.drop (i * sz)).take sz
def afld (P : Program) (t : TypeId) (f : Nat) : Option (Nat × TypeId) := match P.underlying t with
  | some (.struct fs) => match fs[f]? with
    | some fl => some (fl.offset, fl.type)
    | none => none
  | _ => none
def aplaces (P : Program) : List Field → Option (List (Nat × Nat))
  | [] => some []
  | f :: fs => match P.info? f.type, aplaces P fs with
    | some i, some r => some ((f.offset, i.size) :: r)
    | _, _ => none
def azero (P : Program) (t : TypeId) : Option (List AV) := match P.info? t with
  | some i => match i.zero with
    | some z => some (z.cells.toList.map toAV)
    | none => none
  | none => none
def abuild (P : Program) (t : TypeId) (ps : List (Nat × AV)) : Option (List AV) := match azero P t, P.underlying t with
  | some z, some (.struct fs) => match aplaces P fs.toList with
    | some pl => afill (pl.toArray[·]?) z ps
    | none => none
  | _, _ => none
def aelem (P : Program) (t : TypeId) : Option (TypeId × Nat × Value) := match P.underlying t with
  | some (.slice e) => match P.info? e with
    | some i => match i.zero with
      | some z => some (e, i.size, z)
      | none => none
    | none => none
  | _ => none
def aslice (P : Program) (t : TypeId) (len : Nat) (ps : List (Nat × AV)) : Option (TypeId × List (List Dt)) := match aelem P t with
  | some (e, sz, z) => match !Nat.beq (len * sz) 0 && Nat.ble (len * sz) 100000 with
    | true => match afill (fun i => some (i * sz, sz)) ((List.range (len * sz)).map fun i => toAV (z.cells[i % z.cells.size]!)) ps with
      | some cs => match dts cs, cs.all AV.one && Nat.beq cs.length (len * sz) with
        | some ds, true => some (e, chunks ds sz len)
        | _, _ => none
      | none => none
    | false => none
  | none => none
def isLen (c : Call) : Bool := match c.callee with | .builtin .len => true | _ => false
/-- an operation: what it does, what must be shown, and the answers that are left -/
def adec (P : Program) (G : World → Prop) (op : Op) (ρ : Operand → AV) (an : List (Option AV)) : Option (AAct × List Prop × List (Option AV)) := match op with
  | .move x => some (.val (ρ x), [], an)
  | .assign x => some (.val (ρ x), [], an)
  | .pick c x y => match ρ c with
    | .dt (.val (.bool t)) => some (.val (match t with | true => ρ x | false => ρ y), [], an)
    | _ => none
  | .alloc t => match azero P t with
    | some z => some (.alloc t z, [], an)
    | none => none
  | .box t x => some (.alloc t (ρ x).cells, [], an)
  | .load t x => match asz P t, aag P t, ρ x with
    | some n, some ag, .ptr b off => some (.load b off n ag, [], an)
    | some n, some true, .pin ds => match Nat.ble n ds.length with
      | true => some (.val (.agg ((ds.take n).map .dt)), [], an)
      | false => none
    | some _, some false, .pin (d :: _) => some (.val (.dt d), [], an)
    | _, _, _ => none
  | .store t x y => match asz P t, ρ x with
    | some n, .ptr b off => match Nat.beq n (ρ y).cells.length with
      | true => some (.store b off (ρ y).cells, [], an)
      | false => none
    | _, _ => none
  | .build t ps => match abuild P t (ps.toList.map fun x => (x.1, ρ x.2)) with
    | some cs => some (.val (.agg cs), [], an)
    | none => none
  | .buildSlice t len ps => match aslice P t len (ps.toList.map fun x => (x.1, ρ x.2)) with
    | some (e, es) => some (.mk e es, [], an)
    | none => none
  | .fieldAddr t x f => match afld P t f with
    | some (off, ft) => match asz P ft with
      | some (_ + 1) => match ρ x with
        | .ptr b o => some (.val (.ptr b (o + off)), [], an)
        | .pin ds => some (.val (.pin (ds.drop off)), [], an)
        | _ => none
      | _ => none
    | none => none
  | .field t x f => match afld P t f with
    | some (off, ft) => match asz P ft, aag P ft, ρ x with
      | some n, some true, .agg cs => some (.val (.agg ((cs.drop off).take n)), [], an)
      | some _, some false, .agg cs => match cs[off]? with
        | some c => some (.val c, [], an)
        | none => none
      | _, _, _ => none
    | none => none
  | .indexAddr t x i => match aelem P t, ρ x, ρ i, an with
    | some (_, sz, _), .dt (.row es), .dt (.val (.int _ n)), some (.pin ds) :: an => some (.val (.pin ds), [IxAt es n sz ds], an)
    | _, _, _, _ => none
  | .index t x i => match P.underlying t, ρ x, ρ i, an with
    | some .string, .dt (.val (.string s)), .dt (.val (.int _ n)), some (.dt (.val r)) :: an => some (.val (.dt (.val r)), [IxS s n r], an)
    | _, _, _, _ => none
  | .binOp op t x y _ => match (ρ x).sv, (ρ y).sv, an with
    | some vx, some vy, none :: an => match sbin op vx vy with
      | some r => some (.val (.dt (.val r)), [], an)
      | none => none
    | some vx, some vy, some (.dt (.val r)) :: an => some (.val (.dt (.val r)), [BinIs P op t x y vx vy r], an)
    | _, _, _ => none
  | .unOp .not _ x => match ρ x with
    | .dt (.val (.bool b)) => some (.val (.dt (.val (.bool !b))), [], an)
    | _ => none
  | .extract x i => match ρ x with
    | .tup cs => match cs[i]? with
      | some c => some (.val c, [], an)
      | none => none
    | _ => none
  | .call ⟨.value x, args, _⟩ => match ρ x, an with
    | .clo f caps, some r :: an => match AV.fls (args.toList.map ρ ++ caps) with
      | true => some (.call f (args.toList.map ρ ++ caps) r, [PureOK P G f (args.toList.map ρ ++ caps) r], an)
      | false => none
    | _, _ => none
  | .call ⟨.builtin .len, ⟨[x]⟩, ⟨t :: _⟩⟩ => match P.underlying t, ρ x with
    | some (.slice _), .dt (.row es) => match an with
      | none :: an => some (.val (.dt (.val (.int .i64 es.length))), [], an)
      | some (.dt (.val r)) :: an => some (.val (.dt (.val r)), [r = .int .i64 es.length], an)
      | _ => none
    | some .string, .dt (.val (.string s)) => match an with
      | none :: an => some (.val (.dt (.val (.int .i64 s.size))), [], an)
      | some (.dt (.val r)) :: an => some (.val (.dt (.val r)), [r = .int .i64 s.size], an)
      | _ => none
    | _, _ => none
  | .call ⟨.builtin .max, ⟨[x, y]⟩, _⟩ => match ρ x, ρ y, an with
    | .dt (.val (.int k p)), .dt (.val (.int _ q)), some (.dt (.val r)) :: an => some (.val (.dt (.val r)), [r = .int k (if q > p then q else p)], an)
    | _, _, _ => none
  | _ => none
def AllP : List Prop → Prop
  | [] => True
  | p :: ps => p ∧ AllP ps
theorem afld_run {P : Program} {t : TypeId} {f off : Nat} {ft : TypeId} (h : afld P t f = some (off, ft)) : ∃ fs fl, P.underlying t = some (.struct fs) ∧ fs[f]? = some fl ∧ fl.offset = off ∧ fl.type = ft := by
  unfold afld at h
  split at h
  · rename_i fs hu
    split at h
    · rename_i fl hf
      cases h
      exact ⟨fs, fl, hu, hf, rfl, rfl⟩
    · cases h
  · cases h
theorem aplaces_eq {P : Program} : ∀ {fs : List Field} {pl : List (Nat × Nat)}, aplaces P fs = some pl → fs.mapM (fun f => (P.info? f.type).map fun i => (f.offset, i.size)) = some pl
  | [], _, h => by cases h; rfl
  | f :: fs, pl, h => by
    unfold aplaces at h
    split at h
    · rename_i i r h1 h2
      cases h
      simp [List.mapM_cons, h1, aplaces_eq h2]
    · cases h
theorem azero_run {P : Program} {t : TypeId} {z : List AV} (h : azero P t = some z) : ∃ i v, P.info? t = some i ∧ i.zero = some v ∧ z = v.cells.toList.map toAV := by
  unfold azero at h
  split at h
  · rename_i i hi
    split at h
    · rename_i v hv
      cases h
      exact ⟨i, v, hi, hv, rfl⟩
    · cases h
  · cases h
theorem abuild_rv {P : Program} {M : Mm} {w : World} {t : TypeId} {qs : List (Nat × AV)} {ps : List (Nat × Value)} {cs : List AV} (hp : RP M w qs ps) (h : abuild P t qs = some cs) : ∃ vs : List Value, P.built t ps = some vs.toArray ∧ RL M w cs vs := by
  unfold abuild at h
  split at h
  · rename_i z fs hz hu
    split at h
    · rename_i pl hpl
      obtain ⟨i, v, hi, hv, rfl⟩ := azero_run hz
      obtain ⟨vs, h1, h2⟩ := fill_rl hp (toAV_rl M w v.cells.toList) h
      refine ⟨vs, ?_, h2⟩
      unfold Program.built
      rw [hi, hu]
      simp only
      rw [hv, aplaces_eq hpl]
      simpa using h1
    · cases h
  · cases h
theorem aelem_run {P : Program} {t e : TypeId} {sz : Nat} {z : Value} (h : aelem P t = some (e, sz, z)) : ∃ i, P.underlying t = some (.slice e) ∧ P.info? e = some i ∧ i.size = sz ∧ i.zero = some z := by
  unfold aelem at h
  split at h
  · rename_i e' hu
    split at h
    · rename_i i hi
      split at h
      · rename_i z' hz
        cases h
        exact ⟨i, hu, hi, rfl, hz⟩
      · cases h
    · cases h
  · cases h
theorem dts_eq : ∀ {cs : List AV} {ds : List Dt}, dts cs = some ds → cs = ds.map .dt
  | [], _, h => by cases h; rfl
  | .dt d :: cs, ds, h => by
    unfold dts at h
    split at h
    · rename_i ds' h'
      cases h
      rw [dts_eq h']; rfl
    · cases h
  | .ptr _ _ :: _, _, h => by simp [dts] at h
  | .pin _ :: _, _, h => by simp [dts] at h
  | .agg _ :: _, _, h => by simp [dts] at h
  | .tup _ :: _, _, h => by simp [dts] at h
  | .clo _ _ :: _, _, h => by simp [dts] at h
  | .un :: _, _, h => by simp [dts] at h
section
variable {P : Program} {G : World → Prop} {n0 : Nat} {w0 : World} {ok0 : Nat → Prop} {M : Mm} {nt : Nat} {tm : Nat → AV} {bx : Nat → Option (List AV)} {a : Act} {w : World} {o : Oper} {Q : Exit → Act → World → Prop}
theorem wp_slice {t : TypeId} {len : Nat} {ps : Array (Nat × Operand)} (ho : o.op = .buildSlice t len ps) (hI : Inv n0 w0 ok0 M nt tm bx a w) (hd : ∀ t, o.dst = some t → t < nt) {e : TypeId} {es : List (List Dt)} (h : aslice P t len (ps.toList.map fun x => (x.1, aev tm x.2)) = some (e, es)) :
    o.wp P a w (Left n0 w0 ok0 nt (updT tm o.dst (.dt (.row es))) (updB bx none)) Q := by
  unfold aslice at h
  split at h
  case h_2 => cases h
  rename_i e' sz z he
  split at h
  case h_2 => cases h
  rename_i hsz
  split at h
  case h_2 => cases h
  rename_i cs hcs
  split at h
  case h_2 => cases h
  rename_i ds hds hone
  cases h
  obtain ⟨ie, hu, hie, rfl, hz⟩ := aelem_run he
  rw [Bool.and_eq_true] at hsz hone
  have hpos : ¬ len * ie.size = 0 := fun e => by rw [e] at hsz; exact absurd hsz.1 (by decide)
  have hsm := Nat.le_of_ble_eq_true hsz.2
  have hcl := Nat.eq_of_beq_eq_true hone.2
  obtain ⟨vs, h1, h2⟩ := fill_rl (M := M) (w := w) (RP.map hI.ev ps.toList) (vs := (List.range (len * ie.size)).map fun i => z.cells[i % z.cells.size]!) (by
    have := toAV_rl M w ((List.range (len * ie.size)).map fun i => z.cells[i % z.cells.size]!)
    rwa [List.map_map] at this) hcs
  have hrun : (execOp a.eval o).run P w = .ok (.value (.slice (some ⟨w.heap.size, 0, none⟩) len len)) (w.alloc (.cells vs.toArray e)) := by
    obtain ⟨dd, op, ty, pos, af, gd⟩ := o
    simp only at ho
    subst ho
    have := run_buildSlice (P := P) w t e len (ps.map fun x => (x.1, a.eval x.2)) vs.toArray ie z hu hie hz (by omega) hpos (by
      rw [show (Array.range (len * ie.size)).map (fun i => z.cells[i % z.cells.size]!) = ((List.range (len * ie.size)).map fun i => z.cells[i % z.cells.size]!).toArray by apply Array.ext'; simp]
      rw [← h1]
      simp)
    simp only [execOp, Sem.run_bind, this, Result.andThen, Sem.run_pure]
  unfold Oper.wp
  rw [hrun, Oper.upon_value]
  have hb : Below w.heap.size w (w.alloc (.cells vs.toArray e)) := (Below.refl _ _).alloc (Nat.le_refl _) _
  refine hI.grown hb o.dst hd ?_
  have hcd := dts_eq hds
  have hvl := h2.len
  have hs2 : (w.alloc (.cells vs.toArray e)).heap.size = w.heap.size + 1 := by simp
  have hdl : ds.length = len * ie.size := by rw [← hcl, hcd, List.length_map]
  have hsp : 0 < ie.size := Nat.pos_of_ne_zero fun e => hpos (by rw [e, Nat.mul_zero])
  have hel : ∀ i (h : i < (chunks ds ie.size len).length), ((chunks ds ie.size len)[i]).length = ie.size := fun i h => by
    simp only [chunks, List.length_map, List.length_range] at h
    simp only [chunks, List.getElem_map, List.getElem_range, List.length_take, List.length_drop, hdl]
    have : (i + 1) * ie.size ≤ len * ie.size := Nat.mul_le_mul_right _ h
    rw [Nat.succ_mul] at this
    omega
  have hgo : Go1 0 M w ⟨M.m, fun b => (M.F b ∨ w.heap.size ≤ b) ∧ b < (w.alloc (.cells vs.toArray e)).heap.size⟩ (w.alloc (.cells vs.toArray e)) := ⟨hb.mono (Nat.zero_le _), fun b _ hl => hb.block b hl, fun b hb' hl => ⟨.inl hb', by rw [hs2]; omega⟩, fun _ _ h => h⟩
  refine Rd.mk (k := ie.size) (by simp [chunks]) (Nat.le_refl _) (by rw [hs2]; omega) ⟨.inr (Nat.le_refl _), by rw [hs2]; omega⟩ hel ?_
  intro i j hi hj
  have hlj := hel i hi
  simp only [chunks, List.length_map, List.length_range] at hi
  have hij : i * ie.size + j < ds.length := by
    rw [hdl]
    have : (i + 1) * ie.size ≤ len * ie.size := Nat.mul_le_mul_right _ hi
    rw [Nat.succ_mul] at this
    omega
  obtain ⟨u, hu1, hu2⟩ := h2.get (i := i * ie.size + j) (c := .dt ds[i * ie.size + j]) (by rw [hcd, List.getElem?_map, List.getElem?_eq_getElem hij]; rfl)
  refine ⟨u, ?_, ?_⟩
  · rw [Nat.zero_add, (BlkIs.new w e vs.toArray).cell]
    simpa using hu1
  · have : ((chunks ds ie.size len)[i]'(by simp [chunks]; exact hi))[j] = ds[i * ie.size + j] := by
      simp [chunks]
    rw [this]
    exact Rd.go hgo hu2
end
end Go.Proofs.YtgphkgmhcmffnaaGreatDoor
/- Plain walks: every operation does what its plain step says. -/
namespace Go.Proofs.YtgphkgmhcmffnaaGreatDoor
open Go.RowKit

section
variable {P : Program} {G : World → Prop} {n0 : Nat} {w0 : World} {ok0 : Nat → Prop} {M : Mm} {nt : Nat} {tm : Nat → AV} {bx : Nat → Option (List AV)} {a : Act} {w : World} {o : Oper} {Q : Exit → Act → World → Prop}
theorem wp_index {t : TypeId} {x i : Operand} (ho : o.op = .indexAddr t x i) (hI : Inv n0 w0 ok0 M nt tm bx a w) (hd : ∀ t, o.dst = some t → t < nt) {e : TypeId} {sz : Nat} {z : Value} {es : List (List Dt)} {k : IntKind} {n : Int} {ds : List Dt}
    (he : aelem P t = some (e, sz, z)) (hx : aev tm x = .dt (.row es)) (hi : aev tm i = .dt (.val (.int k n))) (hat : IxAt es n sz ds) :
    o.wp P a w (Left n0 w0 ok0 nt (updT tm o.dst (.pin ds)) (updB bx none)) Q := by
  obtain ⟨h0, hget, hlen⟩ := hat
  have hv := hI.ev x
  rw [hx] at hv
  have hvi := hI.ev i
  rw [hi] at hvi
  have hvi' : a.eval i = .int k n := Rd.val_eq hvi
  obtain ⟨A, m, c, hv', hm, _⟩ := Rd.slice hv
  have hv2 : Rd M.F w (.slice A m c) (.row es) := by rw [← hv']; exact hv
  have hlt : n.toNat < es.length := (List.getElem?_eq_some_iff.1 hget).1
  have hds : es[n.toNat] = ds := (List.getElem?_eq_some_iff.1 hget).2
  obtain ⟨b, off, kk, rfl, hb, hF, hk, hf⟩ := hv2.cells (by omega)
  obtain ⟨ie, hu, hie, rfl, hz⟩ := aelem_run he
  have hkk : kk = ie.size := by rw [← hk n.toNat hlt, hds, hlen]
  subst hkk
  have hrun : (execOp a.eval o).run P w = .ok (.value (.pointer (some ⟨b, off + n.toNat * ie.size, none⟩))) w := by
    obtain ⟨dd, op, ty, pos, af, gd⟩ := o
    simp only at ho
    subst ho
    have hcond : 0 ≤ n ∧ n < (m : Int) := ⟨h0, by omega⟩
    simp only [execOp, Instr.indexAt, asIntOf, hvi', hv', Sem.run_bind, Sem.run_pure, Result.andThen, run_underlying hu, if_pos hcond, run_sizeOf (show asz P e = some ie.size by unfold asz; rw [hie]), add_addr]
  refine wp_val hI hd hrun ⟨b, off + n.toNat * ie.size, rfl, hF, hb, fun j hj => ?_⟩
  obtain ⟨u, h1, h2⟩ := hf n.toNat j hlt (by rw [hds]; exact hj)
  refine ⟨u, h1, ?_⟩
  simp only [hds] at h2
  exact h2
theorem wp_field {t : TypeId} {x : Operand} {f : Nat} (ho : o.op = .field t x f) (hI : Inv n0 w0 ok0 M nt tm bx a w) (hd : ∀ t, o.dst = some t → t < nt) {off n : Nat} {ft : TypeId} {ag : Bool} {cs : List AV} {r : AV}
    (hf : afld P t f = some (off, ft)) (hn : asz P ft = some n) (ha : aag P ft = some ag) (hx : aev tm x = .agg cs) (hr : (match ag with | true => some (.agg ((cs.drop off).take n)) | false => cs[off]?) = some r) :
    o.wp P a w (Left n0 w0 ok0 nt (updT tm o.dst r) (updB bx none)) Q := by
  have hv := hI.ev x
  rw [hx] at hv
  obtain ⟨vs, hv, hl⟩ := hv
  obtain ⟨fs, fl, hu, hfl, rfl, rfl⟩ := afld_run hf
  obtain ⟨dd, op, ty, pos, af, gd⟩ := o
  simp only at ho
  subst ho
  cases ag with
  | true =>
    simp only [Option.some.injEq] at hr
    subst hr
    refine wp_val hI hd (v := .agg ((vs.drop fl.offset).take n).toArray) ?_ ⟨_, rfl, (hl.drop _).take _⟩
    have e : (vs.toArray.extract fl.offset (fl.offset + n)) = ((vs.drop fl.offset).take n).toArray := by
      apply Array.ext'
      simp [List.take_drop, Nat.add_comm]
    simp only [execOp, Instr.field, hv, asAgg, part, Sem.run_bind, Sem.run_pure, Result.andThen, run_underlying hu, hfl, run_isAgg ha, run_sizeOf hn, if_true, e]
  | false =>
    simp only at hr
    obtain ⟨u, hu1, hu2⟩ := hl.get hr
    refine wp_val hI hd (v := u) ?_ hu2
    have e : vs.toArray[fl.offset]? = some u := by simpa using hu1
    simp only [execOp, Instr.field, hv, asAgg, part, Sem.run_bind, Sem.run_pure, Result.andThen, run_underlying hu, hfl, run_isAgg ha, Bool.false_eq_true, if_false, e]
theorem wp_fieldAddr {t : TypeId} {x : Operand} {f : Nat} (ho : o.op = .fieldAddr t x f) (hI : Inv n0 w0 ok0 M nt tm bx a w) (hd : ∀ t, o.dst = some t → t < nt) {off n : Nat} {ft : TypeId} {r : AV}
    (hf : afld P t f = some (off, ft)) (hn : asz P ft = some (n + 1)) (hr : (match aev tm x with | .ptr b o => some (.ptr b (o + off)) | .pin ds => some (.pin (ds.drop off)) | _ => none) = some r) :
    o.wp P a w (Left n0 w0 ok0 nt (updT tm o.dst r) (updB bx none)) Q := by
  have hv := hI.ev x
  obtain ⟨fs, fl, hu, hfl, rfl, rfl⟩ := afld_run hf
  obtain ⟨dd, op, ty, pos, af, gd⟩ := o
  simp only at ho
  subst ho
  have run : ∀ g q, a.eval x = .pointer (some ⟨g, q, none⟩) → (execOp a.eval ⟨dd, .fieldAddr t x f, ty, pos, af, gd⟩).run P w = .ok (.value (.pointer (some ⟨g, q + fl.offset, none⟩))) w := fun g q h => by
    simp only [execOp, Instr.fieldAt, fieldPlace, Instr.sureAddr, h, Sem.run_bind, Sem.run_pure, Result.andThen, run_underlying hu, hfl, run_sizeOf hn, Nat.succ_ne_zero, if_false, add_addr]
  split at hr
  · rename_i b q hx
    cases hr
    rw [hx] at hv
    obtain ⟨g, hg, hv⟩ := hv
    exact wp_val hI hd (run g q hv) ⟨g, hg, rfl⟩
  · rename_i ds hx
    cases hr
    rw [hx] at hv
    obtain ⟨g, q, hv, hF, hlt, hc⟩ := hv
    refine wp_val hI hd (run g q hv) ⟨g, q + fl.offset, rfl, hF, hlt, fun j hj => ?_⟩
    rw [List.length_drop] at hj
    obtain ⟨u, h1, h2⟩ := hc (fl.offset + j) (by omega)
    refine ⟨u, by rw [Nat.add_assoc]; exact h1, ?_⟩
    rw [List.getElem_drop]
    exact h2
  · cases hr
set_option maxHeartbeats 1000000 in
theorem adec_sound {act : AAct} {ps : List Prop} {an an' : List (Option AV)} {k : Nat} {r : AV} {y : Option (Nat × List AV)} (h : adec P G o.op (aev tm) an = some (act, ps, an')) (hp : AllP ps) (hI : Inv n0 w0 ok0 M nt tm bx a w) (hd : ∀ t, o.dst = some t → t < nt) (hG : G w) (hk : act.isA = true → bx k = none) (hr : act.run bx k = some (r, y)) :
    o.wp P a w (Left n0 w0 ok0 nt (updT tm o.dst r) (updB bx y)) Q := by
  unfold adec at h
  split at h
  case h_1 x hop =>
    cases h
    cases hr
    refine wp_val hI hd (v := a.eval x) ?_ (hI.ev x)
    obtain ⟨dd, op, ty, pos, af, gd⟩ := o
    simp only at hop
    subst hop
    rfl
  case h_2 x hop =>
    cases h
    cases hr
    refine wp_val hI hd (v := a.eval x) ?_ (hI.ev x)
    obtain ⟨dd, op, ty, pos, af, gd⟩ := o
    simp only at hop
    subst hop
    rfl
  case h_3 c x z hop =>
    split at h
    · rename_i t hc
      cases h
      cases hr
      have hv := hI.ev c
      rw [hc] at hv
      have hv' : a.eval c = .bool t := Rd.val_eq hv
      refine wp_val hI hd (v := if t then a.eval x else a.eval z) ?_ (by cases t <;> exact hI.ev _)
      obtain ⟨dd, op, ty, pos, af, gd⟩ := o
      simp only at hop
      subst hop
      simp only [execOp, hv', asBool, Sem.run_bind, Sem.run_pure, Result.andThen]
    · cases h
  case h_4 t hop =>
    split at h
    · rename_i z hz
      cases h
      obtain ⟨i, v, hi, hv, rfl⟩ := azero_run hz
      simp only [AAct.run] at hr
      split at hr
      · cases hr
        exact wp_alloc hop hI hd (hk rfl) hi hv
      · cases hr
    · cases h
  case h_5 t x hop =>
    cases h
    simp only [AAct.run] at hr
    split at hr
    · rename_i h1
      cases hr
      exact wp_box hop hI hd (hk rfl) h1
    · cases hr
  case h_6 t x hop =>
    split at h
    · rename_i n ag b off hn ha hx
      cases h
      exact wp_load_box hop hI hd hx hn ha hr
    · rename_i n ds hn ha hx
      split at h
      · rename_i hle
        cases h
        cases hr
        exact wp_load_pin hop hI hd hx hn ha (Nat.le_of_ble_eq_true hle)
      · cases h
    · rename_i n d ds hn ha hx
      cases h
      cases hr
      exact wp_load_pin1 hop hI hd hx ha
    · cases h
  case h_7 t x z hop =>
    split at h
    · rename_i n b off hn hx
      split at h
      · rename_i hb
        cases h
        have hb' := Nat.eq_of_beq_eq_true hb
        exact wp_store hop hI hd hx (by rw [hn, hb']) hr
      · cases h
    · cases h
  case h_8 t qs hop =>
    split at h
    · rename_i cs hcs
      cases h
      cases hr
      obtain ⟨vs, h1, h2⟩ := abuild_rv (RP.map hI.ev qs.toList) hcs
      refine wp_val hI hd (v := .agg vs.toArray) ?_ ⟨vs, rfl, h2⟩
      obtain ⟨dd, op, ty, pos, af, gd⟩ := o
      simp only at hop
      subst hop
      have := run_build (P := P) w t (qs.map fun x => (x.1, a.eval x.2)) vs.toArray (by rw [← h1]; simp)
      simp only [execOp, Sem.run_bind, this, Result.andThen, Sem.run_pure]
    · cases h
  case h_9 t len qs hop =>
    split at h
    · rename_i e es hes
      cases h
      cases hr
      exact wp_slice hop hI hd hes
    · cases h
  case h_10 t x f hop =>
    split at h
    · rename_i off ft hf
      split at h
      · rename_i n hn
        split at h
        · rename_i b q hx
          cases h; cases hr
          exact wp_fieldAddr hop hI hd hf hn (by rw [hx])
        · rename_i ds hx
          cases h; cases hr
          exact wp_fieldAddr hop hI hd hf hn (by rw [hx])
        · cases h
      · cases h
    · cases h
  case h_11 t x f hop =>
    split at h
    · rename_i off ft hf
      split at h
      · rename_i n cs hn ha hx
        cases h; cases hr
        exact wp_field hop hI hd hf hn ha hx rfl
      · rename_i n cs hn ha hx
        split at h
        · rename_i c hc
          cases h; cases hr
          exact wp_field hop hI hd hf hn ha hx hc
        · cases h
      · cases h
    · cases h
  case h_12 t x i hop =>
    split at h
    · rename_i e sz z es k' n ds an'' he hx hi
      cases h; cases hr
      exact wp_index hop hI hd he hx hi hp.1
    · cases h
  case h_13 t x i hop =>
    split at h
    · rename_i s k' n rr an'' hu hx hi
      cases h; cases hr
      obtain ⟨b, h0, hb, rfl⟩ := hp.1
      have hv := hI.ev x
      rw [hx] at hv
      have hv' : a.eval x = .string s := Rd.val_eq hv
      have hvi := hI.ev i
      rw [hi] at hvi
      have hvi' : a.eval i = .int k' n := Rd.val_eq hvi
      refine wp_val hI hd (v := .int .u8 b.toNat) ?_ (.val _)
      obtain ⟨dd, op, ty, pos, af, gd⟩ := o
      simp only at hop
      subst hop
      simp only [execOp, Instr.index, asIntOf, hvi', hv', Sem.run_bind, Sem.run_pure, Result.andThen, run_underlying hu, if_pos h0, hb]
    · cases h
  case h_14 op t x z yt hop =>
    split at h
    · rename_i vx vy an'' hx hy
      split at h
      · rename_i rr hs
        cases h; cases hr
        refine wp_val hI hd (v := rr) ?_ (.val _)
        obtain ⟨dd, op, ty, pos, af, gd⟩ := o
        simp only at hop
        subst hop
        have := sbin_is (P := P) (t := t) (x := x) (y := z) hs w
        simp only [execOp, (hI.ev x).sv hx, (hI.ev z).sv hy, Sem.run_bind, Sem.run_pure] at this ⊢
        rw [this]
        rfl
      · cases h
    · rename_i vx vy rr an'' hx hy
      cases h; cases hr
      refine wp_val hI hd (v := rr) ?_ (.val _)
      obtain ⟨dd, op, ty, pos, af, gd⟩ := o
      simp only at hop
      subst hop
      have := hp.1 w
      simp only [execOp, (hI.ev x).sv hx, (hI.ev z).sv hy, Sem.run_bind, Sem.run_pure] at this ⊢
      rw [this]
      rfl
    · cases h
  case h_15 t x hop =>
    split at h
    · rename_i b hx
      cases h; cases hr
      have hv := hI.ev x
      rw [hx] at hv
      have hv' : a.eval x = .bool b := Rd.val_eq hv
      refine wp_val hI hd (v := .bool !b) ?_ (.val _)
      obtain ⟨dd, op, ty, pos, af, gd⟩ := o
      simp only at hop
      subst hop
      simp only [execOp, hv', Op.unary, Sem.run_bind, Sem.run_pure, Result.andThen]
    · cases h
  case h_16 x i hop =>
    split at h
    · rename_i cs hx
      split at h
      · rename_i c hc
        cases h; cases hr
        have hv := hI.ev x
        rw [hx] at hv
        obtain ⟨vs, hv, hl⟩ := hv
        obtain ⟨u, hu1, hu2⟩ := hl.get hc
        refine wp_val hI hd (v := u) ?_ hu2
        obtain ⟨dd, op, ty, pos, af, gd⟩ := o
        simp only at hop
        subst hop
        have e : vs.toArray[i]? = some u := by simpa using hu1
        simp only [execOp, hv, Instr.extract, Sem.run_bind, Sem.run_pure, Result.andThen, e]
      · cases h
    · cases h
  case h_17 x args ts hop =>
    split at h
    · rename_i f caps rr an'' hx
      split at h
      · rename_i hfl
        cases h; cases hr
        exact wp_call hop hI hd hG hx hfl hp.1
      · cases h
    · cases h
  case h_18 x t ts hop =>
    split at h
    · rename_i e es hu hx
      have hv := hI.ev x
      rw [hx] at hv
      obtain ⟨A, m, c, hv', hm, _⟩ := Rd.slice hv
      have hrun : (execOp a.eval o).run P w = .ok (.value (.int .i64 es.length)) w := by
        obtain ⟨dd, op, ty, pos, af, gd⟩ := o
        simp only at hop
        subst hop
        simp [execOp, resolve, invoke, builtin, Builtin.len_, hv', run_underlying hu, goInt, hm]
      split at h
      · cases h; cases hr
        exact wp_val hI hd hrun (.val _)
      · cases h; cases hr
        rw [hp.1]
        exact wp_val hI hd hrun (.val _)
      · cases h
    · rename_i s hu hx
      have hv := hI.ev x
      rw [hx] at hv
      have hv' : a.eval x = .string s := Rd.val_eq hv
      have hrun : (execOp a.eval o).run P w = .ok (.value (.int .i64 s.size)) w := by
        obtain ⟨dd, op, ty, pos, af, gd⟩ := o
        simp only at hop
        subst hop
        simp [execOp, resolve, invoke, builtin, Builtin.len_, hv', run_underlying hu, goInt]
      split at h
      · cases h; cases hr
        exact wp_val hI hd hrun (.val _)
      · cases h; cases hr
        rw [hp.1]
        exact wp_val hI hd hrun (.val _)
      · cases h
    · cases h
  case h_19 x z ts hop =>
    split at h
    · rename_i k' p k'' q rr an'' hx hz
      cases h; cases hr
      rw [hp.1]
      have hv := hI.ev x
      rw [hx] at hv
      have hv' : a.eval x = .int k' p := Rd.val_eq hv
      have hvz := hI.ev z
      rw [hz] at hvz
      have hvz' : a.eval z = .int k'' q := Rd.val_eq hvz
      refine wp_val hI hd ?_ (.val _)
      obtain ⟨dd, op, ty, pos, af, gd⟩ := o
      simp only at hop
      subst hop
      simp [execOp, resolve, invoke, builtin, Builtin.max_, Builtin.max2, hv', hvz']
    · cases h
  case h_20 => cases h
end
end Go.Proofs.YtgphkgmhcmffnaaGreatDoor
/- Plain walks: regions, in their order and in any order. -/
namespace Go.Proofs.YtgphkgmhcmffnaaGreatDoor
open Go.RowKit

/-- an operation looks at its operands alone -/
theorem adec_loc {P : Program} {G : World → Prop} {op : Op} {ρ ρ' : Operand → AV} {an : List (Option AV)} (h : ∀ x ∈ op.operands.toList, ρ x = ρ' x) : adec P G op ρ an = adec P G op ρ' an := by
  cases op with
  | move x => have h1 := h x (by simp [Op.operands]); simp only [adec, h1]
  | assign x => have h1 := h x (by simp [Op.operands]); simp only [adec, h1]
  | pick c x y =>
    have h1 := h c (by simp [Op.operands]); have h2 := h x (by simp [Op.operands]); have h3 := h y (by simp [Op.operands])
    simp only [adec, h1, h2, h3]
  | alloc t => rfl
  | box t x => have h1 := h x (by simp [Op.operands]); simp only [adec, h1]
  | load t x => have h1 := h x (by simp [Op.operands]); simp only [adec, h1]
  | store t x y => have h1 := h x (by simp [Op.operands]); have h2 := h y (by simp [Op.operands]); simp only [adec, h1, h2]
  | build t ps =>
    have e : (ps.toList.map fun x => (x.1, ρ x.2)) = ps.toList.map fun x => (x.1, ρ' x.2) := List.map_congr_left fun x hx => by
      rw [h x.2 (by simp only [Op.operands, List.mem_map]; exact ⟨x, hx, rfl⟩)]
    simp only [adec, e]
  | buildSlice t len ps =>
    have e : (ps.toList.map fun x => (x.1, ρ x.2)) = ps.toList.map fun x => (x.1, ρ' x.2) := List.map_congr_left fun x hx => by
      rw [h x.2 (by simp only [Op.operands, List.mem_map]; exact ⟨x, hx, rfl⟩)]
    simp only [adec, e]
  | fieldAddr t x f => have h1 := h x (by simp [Op.operands]); simp only [adec, h1]
  | field t x f => have h1 := h x (by simp [Op.operands]); simp only [adec, h1]
  | indexAddr t x i => have h1 := h x (by simp [Op.operands]); have h2 := h i (by simp [Op.operands]); simp only [adec, h1, h2]
  | index t x i => have h1 := h x (by simp [Op.operands]); have h2 := h i (by simp [Op.operands]); simp only [adec, h1, h2]
  | binOp op t x y yt => have h1 := h x (by simp [Op.operands]); have h2 := h y (by simp [Op.operands]); simp only [adec, h1, h2]
  | unOp op t x => have h1 := h x (by simp [Op.operands]); cases op <;> simp only [adec, h1]
  | extract x i => have h1 := h x (by simp [Op.operands]); simp only [adec, h1]
  | call c =>
    obtain ⟨callee, args, ts⟩ := c
    have ha : ∀ x ∈ args.toList, ρ x = ρ' x := fun x hx => h x (by simp [Op.operands, Call.operands]; right; simpa using hx)
    cases callee with
    | value x =>
      have h1 := h x (by simp [Op.operands, Call.operands])
      have e : args.toList.map ρ = args.toList.map ρ' := List.map_congr_left ha
      simp only [adec, h1, e]
    | invoke x s => rfl
    | builtin b =>
      unfold adec
      split <;> first | rfl | skip
      all_goals (rename_i heq; try cases heq)
      · rename_i x t ts
        have h1 := ha x (by simp)
        simp only [h1]
      · rename_i x y
        have h1 := ha x (by simp)
        have h2 := ha y (by simp)
        simp only [h1, h2]
  | _ => rfl
/-- is the operation run? -/
def awant (ops : Array Oper) (tm : Nat → AV) (o : Oper) : Option Bool := match o.guard with
  | none => some true
  | some (g, b) => match (ops[g]?).bind (·.dst) with
    | none => none
    | some d => match tm d with
      | .dt (.val (.bool c)) => some (c == b)
      | .dt (.val (.tuple _)) => some false
      | _ => none
theorem awant_ok {n0 : Nat} {w0 : World} {ok0 : Nat → Prop} {M : Mm} {nt : Nat} {tm : Nat → AV} {bx : Nat → Option (List AV)} {a : Act} {w : World} {ops : Array Oper} {o : Oper} {c : Bool} (hI : Inv n0 w0 ok0 M nt tm bx a w) (h : awant ops tm o = some c) : Region.wanted o (yielded ops a.tmps) = c := by
  unfold awant at h
  unfold Region.wanted
  cases hg : o.guard with
  | none => rw [hg] at h; cases h; rfl
  | some x =>
    obtain ⟨g, b⟩ := x
    rw [hg] at h
    simp only at h ⊢
    unfold yielded
    cases hd : (ops[g]?).bind (·.dst) with
    | none => rw [hd] at h; cases h
    | some d =>
      rw [hd] at h
      simp only [Option.bind_some] at h ⊢
      have hv := hI.tmps d
      split at h
      · rename_i c' hc
        cases h
        rw [hc] at hv
        have hv' : a.tmps.getD d undef = .bool c' := Rd.val_eq hv
        have : a.tmps[d]? = some (.bool c') := by
          cases ht : a.tmps[d]? with
          | none => simp [Array.getD_eq_getD_getElem?, ht, undef] at hv'
          | some u => simp [Array.getD_eq_getD_getElem?, ht] at hv'; rw [hv']
        rw [this]
        cases c' <;> cases b <;> rfl
      · rename_i us hc
        cases h
        rw [hc] at hv
        have hv' : a.tmps.getD d undef = .tuple us := Rd.val_eq hv
        cases ht : a.tmps[d]? with
        | none => rfl
        | some u => simp [Array.getD_eq_getD_getElem?, ht] at hv'; rw [hv']; rfl
      · cases h
/-- what an operation touches: the slots it looks at, the slot it fills, the box it touches, and whether it changes it -/
structure Fp where
  rt : List Nat
  wt : Option Nat
  bt : Option Nat
  bw : Bool
def AAct.bt (k : Nat) : AAct → Option Nat
  | .load b _ _ _ => some b
  | .store b _ _ => some b
  | .alloc _ _ => some k
  | _ => none
def AAct.bw : AAct → Bool
  | .store _ _ _ => true
  | .alloc _ _ => true
  | _ => false
/-- one operation, from state to state -/
structure Stp (P : Program) (G : World → Prop) (ops : Array Oper) (nt : Nat) (o : Oper) (tm : Nat → AV) (bx : Nat → Option (List AV)) (tm' : Nat → AV) (bx' : Nat → Option (List AV)) (f : Fp) : Prop where
  rt : ∀ t ∈ o.looksAt ops, t ∈ f.rt
  wt : f.wt = o.dst
  lt : ∀ t, o.dst = some t → t < nt
  go : (awant ops tm o = some false ∧ tm' = updT tm o.dst (.dt (.val undef)) ∧ bx' = bx) ∨
    (awant ops tm o = some true ∧ ∃ act ps an an' k r y, adec P G o.op (aev tm) an = some (act, ps, an') ∧ AllP ps ∧ (act.isA = true → bx k = none) ∧ act.run bx k = some (r, y) ∧ tm' = updT tm o.dst r ∧ bx' = updB bx y ∧ (∀ b, act.bt k = some b → f.bt = some b) ∧ (act.bw = true → f.bw = true))
theorem updT_ne {tm : Nat → AV} {d : Option Nat} {r : AV} {t : Nat} (h : d ≠ some t) : updT tm d r t = tm t := by
  cases d with
  | none => rfl
  | some d => exact if_neg fun e => h (by rw [e])
theorem updT_eq {tm : Nat → AV} {d : Option Nat} {r : AV} {t : Nat} (h : d = some t) : updT tm d r t = r := by
  subst h; exact if_pos rfl
theorem run_box {act : AAct} {bx : Nat → Option (List AV)} {k : Nat} {r : AV} {y : Option (Nat × List AV)} (h : act.run bx k = some (r, y)) : ∀ b cs, y = some (b, cs) → act.bt k = some b ∧ act.bw = true := by
  intro b cs hy
  subst hy
  cases act with
  | val v => cases h
  | load b' off n ag =>
    exfalso
    simp only [AAct.run] at h
    split at h
    · split at h
      · split at h
        · cases h
        · split at h <;> cases h
      · cases h
    · cases h
  | store b' off vs =>
    simp only [AAct.run] at h
    split at h
    · split at h
      · cases h; exact ⟨rfl, rfl⟩
      · cases h
    · cases h
  | alloc t cs' =>
    simp only [AAct.run] at h
    split at h
    · cases h; exact ⟨rfl, rfl⟩
    · cases h
  | mk t es => cases h
  | call f args r => cases h
/-- an act looks at one box alone -/
theorem run_loc {act : AAct} {bx bx' : Nat → Option (List AV)} {k : Nat} (h : ∀ b, act.bt k = some b → bx b = bx' b) : act.run bx k = act.run bx' k := by
  cases act with
  | load b off n ag => simp only [AAct.run]; rw [h b rfl]
  | store b off vs => simp only [AAct.run]; rw [h b rfl]
  | _ => rfl
theorem Stp.tm_ne {P : Program} {G : World → Prop} {ops : Array Oper} {nt : Nat} {o : Oper} {tm tm' : Nat → AV} {bx bx' : Nat → Option (List AV)} {f : Fp} (h : Stp P G ops nt o tm bx tm' bx' f) {t : Nat} (ht : f.wt ≠ some t) : tm' t = tm t := by
  rw [h.wt] at ht
  rcases h.go with ⟨_, rfl, _⟩ | ⟨_, _, _, _, _, _, _, _, _, _, _, _, rfl, _⟩ <;> exact updT_ne ht
theorem Stp.bx_ne {P : Program} {G : World → Prop} {ops : Array Oper} {nt : Nat} {o : Oper} {tm tm' : Nat → AV} {bx bx' : Nat → Option (List AV)} {f : Fp} (h : Stp P G ops nt o tm bx tm' bx' f) {b : Nat} (hb : ¬ (f.bt = some b ∧ f.bw = true)) : bx' b = bx b := by
  rcases h.go with ⟨_, _, rfl⟩ | ⟨_, act, ps, an, an', k, r, y, _, _, _, hr, _, rfl, h1, h2⟩
  · rfl
  · cases y with
    | none => rfl
    | some y =>
      obtain ⟨b', cs⟩ := y
      obtain ⟨e1, e2⟩ := run_box hr b' cs rfl
      refine if_neg fun e => hb ?_
      subst e
      exact ⟨h1 _ e1, h2 e2⟩
/-- the machine follows -/
theorem Stp.wp {P : Program} {G : World → Prop} {ops : Array Oper} {nt : Nat} {o : Oper} {tm tm' : Nat → AV} {bx bx' : Nat → Option (List AV)} {f : Fp} (h : Stp P G ops nt o tm bx tm' bx' f)
    {n0 : Nat} {w0 : World} {ok0 : Nat → Prop} {a : Act} {w : World} {Q : Exit → Act → World → Prop} {i : Nat} (ho : ops[i]? = some o) (hL : Left n0 w0 ok0 nt tm bx a w) (hG : G w) {K : Act → World → Prop} (hK : ∀ a w, Left n0 w0 ok0 nt tm' bx' a w → K a w) : wpOp P ops Q i K a w := by
  obtain ⟨M, hI⟩ := hL
  unfold wpOp
  simp only [ho]
  rcases h.go with ⟨hw, rfl, rfl⟩ | ⟨hw, act, ps, an, an', k, r, y, h1, h2, h3, h4, rfl, rfl, _, _⟩
  · rw [awant_ok hI hw]
    simp only [Bool.false_eq_true, if_false]
    exact hK _ _ ⟨M, hI.val o.dst h.lt (.val _)⟩
  · rw [awant_ok hI hw]
    simp only [if_true]
    left
    exact Oper.wp_mono hK (adec_sound h1 h2 hI h.lt hG h3 h4)
end Go.Proofs.YtgphkgmhcmffnaaGreatDoor
/- Plain walks: a region that draws its order ends as in its text's order, where operations that touch the same place wait for each other. -/
namespace Go.Proofs.YtgphkgmhcmffnaaGreatDoor
open Go.RowKit

theorem wpAny_invB {P : Program} {ops : Array Oper} {Q : Exit → Act → World → Prop} {md : Region.Mode} (I : Array Bool → Act → World → Prop)
    (back : ∀ (i : Nat) (o : Oper), ops[i]? = some o → ∀ e ∈ o.after, Region.binds md e = true → e.on < i)
    (step : ∀ listed a w i, I listed a w → listed.size = ops.size → i ∈ Region.ready md ops listed → wpOp P ops Q i (I (listed.setIfInBounds i true)) a w)
    (done : ∀ listed a w, I listed a w → (∀ i, i < ops.size → listed.getD i false = true) → Q .normal a w) :
    ∀ (fuel : Nat) (listed : Array Bool) (a : Act) (w : World), listed.size = ops.size → listed.toList.countP (fun b => !b) ≤ fuel → I listed a w → wpAny P md ops Q fuel listed a w := by
  have full : ∀ listed : Array Bool, listed.size = ops.size → Region.ready md ops listed = [] → ∀ i, i < ops.size → listed.getD i false = true := by
    intro listed hs hr i
    induction i using Nat.strongRecOn with
    | _ i ih =>
      intro hi
      rcases hb : listed.getD i false with _ | _
      · exfalso
        have hmem : i ∈ Region.ready md ops listed := by
          rw [mem_ready]
          refine ⟨?_, ops[i], Array.getElem?_eq_getElem hi, fun e he hbd => ?_⟩
          · have hlt : i < listed.size := by omega
            simpa [hlt] using hb
          · have := back i _ (Array.getElem?_eq_getElem hi) e he hbd
            exact ih e.on this (by omega)
        rw [hr] at hmem
        cases hmem
      · rfl
  intro fuel
  induction fuel with
  | zero =>
    intro listed a w hs hc hI
    have hall : ∀ i, i < ops.size → listed.getD i false = true := by
      intro i hi
      have h0 : listed.toList.countP (fun b => !b) = 0 := by omega
      rw [List.countP_eq_zero] at h0
      have hlt : i < listed.size := by omega
      have := h0 listed[i] (by simp)
      simpa [hlt] using this
    have hr : Region.ready md ops listed = [] := by
      cases hr : Region.ready md ops listed with
      | nil => rfl
      | cons x xs =>
        have hx : x ∈ Region.ready md ops listed := by rw [hr]; exact List.mem_cons_self ..
        rw [mem_ready] at hx
        obtain ⟨h0, o, ho, _⟩ := hx
        have hlt := (Array.getElem?_eq_some_iff.1 ho).1
        have := hall x hlt
        have hlt' : x < listed.size := by omega
        simp [hlt'] at h0 this
        rw [h0] at this
        cases this
    exact ⟨hr, done _ _ _ hI hall⟩
  | succ fuel ih =>
    intro listed a w hs hc hI
    refine ⟨fun hr => done _ _ _ hI (full listed hs hr), fun i hi => ?_⟩
    refine wpOp_mono (fun a' w' hI' => ?_) (step listed a w i hI hs hi)
    refine ih _ _ _ (by simp [hs]) ?_ hI'
    rw [mem_ready] at hi
    obtain ⟨h0, o, ho, _⟩ := hi
    have hlt : i < listed.size := by rw [hs]; exact (Array.getElem?_eq_some_iff.1 ho).1
    have hf : listed[i] = false := by simpa [hlt] using h0
    have hl : listed.toList = listed.toList.take i ++ false :: listed.toList.drop (i + 1) := by
      have h1 : i < listed.toList.length := by simpa using hlt
      conv => lhs; rw [← List.take_append_drop i listed.toList, List.drop_eq_getElem_cons h1]
      simp [hf]
    have hl' : (listed.setIfInBounds i true).toList = listed.toList.take i ++ true :: listed.toList.drop (i + 1) := by
      have h1 : i < listed.toList.length := by simpa using hlt
      rw [Array.toList_setIfInBounds, List.set_eq_take_append_cons_drop, if_pos h1]
    rw [hl] at hc
    rw [hl']
    simp only [List.countP_append, List.countP_cons, Bool.not_false, Bool.not_true, if_true, Bool.false_eq_true, if_false] at hc ⊢
    omega

def backAny (ops : Array Oper) : Bool := (List.range ops.size).all fun i => match ops[i]? with | some o => o.after.all fun e => !Region.binds .any e || Nat.ble (e.on + 1) i | none => true
theorem backAny_spec {ops : Array Oper} (h : backAny ops = true) (i : Nat) (o : Oper) (ho : ops[i]? = some o) : ∀ e ∈ o.after, Region.binds .any e = true → e.on < i := by
  unfold backAny at h
  rw [List.all_eq_true] at h
  have := h i (List.mem_range.2 (Array.getElem?_eq_some_iff.1 ho).1)
  rw [ho] at this
  simp only [Array.all_eq_true_iff_forall_mem] at this
  intro e he hb
  have h2 := this e he
  rw [hb] at h2
  exact Nat.le_of_ble_eq_true h2
inductive Anc (ops : Array Oper) : Nat → Nat → Prop
  | one {i j : Nat} : i ∈ waits ops j → Anc ops i j
  | more {i m j : Nat} : m ∈ waits ops j → Anc ops i m → Anc ops i j
def Fp.conf (x y : Fp) : Bool :=
  (match x.wt with | some d => y.rt.contains d || (match y.wt with | some e => Nat.beq d e | none => false) | none => false) ||
  (match y.wt with | some d => x.rt.contains d | none => false) ||
  (match x.bt, y.bt with | some b, some c => Nat.beq b c && (x.bw || y.bw) | _, _ => false)
theorem conf_wr {x y : Fp} {d : Nat} (h1 : x.wt = some d) (h2 : d ∈ y.rt) : x.conf y = true := by
  have : y.rt.contains d = true := List.contains_iff_mem.2 h2
  simp only [Fp.conf, h1, this, Bool.true_or]
theorem conf_rw {x y : Fp} {d : Nat} (h1 : y.wt = some d) (h2 : d ∈ x.rt) : x.conf y = true := by
  have : x.rt.contains d = true := List.contains_iff_mem.2 h2
  simp only [Fp.conf, h1, this, Bool.true_or, Bool.or_true]
theorem conf_ww {x y : Fp} {d : Nat} (h1 : x.wt = some d) (h2 : y.wt = some d) : x.conf y = true := by
  simp only [Fp.conf, h1, h2, Nat.beq_refl, Bool.or_true, Bool.true_or]
theorem conf_b {x y : Fp} {d : Nat} (h1 : x.bt = some d) (h2 : y.bt = some d) (h : x.bw = true ∨ y.bw = true) : x.conf y = true := by
  have : (x.bw || y.bw) = true := by rcases h with h | h <;> rw [h] <;> simp
  simp only [Fp.conf, h1, h2, Nat.beq_refl, this, Bool.and_self, Bool.or_true]
theorem any_region {P : Program} {G : World → Prop} {ops : Array Oper} {nt : Nat} {tmS : Nat → Nat → AV} {bxS : Nat → Nat → Option (List AV)} {fp : Nat → Fp}
    (hstp : ∀ i o, ops[i]? = some o → Stp P G ops nt o (tmS i) (bxS i) (tmS (i + 1)) (bxS (i + 1)) (fp i))
    (hconf : ∀ i j, i < j → j < ops.size → (fp i).conf (fp j) = true → Anc ops i j) (hback : backAny ops = true)
    {n0 : Nat} {w0 : World} {ok0 : Nat → Prop} (hG : ∀ w, Below n0 w0 w → G w) {Q : Exit → Act → World → Prop} {a : Act} {w : World} (h0 : Left n0 w0 ok0 nt (tmS 0) (bxS 0) a w) (hQ : ∀ a w, Left n0 w0 ok0 nt (tmS ops.size) (bxS ops.size) a w → Q .normal a w) :
    wpAny P .any ops Q ops.size (Array.replicate ops.size false) a w := by
  have hst : ∀ i, i < ops.size → ∃ o, ops[i]? = some o ∧ Stp P G ops nt o (tmS i) (bxS i) (tmS (i + 1)) (bxS (i + 1)) (fp i) := fun i hi => ⟨ops[i], Array.getElem?_eq_getElem hi, hstp i _ (Array.getElem?_eq_getElem hi)⟩
  -- versions
  have vt' : ∀ t k d, k + d ≤ ops.size → (∀ j, j < ops.size → (fp j).wt = some t → (j < k ↔ j < k + d)) → tmS (k + d) t = tmS k t := by
    intro t k d
    induction d with
    | zero => intro _ _; rfl
    | succ d ih =>
      intro hn hw
      obtain ⟨o, _, hs⟩ := hst (k + d) (by omega)
      rw [show k + (d + 1) = k + d + 1 by omega, hs.tm_ne (fun e => by have := hw (k + d) (by omega) e; omega)]
      exact ih (by omega) fun j hj e => by have := hw j hj e; omega
  have vt : ∀ t k k', k ≤ ops.size → k' ≤ ops.size → (∀ j, j < ops.size → (fp j).wt = some t → (j < k ↔ j < k')) → tmS k t = tmS k' t := by
    intro t k k' hk hk' hw
    rcases Nat.le_total k k' with h | h
    · have := vt' t k (k' - k) (by omega) fun j hj e => by have := hw j hj e; omega
      rw [show k + (k' - k) = k' by omega] at this
      exact this.symm
    · have := vt' t k' (k - k') (by omega) fun j hj e => by have := hw j hj e; omega
      rw [show k' + (k - k') = k by omega] at this
      exact this
  have vb' : ∀ t k d, k + d ≤ ops.size → (∀ j, j < ops.size → (fp j).bt = some t → (fp j).bw = true → (j < k ↔ j < k + d)) → bxS (k + d) t = bxS k t := by
    intro t k d
    induction d with
    | zero => intro _ _; rfl
    | succ d ih =>
      intro hn hw
      obtain ⟨o, _, hs⟩ := hst (k + d) (by omega)
      rw [show k + (d + 1) = k + d + 1 by omega, hs.bx_ne (fun e => by have := hw (k + d) (by omega) e.1 e.2; omega)]
      exact ih (by omega) fun j hj e e' => by have := hw j hj e e'; omega
  have vb : ∀ t k k', k ≤ ops.size → k' ≤ ops.size → (∀ j, j < ops.size → (fp j).bt = some t → (fp j).bw = true → (j < k ↔ j < k')) → bxS k t = bxS k' t := by
    intro t k k' hk hk' hw
    rcases Nat.le_total k k' with h | h
    · have := vb' t k (k' - k) (by omega) fun j hj e e' => by have := hw j hj e e'; omega
      rw [show k + (k' - k) = k' by omega] at this
      exact this.symm
    · have := vb' t k' (k - k') (by omega) fun j hj e e' => by have := hw j hj e e'; omega
      rw [show k' + (k - k') = k by omega] at this
      exact this
  refine wpAny_invB (md := .any) (fun listed a w => ∃ tm bx, Left n0 w0 ok0 nt tm bx a w ∧ (∀ i, listed.getD i false = true → ∀ j ∈ waits ops i, listed.getD j false = true) ∧
      (∀ t, ∃ k, k ≤ ops.size ∧ tm t = tmS k t ∧ ∀ j, j < ops.size → (fp j).wt = some t → (listed.getD j false = true ↔ j < k)) ∧
      (∀ b, ∃ k, k ≤ ops.size ∧ bx b = bxS k b ∧ ∀ j, j < ops.size → (fp j).bt = some b → (fp j).bw = true → (listed.getD j false = true ↔ j < k))) (fun i o ho => backAny_spec hback i o ho) ?_ ?_ _ _ _ _ (by simp) (by simp [List.countP_replicate]) ?_
  · intro listed a w i hI hs hr
    rw [mem_ready] at hr
    obtain ⟨hn0, o, ho, hafter⟩ := hr
    have hlt := (Array.getElem?_eq_some_iff.1 ho).1
    have hD0 : ¬ listed.getD i false = true := by
      have hlt' : i < listed.size := by omega
      simp [hlt'] at hn0 ⊢
      exact hn0
    obtain ⟨tm, bx, hL, hclo, hT, hB⟩ := hI
    have hset : (listed.setIfInBounds i true).getD i false = true := by
      have hlt' : i < listed.size := by omega
      simp [hlt']
    have hup : ∀ j, listed.getD j false = true → (listed.setIfInBounds i true).getD j false = true := fun j h => getD_set_true h
    have hdn : ∀ j, (listed.setIfInBounds i true).getD j false = true → j = i ∨ listed.getD j false = true := fun j h => getD_upd h
    have hw8 : ∀ j ∈ waits ops i, listed.getD j false = true := fun j hj => by
      obtain ⟨e, he, hb, rfl⟩ := (mem_waits ho).1 hj
      exact hafter e he hb
    have hancL : ∀ x y, Anc ops x y → listed.getD y false = true → listed.getD x false = true := by
      intro x y h
      induction h with
      | one h => exact fun hy => hclo _ hy _ h
      | more h _ ih => exact fun hy => ih (hclo _ hy _ h)
    have hancI : ∀ x, Anc ops x i → listed.getD x false = true := by
      intro x h
      cases h with
      | one h => exact hw8 _ h
      | more h h' => exact hancL _ _ h' (hw8 _ h)
    -- who touches the same place as i: before i are done, behind i are not
    have side : ∀ j, j < ops.size → (j < i → (fp j).conf (fp i) = true) → (i < j → (fp i).conf (fp j) = true) → (listed.getD j false = true ↔ j < i) := by
      intro j hj h1 h2
      rcases Nat.lt_trichotomy j i with e | e | e
      · exact ⟨fun _ => e, fun _ => hancI j (hconf j i e hlt (h1 e))⟩
      · subst e
        exact ⟨fun h => absurd h hD0, fun h => absurd h (Nat.lt_irrefl _)⟩
      · refine ⟨fun h => absurd (hancL i j (hconf i j e hj (h2 e)) h) hD0, fun h => by omega⟩
    have hS := hstp i o ho
    have hrt : ∀ t ∈ (fp i).rt, tm t = tmS i t := by
      intro t ht
      obtain ⟨k, hk, e, hv⟩ := hT t
      rw [e]
      refine vt t k i hk (by omega) fun j hj hwj => ?_
      rw [← hv j hj hwj]
      exact side j hj (fun _ => conf_wr hwj ht) (fun _ => conf_rw hwj ht)
    have hbt : ∀ b, (fp i).bt = some b → (bx b = bxS i b ∨ (fp i).bw = false) ∧ ((fp i).bw = false → bx b = bxS i b) := by
      intro b hb
      have key : bx b = bxS i b := by
        obtain ⟨k, hk, e, hv⟩ := hB b
        rw [e]
        refine vb b k i hk (by omega) fun j hj hbj hwj => ?_
        rw [← hv j hj hbj hwj]
        exact side j hj (fun _ => conf_b hbj hb (.inl hwj)) (fun _ => conf_b hb hbj (.inr hwj))
      exact ⟨.inl key, fun _ => key⟩
    have hbt' : ∀ b, (fp i).bt = some b → bx b = bxS i b := fun b hb => by
      rcases (hbt b hb).1 with h | h
      · exact h
      · exact (hbt b hb).2 h
    -- the step in the present state
    have hlook : ∀ t ∈ o.looksAt ops, tm t = tmS i t := fun t ht => hrt t (hS.rt t ht)
    have hev : ∀ x ∈ o.op.operands.toList, aev tm x = aev (tmS i) x := by
      intro x hx
      cases x with
      | tmp t =>
        refine hlook t ?_
        unfold Oper.looksAt
        refine List.mem_append_left _ (List.mem_filterMap.2 ⟨.tmp t, hx, rfl⟩)
      | _ => rfl
    have hwant : awant ops tm o = awant ops (tmS i) o := by
      unfold awant
      cases hg : o.guard with
      | none => rfl
      | some x =>
        obtain ⟨g, b⟩ := x
        simp only
        cases hd : (ops[g]?).bind (·.dst) with
        | none => rfl
        | some d =>
          simp only
          have : tm d = tmS i d := hlook d (by
            unfold Oper.looksAt
            refine List.mem_append_right _ ?_
            rw [hg]
            simp [hd])
          rw [this]
    have hst' : ∃ tm' bx', Stp P G ops nt o tm bx tm' bx' (fp i) ∧ (∀ t, (fp i).wt = some t → tm' t = tmS (i + 1) t) ∧ (∀ b, (fp i).bt = some b → (fp i).bw = true → bx' b = bxS (i + 1) b) := by
      rcases hS.go with ⟨hw, e1, e2⟩ | ⟨hw, act, ps, an, an', k, r, y, h1, h2, h3, h4, e1, e2, h5, h6⟩
      · refine ⟨updT tm o.dst (.dt (.val undef)), bx, ⟨hS.rt, hS.wt, hS.lt, .inl ⟨hwant.trans hw, rfl, rfl⟩⟩, fun t ht => ?_, fun b hb hbw => ?_⟩
        · rw [hS.wt] at ht
          rw [e1, updT_eq ht, updT_eq ht]
        · rw [e2]; exact hbt' b hb
      · have hrun : act.run bx k = some (r, y) := by rw [← h4]; exact run_loc fun b hb => hbt' b (h5 b hb)
        have hk' : act.isA = true → bx k = none := fun ha => by
          cases act with
          | alloc t cs => rw [hbt' k (h5 k rfl)]; exact h3 ha
          | _ => cases ha
        refine ⟨updT tm o.dst r, updB bx y, ⟨hS.rt, hS.wt, hS.lt, .inr ⟨hwant.trans hw, act, ps, an, an', k, r, y, (adec_loc hev).trans h1, h2, hk', hrun, rfl, rfl, h5, h6⟩⟩, fun t ht => ?_, fun b hb hbw => ?_⟩
        · rw [hS.wt] at ht
          rw [e1, updT_eq ht, updT_eq ht]
        · rw [e2]
          cases y with
          | none => exact hbt' b hb
          | some y =>
            obtain ⟨b', cs⟩ := y
            show (if b = b' then some cs else bx b) = if b = b' then some cs else bxS i b
            by_cases e : b = b'
            · rw [if_pos e, if_pos e]
            · rw [if_neg e, if_neg e]; exact hbt' b hb
    obtain ⟨tm', bx', hS', hTn, hBn⟩ := hst'
    refine hS'.wp ho hL (by obtain ⟨M, hI⟩ := hL; exact hG _ hI.below) fun a2 w2 hL2 => ⟨tm', bx', hL2, ?_, ?_, ?_⟩
    · intro k hk j hj
      rcases hdn k hk with rfl | e
      · exact hup j (hw8 j hj)
      · exact hup j (hclo k e j hj)
    · intro t
      by_cases hw : (fp i).wt = some t
      · refine ⟨i + 1, by omega, hTn t hw, fun j hj hwj => ?_⟩
        have := side j hj (fun _ => conf_ww hwj hw) (fun _ => conf_ww hw hwj)
        constructor
        · intro h
          rcases hdn j h with rfl | e
          · omega
          · have := this.1 e; omega
        · intro h
          by_cases e : j = i
          · subst e; exact hset
          · exact hup j (this.2 (by omega))
      · obtain ⟨k, hk, e, hv⟩ := hT t
        refine ⟨k, hk, (hS'.tm_ne hw).trans e, fun j hj hwj => ?_⟩
        have hji : j ≠ i := fun e => hw (e ▸ hwj)
        rw [← hv j hj hwj]
        exact ⟨fun h => (hdn j h).resolve_left hji, hup j⟩
    · intro b
      by_cases hw : (fp i).bt = some b ∧ (fp i).bw = true
      · refine ⟨i + 1, by omega, hBn b hw.1 hw.2, fun j hj hbj hwj => ?_⟩
        have := side j hj (fun _ => conf_b hbj hw.1 (.inl hwj)) (fun _ => conf_b hw.1 hbj (.inl hw.2))
        constructor
        · intro h
          rcases hdn j h with rfl | e
          · omega
          · have := this.1 e; omega
        · intro h
          by_cases e : j = i
          · subst e; exact hset
          · exact hup j (this.2 (by omega))
      · obtain ⟨k, hk, e, hv⟩ := hB b
        refine ⟨k, hk, (hS'.bx_ne hw).trans e, fun j hj hbj hwj => ?_⟩
        have hji : j ≠ i := fun e => hw (e ▸ ⟨hbj, hwj⟩)
        rw [← hv j hj hbj hwj]
        exact ⟨fun h => (hdn j h).resolve_left hji, hup j⟩
  · intro listed a w hI hall
    obtain ⟨tm, bx, hL, _, hT, hB⟩ := hI
    have e1 : tm = tmS ops.size := funext fun t => by
      obtain ⟨k, hk, e, hv⟩ := hT t
      rw [e]
      exact vt t k _ hk (Nat.le_refl _) fun j hj hw => ⟨fun _ => hj, fun _ => (hv j hj hw).1 (hall j hj)⟩
    have e2 : bx = bxS ops.size := funext fun b => by
      obtain ⟨k, hk, e, hv⟩ := hB b
      rw [e]
      exact vb b k _ hk (Nat.le_refl _) fun j hj hb hw => ⟨fun _ => hj, fun _ => (hv j hj hb hw).1 (hall j hj)⟩
    rw [e1, e2] at hL
    exact hQ a w hL
  · have hno : ∀ i, ¬ (Array.replicate ops.size false).getD i false = true := fun i => by
      by_cases h : i < ops.size <;> simp [h]
    exact ⟨tmS 0, bxS 0, h0, fun i h => absurd h (hno _), fun t => ⟨0, Nat.zero_le _, rfl, fun j _ _ => ⟨fun h => absurd h (hno _), fun h => by omega⟩⟩, fun t => ⟨0, Nat.zero_le _, rfl, fun j _ _ _ => ⟨fun h => absurd h (hno _), fun h => by omega⟩⟩⟩
end Go.Proofs.YtgphkgmhcmffnaaGreatDoor
/- Plain walks: the evaluator of regions. -/
namespace Go.Proofs.YtgphkgmhcmffnaaGreatDoor
open Go.RowKit

structure AS where
  tm : List AV
  bx : List (Option (List AV))
def AS.tmf (s : AS) : Nat → AV := fun t => s.tm.getD t (.dt (.val undef))
def AS.bxf (s : AS) : Nat → Option (List AV) := fun b => match s.bx[b]? with
  | some x => x
  | none => none
def setT (tm : List AV) (d : Option Nat) (r : AV) : List AV := match d with
  | some d => tm.set d r
  | none => tm
def setB (bx : List (Option (List AV))) : Option (Nat × List AV) → List (Option (List AV))
  | none => bx
  | some (b, cs) => match Nat.beq b bx.length with
    | true => bx ++ [some cs]
    | false => bx.set b (some cs)
theorem setT_f {s : AS} {d : Option Nat} {r : AV} {bx : List (Option (List AV))} (h : ∀ t, d = some t → t < s.tm.length) : (AS.mk (setT s.tm d r) bx).tmf = updT s.tmf d r := by
  funext t
  cases d with
  | none => rfl
  | some d =>
    show (s.tm.set d r).getD t _ = if t = d then r else s.tm.getD t _
    have := h d rfl
    by_cases e : t = d
    · subst e; simp [this]
    · rw [if_neg e]
      simp [Ne.symm e]
theorem setB_f {s : AS} {y : Option (Nat × List AV)} {tm : List AV} (h : ∀ b cs, y = some (b, cs) → b ≤ s.bx.length) : (AS.mk tm (setB s.bx y)).bxf = updB s.bxf y := by
  funext k
  cases y with
  | none => rfl
  | some y =>
    obtain ⟨b, cs⟩ := y
    have hb := h b cs rfl
    show (match (setB s.bx (some (b, cs)))[k]? with | some x => x | none => none) = if k = b then some cs else s.bxf k
    unfold setB AS.bxf
    cases he : Nat.beq b s.bx.length with
    | true =>
      have e := Nat.eq_of_beq_eq_true he
      simp only [he]
      by_cases ek : k = b
      · rw [if_pos ek, ek, e]; simp
      · rw [if_neg ek]
        by_cases hk : k < s.bx.length
        · rw [List.getElem?_append_left hk]
        · rw [List.getElem?_eq_none (by simp; omega), List.getElem?_eq_none (by omega)]
    | false =>
      have e : b ≠ s.bx.length := fun e => by rw [e, Nat.beq_refl] at he; cases he
      simp only [he]
      by_cases ek : k = b
      · subst ek
        rw [if_pos rfl, List.getElem?_set_self (by omega)]
      · rw [if_neg ek, List.getElem?_set_ne (Ne.symm ek)]
theorem run_le {s : AS} {act : AAct} {r : AV} {y : Option (Nat × List AV)} (h : act.run s.bxf s.bx.length = some (r, y)) : ∀ b cs, y = some (b, cs) → b ≤ s.bx.length := by
  intro b cs hy
  subst hy
  obtain ⟨h1, h2⟩ := run_box h b cs rfl
  cases act with
  | store b' off vs =>
    cases h1
    simp only [AAct.run] at h
    split at h
    · rename_i cs' hb
      unfold AS.bxf at hb
      split at hb
      · rename_i x hx
        have := (List.getElem?_eq_some_iff.1 hx).1
        omega
      · cases hb
    · cases h
  | alloc t cs' => cases h1; exact Nat.le_refl _
  | _ => cases h2
theorem bxf_new (s : AS) : s.bxf s.bx.length = none := by
  unfold AS.bxf
  rw [List.getElem?_eq_none (Nat.le_refl _)]
def arun1 (P : Program) (G : World → Prop) (ops : Array Oper) (o : Oper) (s : AS) (an : List (Option AV)) : Option (AS × Fp × List Prop × List (Option AV)) :=
  match (match o.dst with | some d => Nat.ble (d + 1) s.tm.length | none => true) with
  | false => none
  | true => match awant ops s.tmf o with
    | none => none
    | some false => some (⟨setT s.tm o.dst (.dt (.val undef)), s.bx⟩, ⟨o.looksAt ops, o.dst, none, false⟩, [], an)
    | some true => match adec P G o.op (aev s.tmf) an with
      | none => none
      | some (act, ps, an') => match act.run s.bxf s.bx.length with
        | none => none
        | some (r, y) => some (⟨setT s.tm o.dst r, setB s.bx y⟩, ⟨o.looksAt ops, o.dst, act.bt s.bx.length, act.bw⟩, ps, an')
theorem setT_len (tm : List AV) (d : Option Nat) (r : AV) : (setT tm d r).length = tm.length := by
  cases d with
  | none => rfl
  | some d => exact List.length_set
theorem arun1_stp {P : Program} {G : World → Prop} {ops : Array Oper} {o : Oper} {s s' : AS} {an an' : List (Option AV)} {f : Fp} {ps : List Prop} (h : arun1 P G ops o s an = some (s', f, ps, an')) (hp : AllP ps) :
    Stp P G ops s.tm.length o s.tmf s.bxf s'.tmf s'.bxf f ∧ s'.tm.length = s.tm.length := by
  unfold arun1 at h
  split at h
  · cases h
  rename_i hd
  have hd' : ∀ t, o.dst = some t → t < s.tm.length := fun t ht => by
    rw [ht] at hd
    have hd2 : Nat.ble (t + 1) s.tm.length = true := hd
    exact Nat.le_of_ble_eq_true hd2
  split at h
  · cases h
  · rename_i hw
    cases h
    exact ⟨⟨fun t ht => ht, rfl, hd', .inl ⟨hw, setT_f hd', rfl⟩⟩, setT_len _ _ _⟩
  · rename_i hw
    split at h
    · cases h
    · rename_i act ps' an'' hdec
      split at h
      · cases h
      · rename_i r y hr
        cases h
        exact ⟨⟨fun t ht => ht, rfl, hd', .inr ⟨hw, act, _, an, _, s.bx.length, r, y, hdec, hp, fun _ => bxf_new s, hr, setT_f hd', setB_f (run_le hr), fun b hb => hb, fun hb => hb⟩⟩, setT_len _ _ _⟩
def aops (P : Program) (G : World → Prop) (ops : Array Oper) : List Oper → AS → List (Option AV) → Option (AS × List Fp × List Prop × List (Option AV))
  | [], s, an => some (s, [], [], an)
  | o :: os, s, an => match arun1 P G ops o s an with
    | none => none
    | some (s1, f, ps, an1) => match aops P G ops os s1 an1 with
      | none => none
      | some (s2, fs, qs, an2) => some (s2, f :: fs, ps ++ qs, an2)
theorem AllP_app : ∀ {ps qs : List Prop}, AllP (ps ++ qs) → AllP ps ∧ AllP qs
  | [], _, h => ⟨trivial, h⟩
  | _ :: _, _, h => ⟨⟨h.1, (AllP_app h.2).1⟩, (AllP_app h.2).2⟩
theorem aops_run {P : Program} {G : World → Prop} {ops : Array Oper} : ∀ {os : List Oper} {s s' : AS} {an an' : List (Option AV)} {fs : List Fp} {ps : List Prop}, aops P G ops os s an = some (s', fs, ps, an') → AllP ps →
    s'.tm.length = s.tm.length ∧ fs.length = os.length ∧ ∃ (tmS : Nat → Nat → AV) (bxS : Nat → Nat → Option (List AV)), tmS 0 = s.tmf ∧ bxS 0 = s.bxf ∧ tmS os.length = s'.tmf ∧ bxS os.length = s'.bxf ∧
      ∀ i o f, os[i]? = some o → fs[i]? = some f → Stp P G ops s.tm.length o (tmS i) (bxS i) (tmS (i + 1)) (bxS (i + 1)) f
  | [], s, s', an, an', fs, ps, h, _ => by
    cases h
    exact ⟨rfl, rfl, fun _ => s.tmf, fun _ => s.bxf, rfl, rfl, rfl, rfl, fun i o f hi => by simp at hi⟩
  | o :: os, s, s', an, an', fs, ps, h, hp => by
    unfold aops at h
    split at h
    · cases h
    · rename_i s1 f ps1 an1 h1
      split at h
      · cases h
      · rename_i s2 fs2 qs an2 h2
        cases h
        obtain ⟨hp1, hp2⟩ := AllP_app hp
        obtain ⟨hs, hl⟩ := arun1_stp h1 hp1
        obtain ⟨hl2, hf2, tmS, bxS, e1, e2, e3, e4, hst⟩ := aops_run h2 hp2
        refine ⟨hl2.trans hl, by simp [hf2], fun i => match i with | 0 => s.tmf | i + 1 => tmS i, fun i => match i with | 0 => s.bxf | i + 1 => bxS i, rfl, rfl, e3, e4, ?_⟩
        intro i o' f' hi hf
        cases i with
        | zero =>
          cases hi
          cases hf
          simp only [e1, e2]
          exact hs
        | succ i =>
          rw [hl] at hst
          exact hst i o' f' (by simpa using hi) (by simpa using hf)
/-- who must be done before: as bits -/
def ancs : List Oper → List Nat → List Nat
  | [], acc => acc
  | o :: os, acc => ancs os (acc ++ [o.after.toList.foldl (fun m e => match Region.binds .any e with | true => m ||| (2 ^ e.on ||| acc.getD e.on 0) | false => m) 0])
theorem ancs_fold {ops : Array Oper} {acc : List Nat} (hacc : ∀ j m, acc[j]? = some m → ∀ i, m.testBit i = true → Anc ops i j) {n : Nat} : ∀ (es : List Edge) (m0 : Nat), (∀ i, m0.testBit i = true → Anc ops i n) → (∀ e ∈ es, Region.binds .any e = true → e.on ∈ waits ops n) →
    ∀ i, (es.foldl (fun m e => match Region.binds .any e with | true => m ||| (2 ^ e.on ||| acc.getD e.on 0) | false => m) m0).testBit i = true → Anc ops i n
  | [], _, h, _ => h
  | e :: es, m0, h, hw => by
    rw [List.foldl_cons]
    refine ancs_fold hacc es _ ?_ (fun e' he' => hw e' (List.mem_cons_of_mem _ he'))
    intro i hi
    cases hb : Region.binds .any e with
    | false => rw [hb] at hi; exact h i hi
    | true =>
      rw [hb] at hi
      simp only [Nat.testBit_or, Bool.or_eq_true] at hi
      have hwe := hw e (List.mem_cons_self) hb
      rcases hi with hi | hi | hi
      · exact h i hi
      · rw [Nat.testBit_two_pow] at hi
        have : e.on = i := of_decide_eq_true hi
        subst this
        exact .one hwe
      · cases ha : acc[e.on]? with
        | none => simp [List.getD, ha] at hi
        | some m => exact .more hwe (hacc e.on m ha i (by simpa [List.getD, ha] using hi))
theorem ancs_ok {ops : Array Oper} : ∀ (os : List Oper) (acc : List Nat), (∀ i o, os[i]? = some o → ops[acc.length + i]? = some o) → (∀ j m, acc[j]? = some m → ∀ i, m.testBit i = true → Anc ops i j) →
    ∀ j m, (ancs os acc)[j]? = some m → ∀ i, m.testBit i = true → Anc ops i j
  | [], acc, _, h => h
  | o :: os, acc, ho, h => by
    refine ancs_ok os _ (fun i o' hi => ?_) ?_
    · have := ho (i + 1) o' (by simpa using hi)
      rw [List.length_append, List.length_singleton]
      rw [← this]; congr 1; omega
    · intro j m hj
      by_cases hlt : j < acc.length
      · rw [List.getElem?_append_left hlt] at hj
        exact h j m hj
      · have hj' : j = acc.length := by
          have := (List.getElem?_eq_some_iff.1 hj).1
          simp at this
          omega
        subst hj'
        rw [List.getElem?_append_right (Nat.le_refl _), Nat.sub_self] at hj
        simp only [List.getElem?_cons_zero, Option.some.injEq] at hj
        subst hj
        refine ancs_fold h _ 0 (fun i hi => by simp at hi) fun e he hb => ?_
        have := ho 0 o rfl
        rw [Nat.add_zero] at this
        exact (mem_waits this).2 ⟨e, Array.mem_toList_iff.1 he, hb, rfl⟩
def chk1 (m : Nat) (y : Fp) : List Fp → Nat → Bool
  | [], _ => true
  | x :: xs, i => (match x.conf y with | true => m.testBit i | false => true) && chk1 m y xs (i + 1)
def chkA : List Fp → List Fp → List Nat → Bool
  | _, [], _ => true
  | pre, y :: ys, m :: ms => chk1 m y pre 0 && chkA (pre ++ [y]) ys ms
  | _, _ :: _, [] => false
theorem chk1_ok {m : Nat} {y : Fp} : ∀ {xs : List Fp} {k : Nat}, chk1 m y xs k = true → ∀ i x, xs[i]? = some x → x.conf y = true → m.testBit (k + i) = true
  | [], _, _, i, x, hi, _ => by simp at hi
  | x0 :: xs, k, h, i, x, hi, hc => by
    unfold chk1 at h
    rw [Bool.and_eq_true] at h
    cases i with
    | zero =>
      cases hi
      rw [hc] at h
      exact h.1
    | succ i =>
      have := chk1_ok h.2 i x (by simpa using hi) hc
      rw [← this]; congr 1; omega
theorem chkA_ok : ∀ {ys pre : List Fp} {ms : List Nat}, chkA pre ys ms = true → ∀ i j x y, i < j → (pre ++ ys)[i]? = some x → ys[j - pre.length]? = some y → pre.length ≤ j → x.conf y = true → ∃ m, ms[j - pre.length]? = some m ∧ m.testBit i = true
  | [], _, _, _, i, j, x, y, _, _, hy, _, _ => by simp at hy
  | y0 :: ys, pre, [], h, _, _, _, _, _, _, _, _, _ => by simp [chkA] at h
  | y0 :: ys, pre, m0 :: ms, h, i, j, x, y, hij, hx, hy, hj, hc => by
    unfold chkA at h
    rw [Bool.and_eq_true] at h
    by_cases e : j = pre.length
    · subst e
      rw [Nat.sub_self] at hy ⊢
      cases hy
      rw [List.getElem?_append_left hij] at hx
      have := chk1_ok h.1 i x hx hc
      rw [Nat.zero_add] at this
      exact ⟨m0, rfl, this⟩
    · have hs : j - pre.length = (j - (pre ++ [y0]).length) + 1 := by simp; omega
      rw [hs] at hy ⊢
      obtain ⟨m, h1, h2⟩ := chkA_ok h.2 i j x y hij (by simpa using hx) (by simpa using hy) (by simp; omega) hc
      exact ⟨m, by simpa using h1, h2⟩
def aregion (P : Program) (G : World → Prop) (ops : Array Oper) (draw : Bool) (s : AS) (an : List (Option AV)) : Option (AS × List Prop × List (Option AV)) :=
  match aops P G ops ops.toList s an with
  | none => none
  | some (s', fs, ps, an') => match !draw || (backAny ops && chkA [] fs (ancs ops.toList [])) with
    | true => some (s', ps, an')
    | false => none
theorem aregion_sound {P : Program} {G : World → Prop} {ops : Array Oper} {draw : Bool} {id : Nat} {s s' : AS} {an an' : List (Option AV)} {ps : List Prop} (h : aregion P G ops draw s an = some (s', ps, an')) (hp : AllP ps) (hm : P.follows .mixedOrders = true)
    {n0 : Nat} {w0 : World} {ok0 : Nat → Prop} (hG : ∀ w, Below n0 w0 w → G w) {Q : Exit → Act → World → Prop} {a : Act} {w : World} (h0 : Left n0 w0 ok0 s.tm.length s.tmf s.bxf a w) (hQ : ∀ a w, Left n0 w0 ok0 s.tm.length s'.tmf s'.bxf a w → Q .normal a w) :
    (Code.region id ops draw).wp P Q a w := by
  unfold aregion at h
  split at h
  · cases h
  rename_i s1 fs ps1 an1 hrun
  split at h
  case h_2 => cases h
  rename_i hchk
  cases h
  obtain ⟨_, hfl, tmS, bxS, e1, e2, e3, e4, hst⟩ := aops_run hrun hp
  have hsz : ops.toList.length = ops.size := by simp
  have hst' : ∀ i o, ops[i]? = some o → Stp P G ops s.tm.length o (tmS i) (bxS i) (tmS (i + 1)) (bxS (i + 1)) (fs.getD i ⟨[], none, none, false⟩) := by
    intro i o ho
    have hi := (Array.getElem?_eq_some_iff.1 ho).1
    have hf : fs[i]? = some (fs.getD i ⟨[], none, none, false⟩) := by
      have hi' : i < fs.length := by omega
      simp [hi']
    exact hst i o _ (by simpa using ho) hf
  rw [← e1, ← e2] at h0
  rw [hsz] at e3 e4
  rw [← e3, ← e4] at hQ
  cases draw with
  | true =>
    simp only [Bool.not_true, Bool.false_or, Bool.and_eq_true] at hchk
    refine wp_region_any hm ?_
    refine any_region (tmS := tmS) (bxS := bxS) (fp := fun i => fs.getD i ⟨[], none, none, false⟩) hst' ?_ hchk.1 hG ?_ hQ
    · intro i j hij hj hc
      have hi' : i < fs.length := by omega
      have hj' : j < fs.length := by omega
      obtain ⟨m, h1, h2⟩ := chkA_ok hchk.2 i j (fs.getD i ⟨[], none, none, false⟩) (fs.getD j ⟨[], none, none, false⟩) hij (by simp [hi']) (by simp [hj']) (Nat.zero_le _) hc
      exact ancs_ok ops.toList [] (fun i o hi => by simpa using hi) (fun j m hj => by simp at hj) j m (by simpa using h1) i h2
    · obtain ⟨M, hI⟩ := h0
      have g : Go1 n0 M w M { w with drawn := w.drawn + 1 } := ⟨⟨rfl, rfl, rfl, Nat.le_refl _, fun _ _ => rfl⟩, fun _ _ _ => rfl, fun _ h _ => h, fun _ _ h => h⟩
      exact ⟨M, ⟨hI.below.trans g.below, hI.le, hI.defers, hI.size, fun t => RV.go g _ _ (hI.tmps t), fun b cs hb => by
        obtain ⟨x, T, vs, h1, h2, h3⟩ := hI.box b cs hb
        exact ⟨x, T, vs, h1, h2, RL.go g _ _ h3⟩, hI.dom, hI.inj, hI.fz, hI.src⟩⟩
  | false =>
    refine wp_region ?_
    have key : ∀ k i, i + k = ops.size → ∀ a w, Left n0 w0 ok0 s.tm.length (tmS i) (bxS i) a w → wpOps P ops Q (List.range' i k) a w := by
      intro k
      induction k with
      | zero =>
        intro i hi a w hL
        obtain rfl : i = ops.size := by omega
        exact hQ a w hL
      | succ k ih =>
        intro i hi a w hL
        have ho : ops[i]? = some ops[i] := Array.getElem?_eq_getElem (by omega)
        rw [List.range'_succ, wpOps_cons]
        exact (hst' i _ ho).wp ho hL (by obtain ⟨M, hI⟩ := hL; exact hG _ hI.below) fun a w hL' => ih (i + 1) (by omega) a w hL'
    rw [List.range_eq_range']
    exact key ops.size 0 (by omega) a w h0
end Go.Proofs.YtgphkgmhcmffnaaGreatDoor
/- Plain walks: code and functions. -/
namespace Go.Proofs.YtgphkgmhcmffnaaGreatDoor
open Go.RowKit

inductive AE where
  | nxt
  | out (id : Nat)
  | ret
def AE.ex : AE → Exit
  | .nxt => .normal
  | .out id => .exit id
  | .ret => .ret
/-- from state to state through a piece of code -/
def Tri (P : Program) (G : World → Prop) (c : Code) (s : AS) (e : AE) (s' : AS) : Prop :=
  s'.tm.length = s.tm.length ∧ ∀ (n0 : Nat) (w0 : World) (ok0 : Nat → Prop) (a : Act) (w : World), (∀ w, Below n0 w0 w → G w) → Left n0 w0 ok0 s.tm.length s.tmf s.bxf a w →
    c.wp P (fun x a' w' => x = e.ex ∧ Left n0 w0 ok0 s.tm.length s'.tmf s'.bxf a' w') a w
mutual
def AV.ptl (n : Nat) : AV → Bool
  | .ptr b _ => Nat.ble (b + 1) n
  | .agg cs => AV.ptls n cs
  | .tup cs => AV.ptls n cs
  | .clo _ cs => AV.ptls n cs
  | _ => true
def AV.ptls (n : Nat) : List AV → Bool
  | [] => true
  | c :: cs => AV.ptl n c && AV.ptls n cs
end
mutual
theorem RV.ptl {M : Mm} {w : World} {n : Nat} : ∀ (a : AV) (v : Value), a.ptl n = true → RV M w a v → RV ⟨fun b => if b < n then M.m b else none, M.F⟩ w a v
  | .dt d, v, _, h => h
  | .pin ds, v, _, h => h
  | .un, v, _, h => trivial
  | .ptr b off, v, hp, ⟨g, h1, h2⟩ => ⟨g, by
      have hp' : Nat.ble (b + 1) n = true := hp
      have := Nat.le_of_ble_eq_true hp'
      show (if b < n then M.m b else none) = some g
      rw [if_pos (by omega), h1], h2⟩
  | .agg cs, v, hf, ⟨vs, h1, h2⟩ => ⟨vs, h1, RL.ptl cs vs hf h2⟩
  | .tup cs, v, hf, ⟨vs, h1, h2⟩ => ⟨vs, h1, RL.ptl cs vs hf h2⟩
  | .clo f cs, v, hf, ⟨vs, h1, h2⟩ => ⟨vs, h1, RL.ptl cs vs hf h2⟩
theorem RL.ptl {M : Mm} {w : World} {n : Nat} : ∀ (cs : List AV) (vs : List Value), AV.ptls n cs = true → RL M w cs vs → RL ⟨fun b => if b < n then M.m b else none, M.F⟩ w cs vs
  | [], _, _, h => h
  | c :: cs, _, hf, ⟨u, us, h1, h2, h3⟩ => by
    have hf' : (c.ptl n && AV.ptls n cs) = true := hf
    rw [Bool.and_eq_true] at hf'
    exact ⟨u, us, h1, RV.ptl c u hf'.1 h2, RL.ptl cs us hf'.2 h3⟩
end
def fgt (ft : List Nat) : Nat → List AV → List AV
  | _, [] => []
  | i, x :: xs => (match ft.contains i with | true => x | false => .un) :: fgt ft (i + 1) xs
theorem fgt_len (ft : List Nat) : ∀ (i : Nat) (xs : List AV), (fgt ft i xs).length = xs.length
  | _, [] => rfl
  | i, x :: xs => by unfold fgt; rw [List.length_cons, List.length_cons, fgt_len ft (i + 1) xs]
theorem fgt_get (ft : List Nat) : ∀ (i : Nat) (xs : List AV) (t : Nat) (d : AV), (fgt ft i xs).getD t d = .un ∨ (fgt ft i xs).getD t d = xs.getD t d
  | _, [], t, d => .inr rfl
  | i, x :: xs, 0, d => by
    unfold fgt
    cases ft.contains i
    · exact .inl rfl
    · exact .inr rfl
  | i, x :: xs, t + 1, d => by
    have := fgt_get ft (i + 1) xs t d
    unfold fgt
    simpa using this
/-- the slots ft are kept, and the boxes before nb -/
def forget (ft : List Nat) (nb : Nat) (s : AS) : AS := ⟨fgt ft 0 s.tm, s.bx.take nb⟩
def forgets (nb : Nat) (s : AS) : Bool := AV.ptls nb s.tm && s.bx.all fun x => match x with | some cs => AV.ptls nb cs | none => true
theorem ptls_get {n : Nat} : ∀ {cs : List AV}, AV.ptls n cs = true → ∀ (t : Nat) (d : AV), d.ptl n = true → (cs.getD t d).ptl n = true
  | [], _, t, d, hd => by simpa using hd
  | c :: cs, h, t, d, hd => by
    have h' : (c.ptl n && AV.ptls n cs) = true := h
    rw [Bool.and_eq_true] at h'
    cases t with
    | zero => exact h'.1
    | succ t => simpa using ptls_get h'.2 t d hd
theorem Left.forget {ft : List Nat} {nb : Nat} {s : AS} (hf : forgets nb (forget ft nb s) = true) {n0 : Nat} {w0 : World} {ok0 : Nat → Prop} {nt : Nat} {a : Act} {w : World} (h : Left n0 w0 ok0 nt s.tmf s.bxf a w) : Left n0 w0 ok0 nt (forget ft nb s).tmf (forget ft nb s).bxf a w := by
  obtain ⟨M, hI⟩ := h
  unfold forgets at hf
  rw [Bool.and_eq_true] at hf
  have hb : ∀ b cs, (Go.Proofs.YtgphkgmhcmffnaaGreatDoor.forget ft nb s).bxf b = some cs → b < nb ∧ s.bxf b = some cs ∧ AV.ptls nb cs = true := by
    intro b cs hbx
    unfold AS.bxf at hbx ⊢
    cases hx : (Go.Proofs.YtgphkgmhcmffnaaGreatDoor.forget ft nb s).bx[b]? with
    | none => rw [hx] at hbx; cases hbx
    | some x =>
      rw [hx] at hbx
      simp only at hbx
      subst hbx
      have h2 := List.all_eq_true.1 hf.2 _ (List.mem_of_getElem? hx)
      have h3 : (s.bx.take nb)[b]? = some (some cs) := hx
      rw [List.getElem?_take] at h3
      split at h3
      · rename_i hlt
        rw [h3]
        exact ⟨hlt, rfl, h2⟩
      · cases h3
  have hm : ∀ b g, (if b < nb then M.m b else none) = some g → b < nb ∧ M.m b = some g := fun b g h => by
    by_cases e : b < nb
    · rw [if_pos e] at h; exact ⟨e, h⟩
    · rw [if_neg e] at h; cases h
  refine ⟨⟨fun b => if b < nb then M.m b else none, M.F⟩, hI.below, hI.le, hI.defers, hI.size, ?_, ?_, ?_, ?_, hI.fz, hI.src⟩
  · intro t
    have hp := ptls_get hf.1 t (.dt (.val undef)) rfl
    have hp' : ((Go.Proofs.YtgphkgmhcmffnaaGreatDoor.forget ft nb s).tmf t).ptl nb = true := hp
    rcases fgt_get ft 0 s.tm t (.dt (.val undef)) with e | e
    · have e' : (Go.Proofs.YtgphkgmhcmffnaaGreatDoor.forget ft nb s).tmf t = .un := e
      rw [e']; trivial
    · have e' : (Go.Proofs.YtgphkgmhcmffnaaGreatDoor.forget ft nb s).tmf t = s.tmf t := e
      rw [e'] at hp' ⊢
      exact RV.ptl _ _ hp' (hI.tmps t)
  · intro b cs hbx
    obtain ⟨h1, h2, h3⟩ := hb b cs hbx
    obtain ⟨g, T, vs, e1, e2, e3⟩ := hI.box b cs h2
    exact ⟨g, T, vs, by show (if b < nb then M.m b else none) = some g; rw [if_pos h1, e1], e2, RL.ptl _ _ h3 e3⟩
  · intro b g hbg
    obtain ⟨h1, h2⟩ := hm b g hbg
    obtain ⟨d1, d2, d3, d4⟩ := hI.dom b g h2
    refine ⟨d1, d2, d3, ?_⟩
    have : (Go.Proofs.YtgphkgmhcmffnaaGreatDoor.forget ft nb s).bxf b = s.bxf b := by
      unfold AS.bxf
      show (match (s.bx.take nb)[b]? with | some x => x | none => none) = _
      rw [List.getElem?_take, if_pos h1]
      all_goals rfl
    rw [this]
    exact d4
  · intro b b' g h1 h2
    exact hI.inj b b' g (hm b g h1).2 (hm b' g h2).2
/-- what is said of a loop: what is forgotten before it, how it ends, and in which state -/
structure LA where
  ft : List Nat
  nb : Nat
  e : AE
  s : AS
def acode (P : Program) (G : World → Prop) : Code → AS → List (Option AV) → List LA → Option (AE × AS × List Prop × List (Option AV) × List LA)
  | .skip, s, an, ls => some (.nxt, s, [], an, ls)
  | .label _, s, an, ls => some (.nxt, s, [], an, ls)
  | .region _ ops draw, s, an, ls => match aregion P G ops draw s an with
    | none => none
    | some (s', ps, an') => some (.nxt, s', ps, an', ls)
  | .seq x y, s, an, ls => match acode P G x s an ls with
    | some (.nxt, s1, ps, an1, ls1) => match acode P G y s1 an1 ls1 with
      | some (e, s2, qs, an2, ls2) => some (e, s2, ps ++ qs, an2, ls2)
      | none => none
    | r => r
  | .cond c x y, s, an, ls => match aev s.tmf c with
    | .dt (.val (.bool true)) => acode P G x s an ls
    | .dt (.val (.bool false)) => acode P G y s an ls
    | _ => none
  | .block id b, s, an, ls => match acode P G b s an ls with
    | some (.out i, s', ps, an', ls') => match Nat.beq i id with
      | true => some (.nxt, s', ps, an', ls')
      | false => some (.out i, s', ps, an', ls')
    | r => r
  | .scope b, s, an, ls => acode P G b s an ls
  | .loop b, s, an, ls => match ls with
    | la :: ls => match forgets la.nb (forget la.ft la.nb s) with
      | true => some (la.e, la.s, [Tri P G (.loop b) (forget la.ft la.nb s) la.e la.s], an, ls)
      | false => none
    | [] => none
  | .exit id, s, an, ls => some (.out id, s, [], an, ls)
  | .ret, s, an, ls => some (.ret, s, [], an, ls)
  | _, _, _, _ => none
theorem acode_sound {P : Program} {G : World → Prop} (hm : P.follows .mixedOrders = true) : ∀ {c : Code} {s s' : AS} {an an' : List (Option AV)} {ls ls' : List LA} {e : AE} {ps : List Prop}, acode P G c s an ls = some (e, s', ps, an', ls') → AllP ps → Tri P G c s e s' := by
  intro c
  induction c with
  | skip => intro s s' an an' ls ls' e ps h _; cases h; exact ⟨rfl, fun n0 w0 ok0 a w _ hL => wp_skip ⟨rfl, hL⟩⟩
  | label l => intro s s' an an' ls ls' e ps h _; cases h; exact ⟨rfl, fun n0 w0 ok0 a w _ hL => wp_label ⟨rfl, hL⟩⟩
  | region id ops draw =>
    intro s s' an an' ls ls' e ps h hp
    simp only [acode] at h
    split at h
    · cases h
    · rename_i s1 ps1 an1 hr
      cases h
      refine ⟨?_, fun n0 w0 ok0 a w hG hL => aregion_sound hr hp hm hG hL fun a w hL' => ⟨rfl, hL'⟩⟩
      unfold aregion at hr
      split at hr
      · cases hr
      · rename_i h1
        split at hr
        · cases hr; exact (aops_run h1 hp).1
        · cases hr
  | seq x y ihx ihy =>
    intro s s' an an' ls ls' e ps h hp
    simp only [acode] at h
    split at h
    · rename_i s1 ps1 an1 ls1 hx
      split at h
      · rename_i e2 s2 qs an2 ls2 hy
        cases h
        obtain ⟨hp1, hp2⟩ := AllP_app hp
        obtain ⟨l1, t1⟩ := ihx hx hp1
        obtain ⟨l2, t2⟩ := ihy hy hp2
        refine ⟨l2.trans l1, fun n0 w0 ok0 a w hG hL => wp_seq (wp_mono (t1 n0 w0 ok0 a w hG hL) ?_)⟩
        rintro x' a' w' ⟨rfl, hL'⟩
        rw [← l1] at hL'
        have := t2 n0 w0 ok0 a' w' hG hL'
        rw [l1] at this
        exact this
      · cases h
    · rename_i hne
      obtain ⟨l1, t1⟩ := ihx h hp
      refine ⟨l1, fun n0 w0 ok0 a w hG hL => wp_seq (wp_mono (t1 n0 w0 ok0 a w hG hL) ?_)⟩
      rintro x' a' w' ⟨rfl, hL'⟩
      cases e with
      | nxt => exact absurd h (hne _ _ _ _)
      | out i => exact ⟨rfl, hL'⟩
      | ret => exact ⟨rfl, hL'⟩
  | cond c x y ihx ihy =>
    intro s s' an an' ls ls' e ps h hp
    simp only [acode] at h
    split at h
    · rename_i hc
      obtain ⟨l1, t1⟩ := ihx h hp
      refine ⟨l1, fun n0 w0 ok0 a w hG hL => ?_⟩
      obtain ⟨M, hI⟩ := hL
      have hv := hI.ev c
      rw [hc] at hv
      exact wp_cond_true (Rd.val_eq hv) (t1 n0 w0 ok0 a w hG ⟨M, hI⟩)
    · rename_i hc
      obtain ⟨l1, t1⟩ := ihy h hp
      refine ⟨l1, fun n0 w0 ok0 a w hG hL => ?_⟩
      obtain ⟨M, hI⟩ := hL
      have hv := hI.ev c
      rw [hc] at hv
      exact wp_cond_false (Rd.val_eq hv) (t1 n0 w0 ok0 a w hG ⟨M, hI⟩)
    · cases h
  | block id b ih =>
    intro s s' an an' ls ls' e ps h hp
    simp only [acode] at h
    split at h
    · rename_i i s1 ps1 an1 ls1 hb
      split at h
      · rename_i hi
        have hi' := Nat.eq_of_beq_eq_true hi
        cases h
        obtain ⟨l1, t1⟩ := ih hb hp
        refine ⟨l1, fun n0 w0 ok0 a w hG hL => wp_block (wp_mono (t1 n0 w0 ok0 a w hG hL) ?_)⟩
        rintro x' a' w' ⟨rfl, hL'⟩
        show if i = id then _ else _
        rw [if_pos hi']
        exact ⟨rfl, hL'⟩
      · rename_i hi
        cases h
        obtain ⟨l1, t1⟩ := ih hb hp
        refine ⟨l1, fun n0 w0 ok0 a w hG hL => wp_block (wp_mono (t1 n0 w0 ok0 a w hG hL) ?_)⟩
        rintro x' a' w' ⟨rfl, hL'⟩
        show if i = id then _ else _
        rw [if_neg (fun e => by rw [e, Nat.beq_refl] at hi; cases hi)]
        exact ⟨rfl, hL'⟩
    · rename_i hne
      obtain ⟨l1, t1⟩ := ih h hp
      refine ⟨l1, fun n0 w0 ok0 a w hG hL => wp_block (wp_mono (t1 n0 w0 ok0 a w hG hL) ?_)⟩
      rintro x' a' w' ⟨rfl, hL'⟩
      cases e with
      | nxt => exact ⟨rfl, hL'⟩
      | out i => exact absurd h (hne _ _ _ _ _)
      | ret => exact ⟨rfl, hL'⟩
  | scope b ih =>
    intro s s' an an' ls ls' e ps h hp
    simp only [acode] at h
    obtain ⟨l1, t1⟩ := ih h hp
    refine ⟨l1, fun n0 w0 ok0 a w hG hL => wp_scope_straight (wp_mono (t1 n0 w0 ok0 a w hG hL) ?_)⟩
    rintro x' a' w' ⟨rfl, hL'⟩
    cases e <;> exact ⟨rfl, hL'⟩
  | loop b ih =>
    intro s s' an an' ls ls' e ps h hp
    simp only [acode] at h
    split at h
    · rename_i la ls1
      split at h
      · rename_i hf
        cases h
        obtain ⟨l1, t1⟩ := hp.1
        have hlen : (forget la.ft la.nb s).tm.length = s.tm.length := fgt_len _ _ _
        refine ⟨l1.trans hlen, fun n0 w0 ok0 a w hG hL => ?_⟩
        have := t1 n0 w0 ok0 a w hG (by rw [hlen]; exact hL.forget hf)
        rw [hlen] at this
        exact this
      · cases h
    · cases h
  | exit id => intro s s' an an' ls ls' e ps h _; cases h; exact ⟨rfl, fun n0 w0 ok0 a w _ hL => wp_exit ⟨rfl, hL⟩⟩
  | ret => intro s s' an an' ls ls' e ps h _; cases h; exact ⟨rfl, fun n0 w0 ok0 a w _ hL => wp_ret ⟨rfl, hL⟩⟩
  | goto l => intro s s' an an' ls ls' e ps h _; cases h
  | refuse l => intro s s' an an' ls ls' e ps h _; cases h
  | rangeFunc f p x y ihx ihy => intro s s' an an' ls ls' e ps h _; cases h
def ares (P : Program) (s : AS) : List ResultVar → Option (List AV)
  | [] => some []
  | .tmp t :: rs => match ares P s rs with
    | some cs => some (s.tmf t :: cs)
    | none => none
  | .cell x t :: rs => match s.tmf x, asz P t, aag P t, ares P s rs with
    | .ptr b off, some n, some ag, some cs => match (AAct.load b off n ag).run s.bxf 0 with
      | some (r, _) => some (r :: cs)
      | none => none
    | _, _, _, _ => none
def aret : List AV → AV
  | [x] => x
  | xs => .tup xs
def resOf (tmps : Array Value) : ResultVar → Sem Value
  | .tmp t => pure (tmps.getD t undef)
  | .cell a t => do loadVar t (← asAddr (tmps.getD a undef))
section
variable {P : Program} {G : World → Prop} {n0 : Nat} {w0 : World} {ok0 : Nat → Prop} {M : Mm} {nt : Nat} {a : Act} {w : World}
theorem load_run {tm : Nat → AV} {bx : Nat → Option (List AV)} (hI : Inv n0 w0 ok0 M nt tm bx a w) {t : TypeId} {b off n : Nat} {ag : Bool} {v : Value} (hv : RV M w (.ptr b off) v) (hn : asz P t = some n) (ha : aag P t = some ag) {r : AV} {y : Option (Nat × List AV)} (hr : (AAct.load b off n ag).run bx 0 = some (r, y)) :
    ∃ u, (do loadVar t (← asAddr v) : Sem Value).run P w = .ok u w ∧ RV M w r u := by
  obtain ⟨g, hg, rfl⟩ := hv
  simp only [AAct.run] at hr
  split at hr
  case h_2 => cases hr
  rename_i cs hb
  obtain ⟨g', T, vs, hg', hB, hl⟩ := hI.box b cs hb
  rw [hg] at hg'; cases hg'
  split at hr
  case h_2 => cases hr
  rename_i hle
  have hle' := Nat.le_of_ble_eq_true hle
  have hlen := hl.len
  split at hr
  · cases hr
    refine ⟨.agg ((vs.drop off).take n).toArray, ?_, _, rfl, (hl.drop off).take n⟩
    have h1 : (loadCells ⟨g, off, none⟩ n).run P w = .ok ((vs.drop off).take n).toArray w := by
      have hn' : ((vs.drop off).take n).length = n := by simp; omega
      have := run_loadCells_list (P := P) w ⟨g, off, none⟩ ((vs.drop off).take n) (fun j v hj => by
        rw [add_addr, hB.cell]
        rw [List.getElem?_take] at hj
        split at hj
        · rw [List.getElem?_drop] at hj
          simpa using hj
        · cases hj)
      rwa [hn'] at this
    simp only [loadVar, asAddr, Sem.run_bind, Sem.run_pure, Result.andThen, run_isAgg ha, run_sizeOf hn, h1, if_true]
  · split at hr
    · rename_i c hc
      cases hr
      obtain ⟨u, hu, hru⟩ := hl.get hc
      refine ⟨u, ?_, hru⟩
      have hcell : w.cell? ⟨g, off, none⟩ = some u := by rw [hB.cell]; simpa using hu
      simp only [loadVar, asAddr, Sem.run_bind, Sem.run_pure, Result.andThen, run_isAgg ha, load, Sem.run, hcell, Bool.false_eq_true, if_false]
    · cases hr
theorem ares_run {s : AS} (hI : Inv n0 w0 ok0 M nt s.tmf s.bxf a w) : ∀ {rs : List ResultVar} {cs : List AV}, ares P s rs = some cs → ∃ vs, (rs.mapM (resOf a.tmps)).run P w = .ok vs w ∧ RL M w cs vs
  | [], cs, h => by cases h; exact ⟨[], rfl, rfl⟩
  | .tmp t :: rs, cs, h => by
    unfold ares at h
    split at h
    · rename_i cs' h'
      cases h
      obtain ⟨vs, h1, h2⟩ := ares_run hI h'
      refine ⟨a.tmps.getD t undef :: vs, ?_, _, vs, rfl, hI.tmps t, h2⟩
      rw [List.mapM_cons]
      simp only [resOf, Sem.run_bind, Sem.run_pure, Result.andThen, h1]
    · cases h
  | .cell x t :: rs, cs, h => by
    unfold ares at h
    split at h
    · rename_i b off n ag cs' hx hn ha h'
      split at h
      · rename_i r y hr
        cases h
        obtain ⟨vs, h1, h2⟩ := ares_run hI h'
        have hv := hI.tmps x
        rw [hx] at hv
        obtain ⟨u, hu1, hu2⟩ := load_run hI hv hn ha hr
        refine ⟨u :: vs, ?_, u, vs, rfl, hu2, h2⟩
        rw [List.mapM_cons]
        have hu1' : (resOf a.tmps (.cell x t)).run P w = .ok u w := hu1
        simp only [Sem.run_bind, hu1', Sem.run_pure, Result.andThen, h1]
      · cases h
    · cases h
theorem results_run {fn : Func} {tmps : Array Value} {vs : List Value} (h : (fn.results.toList.mapM (resOf tmps)).run P w = .ok vs w) : (results fn tmps).run P w = .ok (if h : vs.length = 1 then vs[0] else .tuple vs.toArray) w := by
  have e : results fn tmps = (do let vs ← fn.results.mapM (resOf tmps); pure (if h : vs.size = 1 then vs[0] else .tuple vs)) := by
    unfold results
    congr 1
  rw [e, Array.mapM_eq_mapM_toList]
  simp only [Sem.run_bind, Sem.run_map, h, Result.andThen, Sem.run_pure]
  by_cases h1 : vs.length = 1
  · simp [h1]
  · simp [h1]
end
def afun (P : Program) (G : World → Prop) (fn : Func) (c : Code) (args : List AV) (an : List (Option AV)) (ls : List LA) : Option (AV × List Prop) :=
  match acode P G c ⟨args ++ List.replicate (fn.ntmps - args.length) (.dt (.val undef)), []⟩ an ls with
  | some (.out _, _) => none
  | none => none
  | some (_, s, ps, _, _) => match ares P s fn.results.toList with
    | some cs => match (aret cs).fl with
      | true => some (aret cs, ps)
      | false => none
    | none => none
def afunB (P : Program) (G : World → Prop) (fn : Func) (args : List AV) (an : List (Option AV)) (ls : List LA) : Option (AV × List Prop) := match fn.body with
  | some c => afun P G fn c args an ls
  | none => none
theorem RL.more {M M' : Mm} {w : World} (hm : ∀ k g, M.m k = some g → M'.m k = some g) (hF : ∀ b, M.F b → b < w.heap.size → M'.F b) (a : List AV) (v : List Value) (h : RL M w a v) : RL M' w a v :=
  RL.go (n0 := 0) ⟨Below.refl _ _, fun _ _ _ => rfl, hF, hm⟩ a v h
theorem aret_rv {M : Mm} {w : World} {cs : List AV} {vs : List Value} (h : RL M w cs vs) : RV M w (aret cs) (if h : vs.length = 1 then vs[0] else .tuple vs.toArray) := by
  have hl := h.len
  match cs, h with
  | [], h =>
    rw [show vs = [] from h]
    exact ⟨[], rfl, rfl⟩
  | [c], ⟨u, us, e, h1, h2⟩ =>
    rw [show us = [] from h2] at e
    subst e
    exact h1
  | c :: c' :: cs, h =>
    simp only [List.length_cons] at hl
    rw [dif_neg (by omega)]
    exact ⟨vs, rfl, h⟩
theorem walk {P : Program} {G : World → Prop} (hm : P.follows .mixedOrders = true) (hG : ∀ w w', G w → Below w.heap.size w w' → G w') {f : FuncId} {fn : Func} {c : Code} (hf : P.funcs[f]? = some fn) (hb : fn.body = some c) (hn : (fn.name == "runtime.NumGoroutine") = false)
    {args : List AV} (an : List (Option AV)) (ls : List LA) {r : AV} {ps : List Prop} (h : afun P G fn c args an ls = some (r, ps)) (hp : AllP ps) : PureOK P G f args r := by
  refine ⟨⟨fn, hf, by rw [hb]; rfl, hn⟩, fun ok w vs hw hargs => ?_⟩
  unfold afun at h
  have key : ∃ e s cs an' ls', acode P G c ⟨args ++ List.replicate (fn.ntmps - args.length) (.dt (.val undef)), []⟩ an ls = some (e, s, ps, an', ls') ∧ (∀ i, e ≠ .out i) ∧ ares P s fn.results.toList = some cs ∧ r = aret cs ∧ r.fl = true := by
    split at h
    · cases h
    · cases h
    · rename_i e s ps' an' ls' hne hc
      split at h
      · rename_i cs hcs
        split at h
        · rename_i hfl
          cases h
          exact ⟨e, s, cs, an', ls', hc, fun i he => by subst he; exact hne _ rfl, hcs, rfl, hfl⟩
        · cases h
      · cases h
  obtain ⟨e, s, cs, an', ls', hc, hne, hcs, rfl, hfl⟩ := key
  obtain ⟨hlen, htri⟩ := acode_sound hm hc hp
  have hal := hargs.len
  refine calls_of_wp hf hb (wp_mono (htri w.heap.size w ok _ w (fun w' hb => hG w w' hw hb) ⟨⟨fun _ => none, fun b => ok b ∧ b < w.heap.size⟩, ?_⟩) ?_)
  · refine ⟨Below.refl _ _, Nat.le_refl _, rfl, ?_, ?_, ?_, ?_, ?_, fun b hb => hb.2, fun b hb _ => hb.1⟩
    · simp [hal]
    · intro t
      have hargs' : RL ⟨fun _ => none, fun b => ok b ∧ b < w.heap.size⟩ w args vs := RL.more (M := ⟨fun _ => none, ok⟩) (M' := ⟨fun _ => none, fun b => ok b ∧ b < w.heap.size⟩) (fun _ _ h => h) (fun b hb hl => ⟨hb, hl⟩) _ _ hargs
      by_cases ht : t < args.length
      · obtain ⟨u, hu1, hu2⟩ := hargs'.get (i := t) (c := args[t]) (List.getElem?_eq_getElem ht)
        have e1 : (AS.mk (args ++ List.replicate (fn.ntmps - args.length) (.dt (.val undef))) []).tmf t = args[t] := by
          unfold AS.tmf
          simp [List.getElem?_append_left ht, ht]
        have e2 : (vs.toArray ++ Array.replicate (fn.ntmps - vs.toArray.size) undef).getD t undef = u := by
          have ht' : t < vs.length := by omega
          simp only [Array.getD_eq_getD_getElem?]
          rw [Array.getElem?_append_left (by simpa using ht')]
          simp [hu1]
        rw [e1, e2]
        exact hu2
      · have e1 : (AS.mk (args ++ List.replicate (fn.ntmps - args.length) (.dt (.val undef))) []).tmf t = .dt (.val undef) := by
          unfold AS.tmf
          rw [List.getD_eq_getElem?_getD, List.getElem?_append_right (by omega), List.getElem?_replicate]
          split <;> rfl
        have e2 : (vs.toArray ++ Array.replicate (fn.ntmps - vs.toArray.size) undef).getD t undef = undef := by
          simp only [Array.getD_eq_getD_getElem?]
          rw [Array.getElem?_append_right (by simp; omega), Array.getElem?_replicate]
          split <;> rfl
        rw [e1, e2]
        exact .val _
    · intro b cs hb
      simp [AS.bxf] at hb
    · intro b g hb
      cases hb
    · intro b b' g hb
      cases hb
  · rintro x a' w' ⟨rfl, M, hI⟩
    obtain ⟨us, h1, h2⟩ := ares_run hI hcs
    have hR : ∃ v, (results fn a'.tmps).run P w' = .ok v w' ∧ (fun e w' => ∃ v, e = Ending.returned v ∧ Below w.heap.size w w' ∧ RV ⟨fun _ => none, fun b => ok b ∨ w.heap.size ≤ b⟩ w' (aret cs) v) (.returned v) w' := by
      refine ⟨_, results_run h1, _, rfl, hI.below, ?_⟩
      refine RV.more (M := ⟨fun _ => none, M.F⟩) (M' := ⟨fun _ => none, fun b => ok b ∨ w.heap.size ≤ b⟩) (fun _ _ h => h) ?_ _ _ (RV.fl _ _ hfl (aret_rv h2))
      intro b hb _
      by_cases e : b < w.heap.size
      · exact .inl (hI.src b hb e)
      · exact .inr (by omega)
    cases e with
    | nxt => exact ⟨hI.defers, hR⟩
    | ret => exact ⟨hI.defers, hR⟩
    | out i => exact absurd rfl (hne i)
theorem walkB {P : Program} {G : World → Prop} (hm : P.follows .mixedOrders = true) (hG : ∀ w w', G w → Below w.heap.size w w' → G w') {f : FuncId} {fn : Func} (hf : P.funcs[f]? = some fn) (hn : (fn.name == "runtime.NumGoroutine") = false)
    {args : List AV} {an : List (Option AV)} {ls : List LA} {r : AV} {ps : List Prop} (h : afunB P G fn args an ls = some (r, ps)) (hp : AllP ps) : PureOK P G f args r := by
  unfold afunB at h
  split at h
  · rename_i c hc
    exact walk hm hG hf hc hn an ls h hp
  · cases h
theorem Tri.weak {P : Program} {G : World → Prop} {c : Code} {s s' : AS} {e : AE} (h : Tri P G c s e s') (ft : List Nat) (nb : Nat) (hf : forgets nb (forget ft nb s') = true) : Tri P G c s e (forget ft nb s') := by
  refine ⟨(fgt_len _ _ _).trans h.1, fun n0 w0 ok0 a w hG hL => wp_mono (h.2 n0 w0 ok0 a w hG hL) ?_⟩
  rintro x a' w' ⟨rfl, hL'⟩
  exact ⟨rfl, hL'.forget hf⟩
def acodeF (P : Program) (G : World → Prop) (c : Code) (s : AS) (an : List (Option AV)) (ls : List LA) (ft : List Nat) (nb : Nat) : Option (AE × AS × List Prop) := match acode P G c s an ls with
  | some (e, s', ps, _, _) => match forgets nb (forget ft nb s') with
    | true => some (e, forget ft nb s', ps)
    | false => none
  | none => none
theorem tw {P : Program} {G : World → Prop} (hm : P.follows .mixedOrders = true) {c : Code} {s s' : AS} {an : List (Option AV)} {ls : List LA} {ft : List Nat} {nb : Nat} {e : AE} {ps : List Prop} (h : acodeF P G c s an ls ft nb = some (e, s', ps)) (hp : AllP ps) : Tri P G c s e s' := by
  unfold acodeF at h
  split at h
  · rename_i e1 s1 ps1 an1 ls1 hc
    split at h
    · rename_i hf
      cases h
      exact (acode_sound hm hc hp).weak ft nb hf
    · cases h
  · cases h
/-- rounds of a loop -/
inductive Lp (P : Program) (G : World → Prop) (c : Code) : Nat → AS → AE → AS → Prop
  | stop {s s' : AS} {e : AE} : Tri P G c s e s' → e ≠ .nxt → Lp P G c 0 s e s'
  | more {n : Nat} {s s1 s' : AS} {e : AE} : Tri P G c s .nxt s1 → Lp P G c n s1 e s' → Lp P G c (n + 1) s e s'
def Lps (P : Program) (G : World → Prop) (c : Code) (s : AS) (e : AE) (s' : AS) : Prop := ∃ n, Lp P G c n s e s'
theorem Lps.stop {P : Program} {G : World → Prop} {c : Code} {s s' : AS} {e : AE} (h : Tri P G c s e s') (he : e ≠ .nxt) : Lps P G c s e s' := ⟨0, .stop h he⟩
theorem Lps.more {P : Program} {G : World → Prop} {c : Code} {s s1 s' : AS} {e : AE} (h : Tri P G c s .nxt s1) (h' : Lps P G c s1 e s') : Lps P G c s e s' := h'.elim fun n hn => ⟨n + 1, .more h hn⟩
theorem Lp.len {P : Program} {G : World → Prop} {c : Code} {n : Nat} {s s' : AS} {e : AE} (h : Lp P G c n s e s') : s'.tm.length = s.tm.length := by
  induction h with
  | stop h _ => exact h.1
  | more h _ ih => exact ih.trans h.1
theorem Lps.tri {P : Program} {G : World → Prop} {c : Code} {s s' : AS} {e : AE} (h : Lps P G c s e s') : Tri P G (.loop c) s e s' := by
  obtain ⟨n, h⟩ := h
  refine ⟨h.len, fun n0 w0 ok0 a w hG hL => ?_⟩
  have hlen := h.len
  refine wp_loop_ghost (fun k a w => ∃ s1, Lp P G c k s1 e s' ∧ s1.tm.length = s.tm.length ∧ Left n0 w0 ok0 s.tm.length s1.tmf s1.bxf a w) n ⟨s, h, rfl, hL⟩ ?_
  rintro k a w ⟨s1, h1, hl, hL1⟩
  cases h1 with
  | stop h2 he =>
    rw [← hl] at hL1
    refine wp_mono (h2.2 n0 w0 ok0 a w hG hL1) ?_
    rintro x a' w' ⟨rfl, hL'⟩
    rw [hl] at hL'
    cases e with
    | nxt => exact absurd rfl he
    | out i => exact ⟨rfl, hL'⟩
    | ret => exact ⟨rfl, hL'⟩
  | more h2 h3 =>
    rename_i k' s2
    have hl2 := h2.1
    rw [← hl] at hL1
    refine wp_mono (h2.2 n0 w0 ok0 a w hG hL1) ?_
    rintro x a' w' ⟨rfl, hL'⟩
    rw [hl] at hL'
    exact ⟨_, Nat.lt_succ_self _, s2, h3, hl2.trans hl, hL'⟩
/-- slots by number -/
def stG (kv : List (Nat × AV)) (i : Nat) : AV := match kv with
  | [] => .un
  | (j, v) :: r => match Nat.beq i j with
    | true => v
    | false => stG r i
def stT (kv : List (Nat × AV)) : Nat → Nat → List AV
  | _, 0 => []
  | i, n + 1 => stG kv i :: stT kv (i + 1) n
abbrev stt (n : Nat) (kv : List (Nat × AV)) : List AV := stT kv 0 n
def subC : Code → List Nat → Code
  | c, [] => c
  | .seq x _, 0 :: p => subC x p
  | .seq _ y, _ :: p => subC y p
  | .cond _ x _, 0 :: p => subC x p
  | .cond _ _ y, _ :: p => subC y p
  | .block _ b, _ :: p => subC b p
  | .loop b, _ :: p => subC b p
  | .scope b, _ :: p => subC b p
  | c, _ => c
def bodyOf (fn : Func) : Code := match fn.body with
  | some c => c
  | none => .skip
end Go.Proofs.YtgphkgmhcmffnaaGreatDoor
