/- Plain walks, second form: code, loops and functions. -/
import Derived.Test.YtendgffijciehaaGreatDoorFF
import Derived.Test.YtendgffijciehaaGreatDoorFB
import Derived.Test.YtendgffijciehaaGreatDoorFC
import Derived.Deep.RegionHeld3
namespace Go.Proofs.YtendgffijciehaaGreatDoor
open Go.RowKit

def AE.ex : AE → Exit
  | .nxt => .normal
  | .out id => .exit id
  | .ret => .ret
/-- from state to state through a piece of code -/
def Tri (E : En) (c : Code) (s : AS) (e : AE) (s' : AS) : Prop :=
  s'.tm.length = s.tm.length ∧ ∀ (X : Nat → Prop) (n0 : Nat) (w0 : World × Mm) (ok0 : Nat → Prop) (a : Act) (w : World), HG E X n0 w0 → Left X n0 w0 ok0 s.tm.length s.tmf s.bxf a w →
    c.wp E.P (fun x a' w' => x = e.ex ∧ Left X n0 w0 ok0 s.tm.length s'.tmf s'.bxf a' w') a w
mutual
def AV.ptl (n : Nat) : AV → Bool
  | .ptr b _ => Nat.ble (b + 1) n
  | .own b _ => Nat.ble (b + 1) n
  | .sl b _ => Nat.ble (b + 1) n
  | .mapp b => Nat.ble (b + 1) n
  | .rptr b _ _ => Nat.ble (b + 1) n
  | .agg cs => AV.ptls n cs
  | .tup cs => AV.ptls n cs
  | .clo _ cs => AV.ptls n cs
  | _ => true
def AV.ptls (n : Nat) : List AV → Bool
  | [] => true
  | c :: cs => AV.ptl n c && AV.ptls n cs
end
/-- the boxes before n alone -/
def Mm.cut (M : Mm) (n : Nat) : Mm := ⟨fun b => if b < n then M.m b else none, M.F, fun b => if b < n then M.o b else none⟩
theorem Mm.cut_m {M : Mm} {n b : Nat} (h : b < n) : (M.cut n).m b = M.m b := if_pos h
theorem Mm.cut_o {M : Mm} {n b : Nat} (h : b < n) : (M.cut n).o b = M.o b := if_pos h
theorem ble_lt {b n : Nat} (h : Nat.ble (b + 1) n = true) : b < n := by have := Nat.le_of_ble_eq_true h; omega
mutual
theorem RV.ptl {M : Mm} {w : World} {n : Nat} : ∀ (a : AV) (v : Value), a.ptl n = true → RV M w a v → RV (M.cut n) w a v
  | .dt _d, _v, _, h => h
  | .nil, _v, _, h => h
  | .ful _es, _v, _, h => h
  | .gl _ _, _v, _, h => h
  | .pin _ds, _v, _, h => h
  | .clf _ _, _v, _, h => h
  | .un, _v, _, _h => trivial
  | .ptr _b _off, _v, hp, ⟨g, h1, h2⟩ => ⟨g, (Mm.cut_m (ble_lt hp)).trans h1, h2⟩
  | .rptr _b _i _k, _v, hp, ⟨g, h1, h2⟩ => ⟨g, (Mm.cut_m (ble_lt hp)).trans h1, h2⟩
  | .sl _b _m, _v, hp, ⟨g, h1, h2⟩ => ⟨g, (Mm.cut_m (ble_lt hp)).trans h1, h2⟩
  | .mapp _b, _v, hp, ⟨g, h1, h2⟩ => ⟨g, (Mm.cut_m (ble_lt hp)).trans h1, h2⟩
  | .own _b _m, _v, hp, ⟨A, c, A', n', c', h1, h2, h3⟩ => ⟨A, c, A', n', c', h1, (Mm.cut_o (ble_lt hp)).trans h2, h3⟩
  | .agg cs, _v, hf, ⟨vs, h1, h2⟩ => ⟨vs, h1, RL.ptl cs vs hf h2⟩
  | .tup cs, _v, hf, ⟨vs, h1, h2⟩ => ⟨vs, h1, RL.ptl cs vs hf h2⟩
  | .clo _f cs, _v, hf, ⟨vs, h1, h2⟩ => ⟨vs, h1, RL.ptl cs vs hf h2⟩
theorem RL.ptl {M : Mm} {w : World} {n : Nat} : ∀ (cs : List AV) (vs : List Value), AV.ptls n cs = true → RL M w cs vs → RL (M.cut n) w cs vs
  | [], _, _, h => h
  | c :: cs, _, hf, ⟨u, us, h1, h2, h3⟩ => by
    have hf' : (c.ptl n && AV.ptls n cs) = true := hf
    rw [Bool.and_eq_true] at hf'
    exact ⟨u, us, h1, RV.ptl c u hf'.1 h2, RL.ptl cs us hf'.2 h3⟩
end
def fgt (ft : List Nat) : Nat → List AV → List AV
  | _, [] => []
  | i, x :: xs => (match ft.contains i with | true => x | false => .un) :: fgt ft (i + 1) xs
theorem fgt_len (ft : List Nat) : ∀ (i : Nat) (xs : List AV), (fgt ft i xs).length = xs.length
  | _, [] => rfl
  | i, x :: xs => by unfold fgt; rw [List.length_cons, List.length_cons, fgt_len ft (i + 1) xs]
theorem fgt_get (ft : List Nat) : ∀ (i : Nat) (xs : List AV) (t : Nat) (d : AV), (fgt ft i xs).getD t d = .un ∨ (fgt ft i xs).getD t d = xs.getD t d
  | _, [], t, d => .inr rfl
  | i, x :: xs, 0, d => by
    unfold fgt
    cases ft.contains i
    · exact .inl rfl
    · exact .inr rfl
  | i, x :: xs, t + 1, d => by
    have := fgt_get ft (i + 1) xs t d
    unfold fgt
    simpa using this
/-- the slots ft are kept, and the boxes before nb -/
def forget (ft : List Nat) (nb : Nat) (s : AS) : AS := ⟨fgt ft 0 s.tm, s.bx.take nb⟩
def mpAll (nb : Nat) : List (Value × AV) → Bool
  | [] => true
  | (_, a) :: r => a.ptl nb && mpAll nb r
def Bx.ptl (nb : Nat) : Option Bx → Bool
  | some (.cells cs) => AV.ptls nb cs
  | some (.mp kvs) => mpAll nb kvs
  | _ => true
def forgets (nb : Nat) (s : AS) : Bool := AV.ptls nb s.tm && s.bx.all (Bx.ptl nb)
theorem MK.ptl {M : Mm} {w : World} {n : Nat} : ∀ {kvs : List (Value × AV)} {es : List MapEntry}, mpAll n kvs = true → MK M w kvs es → MK (M.cut n) w kvs es
  | [], _, _, h => h
  | (k, a) :: kvs, _, hf, ⟨e, es', h1, h2, h3, h4⟩ => by
    have hf' : (a.ptl n && mpAll n kvs) = true := hf
    rw [Bool.and_eq_true] at hf'
    exact ⟨e, es', h1, h2, RV.ptl _ _ hf'.1 h3, MK.ptl hf'.2 h4⟩
theorem ptls_get {n : Nat} : ∀ {cs : List AV}, AV.ptls n cs = true → ∀ (t : Nat) (d : AV), d.ptl n = true → (cs.getD t d).ptl n = true
  | [], _, t, d, hd => by simpa using hd
  | c :: cs, h, t, d, hd => by
    have h' : (c.ptl n && AV.ptls n cs) = true := h
    rw [Bool.and_eq_true] at h'
    cases t with
    | zero => exact h'.1
    | succ t => simpa using ptls_get h'.2 t d hd
theorem Left.forget {E : En} {ft : List Nat} {nb : Nat} {s : AS} (hf : (Nat.ble E.nh nb && forgets nb (forget ft nb s)) = true) {X : Nat → Prop} {n0 : Nat} {w0 : World × Mm} {ok0 : Nat → Prop} {nt : Nat} {a : Act} {w : World} (hG : HG E X n0 w0) (h : Left X n0 w0 ok0 nt s.tmf s.bxf a w) : Left X n0 w0 ok0 nt (forget ft nb s).tmf (forget ft nb s).bxf a w := by
  obtain ⟨M, hI⟩ := h
  rw [Bool.and_eq_true] at hf
  obtain ⟨hnb, hf⟩ := hf
  have hnb := Nat.le_of_ble_eq_true hnb
  unfold forgets at hf
  rw [Bool.and_eq_true] at hf
  have hb : ∀ b x, (Go.Proofs.YtendgffijciehaaGreatDoor.forget ft nb s).bxf b = some x → b < nb ∧ s.bxf b = some x ∧ Bx.ptl nb (some x) = true := by
    intro b cs hbx
    unfold AS.bxf at hbx ⊢
    cases hx : (Go.Proofs.YtendgffijciehaaGreatDoor.forget ft nb s).bx[b]? with
    | none => rw [hx] at hbx; cases hbx
    | some x =>
      rw [hx] at hbx
      simp only at hbx
      subst hbx
      have h2 := List.all_eq_true.1 hf.2 _ (List.mem_of_getElem? hx)
      have h3 : (s.bx.take nb)[b]? = some (some cs) := hx
      rw [List.getElem?_take] at h3
      split at h3
      · rename_i hlt
        rw [h3]
        exact ⟨hlt, rfl, h2⟩
      · cases h3
  have hb2 : ∀ b, b < nb → (Go.Proofs.YtendgffijciehaaGreatDoor.forget ft nb s).bxf b = s.bxf b := by
    intro b h1
    unfold AS.bxf
    show (match (s.bx.take nb)[b]? with | some x => x | none => none) = _
    rw [List.getElem?_take, if_pos h1]
    all_goals rfl
  have hm : ∀ b g, (M.cut nb).m b = some g → b < nb ∧ M.m b = some g := fun b g h => by
    by_cases e : b < nb
    · rw [Mm.cut_m e] at h; exact ⟨e, h⟩
    · rw [show (M.cut nb).m b = none from if_neg e] at h; cases h
  have ho : ∀ b v, (M.cut nb).o b = some v → b < nb ∧ M.o b = some v := fun b g h => by
    by_cases e : b < nb
    · rw [Mm.cut_o e] at h; exact ⟨e, h⟩
    · rw [show (M.cut nb).o b = none from if_neg e] at h; cases h
  have hhx : ∀ b x q, b < nb → (Hx (M.cut nb) b x q ↔ Hx M b x q) := fun b x q h => Hx.eq (Mm.cut_m h) (Mm.cut_o h)
  refine ⟨M.cut nb, hI.below, hI.le, hI.defers, hI.size, ?_, ⟨?_, ?_, ?_, ?_, ?_, hI.sto.fz⟩, hI.src, ⟨hI.anc.below, hI.anc.keep, hI.anc.F, fun k q hq => ?_, fun b A n c e => ?_⟩⟩
  · intro t
    have hp := ptls_get hf.1 t (.dt (.val undef)) rfl
    have hp' : ((Go.Proofs.YtendgffijciehaaGreatDoor.forget ft nb s).tmf t).ptl nb = true := hp
    rcases fgt_get ft 0 s.tm t (.dt (.val undef)) with e | e
    · have e' : (Go.Proofs.YtendgffijciehaaGreatDoor.forget ft nb s).tmf t = .un := e
      rw [e']; trivial
    · have e' : (Go.Proofs.YtendgffijciehaaGreatDoor.forget ft nb s).tmf t = s.tmf t := e
      rw [e'] at hp' ⊢
      exact RV.ptl _ _ hp' (hI.tmps t)
  · intro b x hbx
    obtain ⟨h1, h2, h3⟩ := hb b x hbx
    have h4 := hI.sto.box b x h2
    cases x with
    | cells cs => obtain ⟨g, T, vs, e1, e2, e3⟩ := h4; exact ⟨g, T, vs, (Mm.cut_m h1).trans e1, e2, RL.ptl _ _ h3 e3⟩
    | buf e k es => obtain ⟨A, n, c, e1, e2⟩ := h4; exact ⟨A, n, c, (Mm.cut_o h1).trans e1, e2⟩
    | fzn es => obtain ⟨A, n, c, e1, e2⟩ := h4; exact ⟨A, n, c, (Mm.cut_o h1).trans e1, e2⟩
    | mp kvs => obtain ⟨g, es, clk, e1, e2, e3⟩ := h4; exact ⟨g, es, clk, (Mm.cut_m h1).trans e1, e2, MK.ptl h3 e3⟩
    | rws e k es => obtain ⟨g, vs, e1, e2⟩ := h4; exact ⟨g, vs, (Mm.cut_m h1).trans e1, e2⟩
    | fzr es => obtain ⟨g, e1, e2⟩ := h4; exact ⟨g, (Mm.cut_m h1).trans e1, e2⟩
    | cst cs => obtain ⟨g, vs, e1, e2⟩ := h4; exact ⟨g, vs, (Mm.cut_m h1).trans e1, e2⟩
  · intro b x q hbx hq
    obtain ⟨h1, h2, _⟩ := hb b x hbx
    exact hI.sto.dom b x q h2 ((hhx b x q h1).1 hq)
  · intro b b' x x' q h1 h2 h3 h4
    obtain ⟨g1, g2, _⟩ := hb b x h1
    obtain ⟨k1, k2, _⟩ := hb b' x' h2
    exact hI.sto.inj b b' x x' q g2 k2 ((hhx b x q g1).1 h3) ((hhx b' x' q k1).1 h4)
  · intro b q hbq
    obtain ⟨h1, h2⟩ := hm b q hbq
    obtain ⟨x, h3, h4⟩ := hI.sto.hm b q h2
    exact ⟨x, (hb2 b h1).trans h3, h4⟩
  · intro b v hbv
    obtain ⟨h1, h2⟩ := ho b v hbv
    rw [hb2 b h1]
    exact hI.sto.ho b v h2
  · rcases Nat.lt_or_ge k E.nh with h1 | h1
    · exact (Mm.cut_m (by omega)).trans (hI.anc.m k q hq)
    · rw [(hG.h k h1).1] at hq; cases hq
  · rcases Nat.lt_or_ge b E.nh with h1 | h1
    · obtain ⟨A', n', c', e1, e2⟩ := hI.anc.o b A n c e
      exact ⟨A', n', c', (Mm.cut_o (by omega)).trans e1, e2⟩
    · rw [(hG.h b h1).2] at e; cases e
/-- rounds of a loop -/
inductive Lp (E : En) (c : Code) : Nat → AS → AE → AS → Prop
  | stop {s s' : AS} {e : AE} : Tri E c s e s' → e ≠ .nxt → Lp E c 0 s e s'
  | more {n : Nat} {s s1 s' : AS} {e : AE} : Tri E c s .nxt s1 → Lp E c n s1 e s' → Lp E c (n + 1) s e s'
def Lps (E : En) (c : Code) (s : AS) (e : AE) (s' : AS) : Prop := ∃ n, Lp E c n s e s'
theorem Lps.stop {E : En} {c : Code} {s s' : AS} {e : AE} (h : Tri E c s e s') (he : e ≠ .nxt) : Lps E c s e s' := ⟨0, .stop h he⟩
theorem Lps.more {E : En} {c : Code} {s s1 s' : AS} {e : AE} (h : Tri E c s .nxt s1) (h' : Lps E c s1 e s') : Lps E c s e s' := h'.elim fun n hn => ⟨n + 1, .more h hn⟩
theorem Lp.len {E : En} {c : Code} {n : Nat} {s s' : AS} {e : AE} (h : Lp E c n s e s') : s'.tm.length = s.tm.length := by
  induction h with
  | stop h _ => exact h.1
  | more h _ ih => exact ih.trans h.1
theorem Lps.tri {E : En} {c : Code} {s s' : AS} {e : AE} (h : Lps E c s e s') : Tri E (.loop c) s e s' := by
  obtain ⟨n, h⟩ := h
  refine ⟨h.len, fun X n0 w0 ok0 a w hG hL => ?_⟩
  have hlen := h.len
  refine wp_loop_ghost (fun k a w => ∃ s1, Lp E c k s1 e s' ∧ s1.tm.length = s.tm.length ∧ Left X n0 w0 ok0 s.tm.length s1.tmf s1.bxf a w) n ⟨s, h, rfl, hL⟩ ?_
  rintro k a w ⟨s1, h1, hl, hL1⟩
  cases h1 with
  | stop h2 he =>
    rw [← hl] at hL1
    refine wp_mono (h2.2 X n0 w0 ok0 a w hG hL1) ?_
    rintro x a' w' ⟨rfl, hL'⟩
    rw [hl] at hL'
    cases e with
    | nxt => exact absurd rfl he
    | out i => exact ⟨rfl, hL'⟩
    | ret => exact ⟨rfl, hL'⟩
  | more h2 h3 =>
    rename_i k' s2
    have hl2 := h2.1
    rw [← hl] at hL1
    refine wp_mono (h2.2 X n0 w0 ok0 a w hG hL1) ?_
    rintro x a' w' ⟨rfl, hL'⟩
    rw [hl] at hL'
    exact ⟨_, Nat.lt_succ_self _, s2, h3, hl2.trans hl, hL'⟩
def aiter (step : AS → List An → List LA → Option (AE × AS × List Prop × List An × List LA)) : Nat → AS → List An → List LA → Option (AE × AS × List Prop × List An × List LA)
  | 0, _, _, _ => none
  | n + 1, s, an, ls => match step s an ls with
    | some (.nxt, s1, ps, an1, ls1) => match aiter step n s1 an1 ls1 with
      | some (e, s2, qs, an2, ls2) => some (e, s2, ps ++ qs, an2, ls2)
      | none => none
    | r => r
def acode (E : En) : Code → AS → List An → List LA → Option (AE × AS × List Prop × List An × List LA)
  | .skip, s, an, ls => some (.nxt, s, [], an, ls)
  | .label _, s, an, ls => some (.nxt, s, [], an, ls)
  | .region id ops draw, s, an, ls => match scHere id ls with
    | true => match sregion E ops id draw s an ls with
      | none => none
      | some (s', ps, an', ls') => some (.nxt, s', ps, an', ls')
    | false => match aregion E ops draw s an with
      | none => none
      | some (s', ps, an') => some (.nxt, s', ps, an', ls)
  | .seq x y, s, an, ls => match acode E x s an ls with
    | some (.nxt, s1, ps, an1, ls1) => match acode E y s1 an1 ls1 with
      | some (e, s2, qs, an2, ls2) => some (e, s2, ps ++ qs, an2, ls2)
      | none => none
    | r => r
  | .cond c x y, s, an, ls => match aev s.tmf c with
    | .dt (.val (.bool true)) => acode E x s an ls
    | .dt (.val (.bool false)) => acode E y s an ls
    | _ => none
  | .block id b, s, an, ls => match acode E b s an ls with
    | some (.out i, s', ps, an', ls') => match Nat.beq i id with
      | true => some (.nxt, s', ps, an', ls')
      | false => some (.out i, s', ps, an', ls')
    | r => r
  | .scope b, s, an, ls => acode E b s an ls
  | .loop b, s, an, ls => match ls with
    | .inv ft nb e s' :: ls => match (Nat.ble E.nh nb && forgets nb (forget ft nb s)) with
      | true => some (e, s', [Tri E (.loop b) (forget ft nb s) e s'], an, ls)
      | false => none
    | .run n :: ls => aiter (fun s an ls => acode E b s an ls) n s an ls
    | ls => aiter (fun s an ls => acode E b s an ls) 4000 s an ls
  | .exit id, s, an, ls => some (.out id, s, [], an, ls)
  | .ret, s, an, ls => some (.ret, s, [], an, ls)
  | _, _, _, _ => none
theorem acode_sound {E : En} : ∀ {c : Code} {s s' : AS} {an an' : List An} {ls ls' : List LA} {e : AE} {ps : List Prop}, acode E c s an ls = some (e, s', ps, an', ls') → AllP ps → Tri E c s e s' := by
  intro c
  induction c with
  | skip => intro s s' an an' ls ls' e ps h _; cases h; exact ⟨rfl, fun X n0 w0 ok0 a w _ hL => wp_skip ⟨rfl, hL⟩⟩
  | label l => intro s s' an an' ls ls' e ps h _; cases h; exact ⟨rfl, fun X n0 w0 ok0 a w _ hL => wp_label ⟨rfl, hL⟩⟩
  | region id ops draw =>
    intro s s' an an' ls ls' e ps h hp
    simp only [acode] at h
    split at h
    · split at h
      · cases h
      · rename_i s1 ps1 an1 ls1 hr
        cases h
        obtain ⟨hl, hw⟩ := sregion_wp hr hp
        exact ⟨hl, fun X n0 w0 ok0 a w hG hL => hw hG hL fun a w hL' => ⟨rfl, hL'⟩⟩
    split at h
    · cases h
    · rename_i s1 ps1 an1 hr
      cases h
      refine ⟨?_, fun X n0 w0 ok0 a w hG hL => aregion_sound hr hp hG.g hL fun a w hL' => ⟨rfl, hL'⟩⟩
      unfold aregion at hr
      split at hr
      · cases hr
      · rename_i h1
        split at hr
        · cases hr; exact (aops_run h1 hp).1
        · cases hr
  | seq x y ihx ihy =>
    intro s s' an an' ls ls' e ps h hp
    simp only [acode] at h
    split at h
    · rename_i s1 ps1 an1 ls1 hx
      split at h
      · rename_i e2 s2 qs an2 ls2 hy
        cases h
        obtain ⟨hp1, hp2⟩ := AllP_app hp
        obtain ⟨l1, t1⟩ := ihx hx hp1
        obtain ⟨l2, t2⟩ := ihy hy hp2
        refine ⟨l2.trans l1, fun X n0 w0 ok0 a w hG hL => wp_seq (wp_mono (t1 X n0 w0 ok0 a w hG hL) ?_)⟩
        rintro x' a' w' ⟨rfl, hL'⟩
        rw [← l1] at hL'
        have := t2 X n0 w0 ok0 a' w' hG hL'
        rw [l1] at this
        exact this
      · cases h
    · rename_i hne
      obtain ⟨l1, t1⟩ := ihx h hp
      refine ⟨l1, fun X n0 w0 ok0 a w hG hL => wp_seq (wp_mono (t1 X n0 w0 ok0 a w hG hL) ?_)⟩
      rintro x' a' w' ⟨rfl, hL'⟩
      cases e with
      | nxt => exact absurd h (hne _ _ _ _)
      | out i => exact ⟨rfl, hL'⟩
      | ret => exact ⟨rfl, hL'⟩
  | cond c x y ihx ihy =>
    intro s s' an an' ls ls' e ps h hp
    simp only [acode] at h
    split at h
    · rename_i hc
      obtain ⟨l1, t1⟩ := ihx h hp
      refine ⟨l1, fun X n0 w0 ok0 a w hG hL => ?_⟩
      obtain ⟨M, hI⟩ := hL
      have hv := hI.ev c
      rw [hc] at hv
      exact wp_cond_true (Rd.val_eq hv) (t1 X n0 w0 ok0 a w hG ⟨M, hI⟩)
    · rename_i hc
      obtain ⟨l1, t1⟩ := ihy h hp
      refine ⟨l1, fun X n0 w0 ok0 a w hG hL => ?_⟩
      obtain ⟨M, hI⟩ := hL
      have hv := hI.ev c
      rw [hc] at hv
      exact wp_cond_false (Rd.val_eq hv) (t1 X n0 w0 ok0 a w hG ⟨M, hI⟩)
    · cases h
  | block id b ih =>
    intro s s' an an' ls ls' e ps h hp
    simp only [acode] at h
    split at h
    · rename_i i s1 ps1 an1 ls1 hb
      split at h
      · rename_i hi
        have hi' := Nat.eq_of_beq_eq_true hi
        cases h
        obtain ⟨l1, t1⟩ := ih hb hp
        refine ⟨l1, fun X n0 w0 ok0 a w hG hL => wp_block (wp_mono (t1 X n0 w0 ok0 a w hG hL) ?_)⟩
        rintro x' a' w' ⟨rfl, hL'⟩
        show if i = id then _ else _
        rw [if_pos hi']
        exact ⟨rfl, hL'⟩
      · rename_i hi
        cases h
        obtain ⟨l1, t1⟩ := ih hb hp
        refine ⟨l1, fun X n0 w0 ok0 a w hG hL => wp_block (wp_mono (t1 X n0 w0 ok0 a w hG hL) ?_)⟩
        rintro x' a' w' ⟨rfl, hL'⟩
        show if i = id then _ else _
        rw [if_neg (fun e => by rw [e, Nat.beq_refl] at hi; cases hi)]
        exact ⟨rfl, hL'⟩
    · rename_i hne
      obtain ⟨l1, t1⟩ := ih h hp
      refine ⟨l1, fun X n0 w0 ok0 a w hG hL => wp_block (wp_mono (t1 X n0 w0 ok0 a w hG hL) ?_)⟩
      rintro x' a' w' ⟨rfl, hL'⟩
      cases e with
      | nxt => exact ⟨rfl, hL'⟩
      | out i => exact absurd h (hne _ _ _ _ _)
      | ret => exact ⟨rfl, hL'⟩
  | scope b ih =>
    intro s s' an an' ls ls' e ps h hp
    simp only [acode] at h
    obtain ⟨l1, t1⟩ := ih h hp
    refine ⟨l1, fun X n0 w0 ok0 a w hG hL => wp_scope_straight (wp_mono (t1 X n0 w0 ok0 a w hG hL) ?_)⟩
    rintro x' a' w' ⟨rfl, hL'⟩
    cases e <;> exact ⟨rfl, hL'⟩
  | loop b ih =>
    intro s s' an an' ls ls' e ps h hp
    have rounds : ∀ (n : Nat) {s s' : AS} {an an' : List An} {ls ls' : List LA} {e : AE} {ps : List Prop}, aiter (fun s an ls => acode E b s an ls) n s an ls = some (e, s', ps, an', ls') → AllP ps → Lps E b s e s' := by
      intro n
      induction n with
      | zero => intro s s' an an' ls ls' e ps h _; cases h
      | succ n ihn =>
        intro s s' an an' ls ls' e ps h hp
        simp only [aiter] at h
        split at h
        · rename_i s1 ps1 an1 ls1 hx
          split at h
          · rename_i e2 s2 qs an2 ls2 hy
            cases h
            obtain ⟨hp1, hp2⟩ := AllP_app hp
            exact .more (ih hx hp1) (ihn hy hp2)
          · cases h
        · rename_i hne
          exact .stop (ih h hp) fun he => by subst he; exact hne _ _ _ _ h
    simp only [acode] at h
    split at h
    · rename_i ft nb e1 s1 ls1
      split at h
      · rename_i hf
        cases h
        obtain ⟨l1, t1⟩ := hp.1
        have hlen : (forget ft nb s).tm.length = s.tm.length := fgt_len _ _ _
        refine ⟨l1.trans hlen, fun X n0 w0 ok0 a w hG hL => ?_⟩
        have := t1 X n0 w0 ok0 a w hG (by rw [hlen]; exact Left.forget hf hG hL)
        rw [hlen] at this
        exact this
      · cases h
    · exact (rounds _ h hp).tri
    · exact (rounds _ h hp).tri
  | exit id => intro s s' an an' ls ls' e ps h _; cases h; exact ⟨rfl, fun X n0 w0 ok0 a w _ hL => wp_exit ⟨rfl, hL⟩⟩
  | ret => intro s s' an an' ls ls' e ps h _; cases h; exact ⟨rfl, fun X n0 w0 ok0 a w _ hL => wp_ret ⟨rfl, hL⟩⟩
  | goto l => intro s s' an an' ls ls' e ps h _; cases h
  | refuse l => intro s s' an an' ls ls' e ps h _; cases h
  | rangeFunc f p x y ihx ihy => intro s s' an an' ls ls' e ps h _; cases h
def ares (P : Program) (s : AS) : List ResultVar → Option (List AV)
  | [] => some []
  | .tmp t :: rs => match ares P s rs with
    | some cs => some (s.tmf t :: cs)
    | none => none
  | .cell x t :: rs => match s.tmf x, asz P t, aag P t, ares P s rs with
    | .ptr b off, some n, some ag, some cs => match s.bxf b with
      | some (.cells c0) => match rowAt c0 off n ag with
        | some r => some (r :: cs)
        | none => none
      | _ => none
    | _, _, _, _ => none
def aret : List AV → AV
  | [x] => x
  | xs => .tup xs
def resOf (tmps : Array Value) : ResultVar → Sem Value
  | .tmp t => pure (tmps.getD t undef)
  | .cell a t => do loadVar t (← asAddr (tmps.getD a undef))
section
variable {P : Program} {X : Nat → Prop} {n0 : Nat} {w0 : World × Mm} {ok0 : Nat → Prop} {M : Mm} {nt : Nat} {a : Act} {w : World}
theorem ares_run {s : AS} (hI : Inv X n0 w0 ok0 M nt s.tmf s.bxf a w) : ∀ {rs : List ResultVar} {cs : List AV}, ares P s rs = some cs → ∃ vs, (rs.mapM (resOf a.tmps)).run P w = .ok vs w ∧ RL M w cs vs
  | [], cs, h => by cases h; exact ⟨[], rfl, rfl⟩
  | .tmp t :: rs, cs, h => by
    unfold ares at h
    split at h
    · rename_i cs' h'
      cases h
      obtain ⟨vs, h1, h2⟩ := ares_run hI h'
      refine ⟨a.tmps.getD t undef :: vs, ?_, _, vs, rfl, hI.tmps t, h2⟩
      rw [List.mapM_cons]
      simp only [resOf, Sem.run_bind, Sem.run_pure, Result.andThen, h1]
    · cases h
  | .cell x t :: rs, cs, h => by
    unfold ares at h
    split at h
    · rename_i b off n ag cs' hx hn ha h'
      split at h
      · rename_i c0 hb
        split at h
        · rename_i r hr
          cases h
          obtain ⟨vs, h1, h2⟩ := ares_run hI h'
          have hv := hI.tmps x
          rw [hx] at hv
          obtain ⟨g, hg, hv⟩ := hv
          obtain ⟨g', T, us, e1, e2, e3⟩ := hI.sto.box b _ hb
          rw [hg] at e1
          cases e1
          obtain ⟨u, hu1, hu2⟩ := run_load (P := P) (g := g) (q := 0) hn ha (fun j u hj => by rw [Nat.zero_add, e2.cell]; simpa using hj) e3 hr
          rw [Nat.zero_add] at hu1
          refine ⟨u :: vs, ?_, u, vs, rfl, hu2, h2⟩
          rw [List.mapM_cons]
          have hu1' : (resOf a.tmps (.cell x t)).run P w = .ok u w := by
            simp only [resOf, hv, asAddr, Sem.run_bind, Sem.run_pure, Result.andThen, hu1]
          simp only [Sem.run_bind, hu1', Sem.run_pure, Result.andThen, h1]
        · cases h
      · cases h
    · cases h
theorem results_run {fn : Func} {tmps : Array Value} {vs : List Value} (h : (fn.results.toList.mapM (resOf tmps)).run P w = .ok vs w) : (results fn tmps).run P w = .ok (if h : vs.length = 1 then vs[0] else .tuple vs.toArray) w := by
  have e : results fn tmps = (do let vs ← fn.results.mapM (resOf tmps); pure (if h : vs.size = 1 then vs[0] else .tuple vs)) := by
    unfold results
    congr 1
  rw [e, Array.mapM_eq_mapM_toList]
  simp only [Sem.run_bind, Sem.run_map, h, Result.andThen, Sem.run_pure]
  by_cases h1 : vs.length = 1
  · simp [h1]
  · simp [h1]
end
def afun (E : En) (fn : Func) (c : Code) (args : List AV) (an : List An) (ls : List LA) : Option (AV × List Prop) :=
  match acode E c ⟨args ++ List.replicate (fn.ntmps - args.length) (.dt (.val undef)), []⟩ an ls with
  | some (.out _, _) => none
  | none => none
  | some (_, s, ps, _, _) => match ares E.P s fn.results.toList with
    | some cs => match cvL [] false s.bxf cs with
      | some (cs', qs) => some (aret cs', ps ++ qs)
      | none => none
    | none => none
def afunB (E : En) (fn : Func) (args : List AV) (an : List An) (ls : List LA) : Option (AV × List Prop) := match fn.body with
  | some c => afun E fn c args an ls
  | none => none
theorem aret_rv {M : Mm} {w : World} {cs : List AV} {vs : List Value} (h : RL M w cs vs) : RV M w (aret cs) (if h : vs.length = 1 then vs[0] else .tuple vs.toArray) := by
  have hl := h.len
  match cs, h with
  | [], h =>
    rw [show vs = [] from h]
    exact ⟨[], rfl, rfl⟩
  | [c], ⟨u, us, e, h1, h2⟩ =>
    rw [show us = [] from h2] at e
    subst e
    exact h1
  | c :: c' :: cs, h =>
    simp only [List.length_cons] at hl
    rw [dif_neg (by omega)]
    exact ⟨vs, rfl, h⟩
theorem walk {E : En} (hG : ∀ w w', E.G w → Below w.heap.size w w' → E.G w') {f : FuncId} {fn : Func} {c : Code} (hf : E.P.funcs[f]? = some fn) (hb : fn.body = some c) (hn : (fn.name == "runtime.NumGoroutine") = false)
    {args : List AV} (an : List An) (ls : List LA) {r : AV} {ps : List Prop} (h : afun E fn c args an ls = some (r, ps)) (hp : AllP ps) : PureOK E.P E.G f args r := by
  refine ⟨⟨fn, hf, by rw [hb]; rfl, hn⟩, fun ok w vs hw hargs => ?_⟩
  unfold afun at h
  have key : ∃ e s cs cs' an' ls' ps1 qs, acode E c ⟨args ++ List.replicate (fn.ntmps - args.length) (.dt (.val undef)), []⟩ an ls = some (e, s, ps1, an', ls') ∧ (∀ i, e ≠ .out i) ∧ ares E.P s fn.results.toList = some cs ∧ cvL [] false s.bxf cs = some (cs', qs) ∧ r = aret cs' ∧ ps = ps1 ++ qs := by
    split at h
    · cases h
    · cases h
    · rename_i e s ps' an' ls' hne hc
      split at h
      · rename_i cs hcs
        split at h
        · rename_i cs' qs hcv
          cases h
          exact ⟨e, s, cs, cs', an', ls', ps', qs, hc, fun i he => by subst he; exact hne _ rfl, hcs, hcv, rfl, rfl⟩
        · cases h
      · cases h
  obtain ⟨e, s, cs, cs', an', ls', ps1, qs, hc, hne, hcs, hcv, rfl, rfl⟩ := key
  obtain ⟨hp1, hp2⟩ := AllP_app hp
  obtain ⟨hlen, htri⟩ := acode_sound hc hp1
  have hal := hargs.len
  refine calls_of_wp hf hb (wp_mono (htri (fun _ => False) w.heap.size (w, M0 fun b => ok b ∧ b < w.heap.size) ok _ w ⟨fun w' hb => hG w w' hw hb.below, fun _ _ => ⟨rfl, rfl⟩⟩ ⟨M0 fun b => ok b ∧ b < w.heap.size, ?_⟩) ?_)
  · have nobx : ∀ b x, (AS.mk (args ++ List.replicate (fn.ntmps - args.length) (.dt (.val undef))) []).bxf b ≠ some x := fun b x h => by simp [AS.bxf] at h
    refine ⟨Bel.refl _ _ _, Nat.le_refl _, rfl, ?_, ?_, ⟨fun b x h => absurd h (nobx b x), fun b x _ h => absurd h (nobx b x), fun b _ x _ _ h => absurd h (nobx b x), (fun b g h => by cases h), (fun b v h => by cases h), fun b hb => hb.2⟩, fun b hb _ => .inl hb.1, Go1.refl _ _ _ _⟩
    · simp [hal]
    · intro t
      have hargs' : RL (M0 fun b => ok b ∧ b < w.heap.size) w args vs := RL.flatter (fun b hb hl => ⟨hb, hl⟩) hargs
      by_cases ht : t < args.length
      · obtain ⟨u, hu1, hu2⟩ := hargs'.get (i := t) (c := args[t]) (List.getElem?_eq_getElem ht)
        have e1 : (AS.mk (args ++ List.replicate (fn.ntmps - args.length) (.dt (.val undef))) []).tmf t = args[t] := by
          unfold AS.tmf
          simp [List.getElem?_append_left ht, ht]
        have e2 : (vs.toArray ++ Array.replicate (fn.ntmps - vs.toArray.size) undef).getD t undef = u := by
          have ht' : t < vs.length := by omega
          simp only [Array.getD_eq_getD_getElem?]
          rw [Array.getElem?_append_left (by simpa using ht')]
          simp [hu1]
        rw [e1, e2]
        exact hu2
      · have e1 : (AS.mk (args ++ List.replicate (fn.ntmps - args.length) (.dt (.val undef))) []).tmf t = .dt (.val undef) := by
          unfold AS.tmf
          rw [List.getD_eq_getElem?_getD, List.getElem?_append_right (by omega), List.getElem?_replicate]
          split <;> rfl
        have e2 : (vs.toArray ++ Array.replicate (fn.ntmps - vs.toArray.size) undef).getD t undef = undef := by
          simp only [Array.getD_eq_getD_getElem?]
          rw [Array.getElem?_append_right (by simp; omega), Array.getElem?_replicate]
          split <;> rfl
        rw [e1, e2]
        exact rv_undef
  · rintro x a' w' ⟨rfl, M, hI⟩
    obtain ⟨us, h1, h2⟩ := ares_run hI hcs
    obtain ⟨M1, hI1, h3, _⟩ := hI.hand hcv hp2 h2
    have hR : ∃ v, (results fn a'.tmps).run E.P w' = .ok v w' ∧ (fun e w' => ∃ v, e = Ending.returned v ∧ Below w.heap.size w w' ∧ RV (M0 fun b => ok b ∨ w.heap.size ≤ b) w' (aret cs') v) (.returned v) w' := by
      refine ⟨_, results_run h1, _, rfl, hI.below.below, ?_⟩
      refine RV.lift (F := M1.F) (M := M0 fun b => ok b ∨ w.heap.size ≤ b) (fun b hb _ => ?_) (aret_rv h3)
      by_cases e : b < w.heap.size
      · rcases hI1.src b hb e with h | h
        · exact .inl h
        · exact h.elim
      · exact .inr (by omega)
    cases e with
    | nxt => exact ⟨hI.defers, hR⟩
    | ret => exact ⟨hI.defers, hR⟩
    | out i => exact absurd rfl (hne i)
theorem walkB {E : En} (hG : ∀ w w', E.G w → Below w.heap.size w w' → E.G w') {f : FuncId} {fn : Func} (hf : E.P.funcs[f]? = some fn) (hn : (fn.name == "runtime.NumGoroutine") = false)
    {args : List AV} {an : List An} {ls : List LA} {r : AV} {ps : List Prop} (h : afunB E fn args an ls = some (r, ps)) (hp : AllP ps) : PureOK E.P E.G f args r := by
  unfold afunB at h
  split at h
  · rename_i c hc
    exact walk hG hf hc hn an ls h hp
  · cases h
theorem Tri.weak {E : En} {c : Code} {s s' : AS} {e : AE} (h : Tri E c s e s') (ft : List Nat) (nb : Nat) (hf : (Nat.ble E.nh nb && forgets nb (forget ft nb s')) = true) : Tri E c s e (forget ft nb s') := by
  refine ⟨(fgt_len _ _ _).trans h.1, fun X n0 w0 ok0 a w hG hL => wp_mono (h.2 X n0 w0 ok0 a w hG hL) ?_⟩
  rintro x a' w' ⟨rfl, hL'⟩
  exact ⟨rfl, Left.forget hf hG hL'⟩
def acodeF (E : En) (c : Code) (s : AS) (an : List An) (ls : List LA) (ft : List Nat) (nb : Nat) : Option (AE × AS × List Prop) := match acode E c s an ls with
  | some (e, s', ps, _, _) => match Nat.ble E.nh nb && forgets nb (forget ft nb s') with
    | true => some (e, forget ft nb s', ps)
    | false => none
  | none => none
theorem tw {E : En} {c : Code} {s s' : AS} {an : List An} {ls : List LA} {ft : List Nat} {nb : Nat} {e : AE} {ps : List Prop} (h : acodeF E c s an ls ft nb = some (e, s', ps)) (hp : AllP ps) : Tri E c s e s' := by
  unfold acodeF at h
  split at h
  · rename_i e1 s1 ps1 an1 ls1 hc
    split at h
    · rename_i hf
      cases h
      exact (acode_sound hc hp).weak ft nb hf
    · cases h
  · cases h
/-- slots by number -/
def stG (kv : List (Nat × AV)) (i : Nat) : AV := match kv with
  | [] => .un
  | (j, v) :: r => match Nat.beq i j with
    | true => v
    | false => stG r i
def stT (kv : List (Nat × AV)) : Nat → Nat → List AV
  | _, 0 => []
  | i, n + 1 => stG kv i :: stT kv (i + 1) n
abbrev stt (n : Nat) (kv : List (Nat × AV)) : List AV := stT kv 0 n
def subC : Code → List Nat → Code
  | c, [] => c
  | .seq x _, 0 :: p => subC x p
  | .seq _ y, _ :: p => subC y p
  | .cond _ x _, 0 :: p => subC x p
  | .cond _ _ y, _ :: p => subC y p
  | .block _ b, _ :: p => subC b p
  | .loop b, _ :: p => subC b p
  | .scope b, _ :: p => subC b p
  | c, _ => c
def bodyOf (fn : Func) : Code := match fn.body with
  | some c => c
  | none => .skip
end Go.Proofs.YtendgffijciehaaGreatDoor
/- Plain walks: functions that are handed boxes. -/
namespace Go.Proofs.YtendgffijciehaaGreatDoor
open Go.RowKit

/-- what a function makes of its arguments and of the boxes xs that it is handed; the boxes ks are kept -/
def afunS (E : En) (fn : Func) (c : Code) (args : List AV) (xs : List (Option Bx)) (ks : List Nat) (an : List An) (ls : List LA) : Option (AV × List (Option Bx) × List Prop) :=
  match acode E c ⟨args ++ List.replicate (fn.ntmps - args.length) (.dt (.val undef)), xs⟩ an ls with
  | some (.out _, _, _, _, _) => none
  | none => none
  | some (_, s, ps, _, _) => match ares E.P s fn.results.toList with
    | some cs => match cvL ks true s.bxf cs with
      | some (cs', qs) => match giveBs ks (updB s.bxf (frzs s.bxf (obL ks s.bxf cs))) ks with
        | some (xs', rs) => match nodupB ks && (List.range E.nh).all (fun i => Nat.beq (ks.getD i (i + 1)) i) && Nat.beq xs.length E.nh with
          | true => some (aret cs', xs', ps ++ (qs ++ rs))
          | false => none
        | none => none
      | none => none
    | none => none
theorem walkS {E : En} {f : FuncId} {fn : Func} {c : Code} (hf : E.P.funcs[f]? = some fn) (hb : fn.body = some c) (hn : (fn.name == "runtime.NumGoroutine") = false)
    {args : List AV} {xs : List (Option Bx)} {ks : List Nat} (an : List An) (ls : List LA) {r : AV} {xs' : List (Option Bx)} {ps : List Prop} (h : afunS E fn c args xs ks an ls = some (r, xs', ps)) (hp : AllP ps) : SOK E.P E.G f args xs r xs' := by
  refine ⟨⟨fn, hf, by rw [hb]; rfl, hn⟩, fun X M w vs hG hS hargs => ?_⟩
  unfold afunS at h
  have key : ∃ e s cs cs' an' ls' ps1 qs rs, acode E c ⟨args ++ List.replicate (fn.ntmps - args.length) (.dt (.val undef)), xs⟩ an ls = some (e, s, ps1, an', ls') ∧ (∀ i, e ≠ .out i) ∧ ares E.P s fn.results.toList = some cs ∧ cvL ks true s.bxf cs = some (cs', qs) ∧
      giveBs ks (updB s.bxf (frzs s.bxf (obL ks s.bxf cs))) ks = some (xs', rs) ∧ (nodupB ks && (List.range E.nh).all (fun i => Nat.beq (ks.getD i (i + 1)) i) && Nat.beq xs.length E.nh) = true ∧ r = aret cs' ∧ ps = ps1 ++ (qs ++ rs) := by
    split at h
    · cases h
    · cases h
    · rename_i e s ps' an' ls' hne hc
      split at h
      · rename_i cs hcs
        split at h
        · rename_i cs' qs hcv
          split at h
          · rename_i xs1 rs hgb
            split at h
            · rename_i hck
              cases h
              exact ⟨e, s, cs, cs', an', ls', ps', qs, rs, hc, fun i he => by subst he; exact hne _ rfl, hcs, hcv, hgb, hck, rfl, rfl⟩
            · cases h
          · cases h
        · cases h
      · cases h
  obtain ⟨e, s, cs, cs', an', ls', ps1, qs, rs, hc, hne, hcs, hcv, hgb, hck, rfl, rfl⟩ := key
  simp only [Bool.and_eq_true, List.all_eq_true, List.mem_range] at hck
  obtain ⟨⟨hnd, hks⟩, hxl⟩ := hck
  have hnd := nodupB_ok hnd
  have hxl : xs.length = E.nh := Nat.eq_of_beq_eq_true hxl
  have hks : ∀ i, i < E.nh → ks[i]? = some i := fun i hi => by
    have := Nat.eq_of_beq_eq_true (hks i hi)
    rw [List.getD_eq_getElem?_getD] at this
    cases hk : ks[i]? with
    | none => rw [hk] at this; simp at this
    | some k => rw [hk] at this; simp at this; rw [this]
  obtain ⟨hp1, hp2⟩ := AllP_app hp
  obtain ⟨hp2, hp3⟩ := AllP_app hp2
  obtain ⟨hlen, htri⟩ := acode_sound hc hp1
  have hal := hargs.len
  have hbx : (AS.mk (args ++ List.replicate (fn.ntmps - args.length) (.dt (.val undef))) xs).bxf = lk xs := rfl
  have hhg : HG E X w.heap.size (w, M) := ⟨hG, fun k hk => by
    have hl : lk xs k = none := by unfold lk; rw [List.getElem?_eq_none (by omega)]
    exact ⟨hS.fresh_m hl, hS.fresh_o hl⟩⟩
  refine calls_of_wp hf hb (wp_mono (htri X w.heap.size (w, M) M.F _ w hhg ⟨M, ?_⟩) ?_)
  · refine ⟨Bel.refl _ _ _, Nat.le_refl _, rfl, ?_, ?_, by rw [hbx]; exact hS, fun b hb _ => .inl hb, Go1.refl _ _ _ _⟩
    · simp [hal]
    · intro t
      by_cases ht : t < args.length
      · obtain ⟨u, hu1, hu2⟩ := hargs.get (i := t) (c := args[t]) (List.getElem?_eq_getElem ht)
        have e1 : (AS.mk (args ++ List.replicate (fn.ntmps - args.length) (.dt (.val undef))) xs).tmf t = args[t] := by
          unfold AS.tmf
          simp [List.getElem?_append_left ht, ht]
        have e2 : (vs.toArray ++ Array.replicate (fn.ntmps - vs.toArray.size) undef).getD t undef = u := by
          have ht' : t < vs.length := by omega
          simp only [Array.getD_eq_getD_getElem?]
          rw [Array.getElem?_append_left (by simpa using ht')]
          simp [hu1]
        rw [e1, e2]
        exact hu2
      · have e1 : (AS.mk (args ++ List.replicate (fn.ntmps - args.length) (.dt (.val undef))) xs).tmf t = .dt (.val undef) := by
          unfold AS.tmf
          rw [List.getD_eq_getElem?_getD, List.getElem?_append_right (by omega), List.getElem?_replicate]
          split <;> rfl
        have e2 : (vs.toArray ++ Array.replicate (fn.ntmps - vs.toArray.size) undef).getD t undef = undef := by
          simp only [Array.getD_eq_getD_getElem?]
          rw [Array.getElem?_append_right (by simp; omega), Array.getElem?_replicate]
          split <;> rfl
        rw [e1, e2]
        exact rv_undef
  · rintro x a' w' ⟨rfl, Mf, hI⟩
    obtain ⟨us, h1, h2⟩ := ares_run hI hcs
    obtain ⟨M1, hI1, h3, _⟩ := hI.handJ hcv hp2 h2
    have hsto := sub_gen hI1 hnd hgb hp3 (Y := X) (m0 := w.heap.size) fun j hj x q hb hq => (hI1.sto.dom j x q hb hq).1
    have hnh : ∀ k, (M.m k).isSome = true ∨ (M.o k).isSome = true → k < E.nh := fun k hk => by
      rcases Nat.lt_or_ge k E.nh with h | h
      · exact h
      · obtain ⟨e1, e2⟩ := hhg.h k h
        rw [show M.m k = none from e1, show M.o k = none from e2] at hk
        rcases hk with hk | hk <;> cases hk
    have hgo : Go1 X w.heap.size M w (subM M1 ks) w' := ⟨hI1.anc.below, hI1.anc.keep, hI1.anc.F, fun k q hq => by
      have hk := hks k (hnh k (.inl (by rw [hq]; rfl)))
      show (ks[k]?).bind M1.m = _
      rw [hk]
      exact hI1.anc.m k q hq, fun k A n c hq => by
      have hk := hks k (hnh k (.inr (by rw [hq]; rfl)))
      show ∃ A' n' c', (ks[k]?).bind M1.o = _ ∧ _
      rw [hk]
      exact hI1.anc.o k A n c hq⟩
    have hR : ∃ v, (results fn a'.tmps).run E.P w' = .ok v w' ∧ (fun e w' => ∃ v M', e = Ending.returned v ∧ Go1 X w.heap.size M w M' w' ∧ Sto X w.heap.size M' (lk xs') w' ∧ (∀ b, M'.F b → M.F b ∨ w.heap.size ≤ b ∨ X b) ∧ RV M' w' (aret cs') v) (.returned v) w' := by
      refine ⟨_, results_run h1, _, subM M1 ks, rfl, hgo, hsto, fun b hb => ?_, aret_rv h3⟩
      by_cases e : b < w.heap.size
      · rcases hI1.src b hb e with h | h
        · exact .inl h
        · exact .inr (.inr h)
      · exact .inr (.inl (by omega))
    cases e with
    | nxt => exact ⟨hI.defers, hR⟩
    | ret => exact ⟨hI.defers, hR⟩
    | out i => exact absurd rfl (hne i)
/-- the same, for the tool and for walks -/
def afunSB (E : En) (fn : Func) (args : List AV) (xs : List (Option Bx)) (ks : List Nat) (an : List An) (ls : List LA) : Option (AE × AS × List Prop) := match fn.body with
  | some c => match afunS E fn c args xs ks an ls with
    | some (r, xs', ps) => some (.nxt, ⟨[r], xs'⟩, ps)
    | none => none
  | none => none
theorem walkSB {E : En} {f : FuncId} {fn : Func} (hf : E.P.funcs[f]? = some fn) (hn : (fn.name == "runtime.NumGoroutine") = false)
    {args : List AV} {xs : List (Option Bx)} {ks : List Nat} {an : List An} {ls : List LA} {r : AV} {xs' : List (Option Bx)} {ps : List Prop} (h : afunSB E fn args xs ks an ls = some (.nxt, ⟨[r], xs'⟩, ps)) (hp : AllP ps) : SOK E.P E.G f args xs r xs' := by
  unfold afunSB at h
  split at h
  · rename_i c hc
    split at h
    · rename_i r1 xs1 ps1 h1
      cases h
      exact walkS hf hc hn an ls h1 hp
    · cases h
  · cases h
end Go.Proofs.YtendgffijciehaaGreatDoor
/- What is known of every world of this seat: the tables among the globals (a seat without strings.asciiSpace; fill.py writes it as Gx). -/
namespace Go.Proofs.YtendgffijciehaaGreatDoor
open Go.RowKit

def Gx (w : World) : Prop := Tab w ∧ True
theorem Gx.below {w w' : World} (h : Gx w) (hb : Below w.heap.size w w') : Gx w' := ⟨h.1.below hb, trivial⟩
def tabT (_g _i : Nat) : Option Value := none
theorem tabT_ok (w : World) (_h : Gx w) (g i : Nat) (v : Value) (hv : tabT g i = some v) : w.cell? ⟨g, i, none⟩ = some v := by cases hv
theorem mixed : Tryz.prog.follows .mixedOrders = true := by kernel_rfl
noncomputable abbrev EX : En := ⟨Tryz.prog, Gx, tabT, tabT_ok, mixed, 0⟩
end Go.Proofs.YtendgffijciehaaGreatDoor
/- Plain walks, second form: objects; contracts turned into plain ones. -/
namespace Go.Proofs.YtendgffijciehaaGreatDoor
open Go.RowKit

abbrev Puk (f : FuncId) (args : List AV) (r : AV) : Prop := PureOK Tryz.prog Gx f args r
abbrev vi (n : Int) : Value := .int .i64 n
abbrev bT : Value := .bool true
abbrev bF : Value := .bool false
abbrev Bn (op : BinOp) (t : TypeId) (x y : Operand) (a b r : Value) : Prop := BinIs Tryz.prog op t x y a b r
/-- an object -/
abbrev obA (o : Ob) : AV := .agg [.dt (.val (.int .i64 o.kind)), .dt (.val (str o.num)), .dt (.val (str o.den)), .dt (.val (str o.sp)), .dt (.val (str o.sn)), .dt (.val (str o.text)), .dt (.row (o.pair.map Ob.enc))]
abbrev boA (b : Bool) : AV := .dt (.val (.bool b))
abbrev yT : An := .av (boA true)
abbrev yF : An := .av (boA false)
abbrev inA (n : Int) : AV := .dt (.val (.int .i64 n))
abbrev stA (l : List UInt8) : AV := .dt (.val (str l))
theorem RV.obj {M : Mm} {w : World} {o : Ob} {v : Value} (h : RV M w (obA o) v) : ∃ A n c, v = objV o (.slice A n c) ∧ Rd M.F w (.slice A n c) (.row (o.pair.map Ob.enc)) := by
  obtain ⟨vs, rfl, u0, _, rfl, h0, u1, _, rfl, h1, u2, _, rfl, h2, u3, _, rfl, h3, u4, _, rfl, h4, u5, _, rfl, h5, u6, _, rfl, h6, rfl⟩ := h
  obtain ⟨A, n, c, rfl, _⟩ := Rd.slice h6
  refine ⟨A, n, c, ?_, h6⟩
  rw [Rd.val_eq h0, Rd.val_eq h1, Rd.val_eq h2, Rd.val_eq h3, Rd.val_eq h4, Rd.val_eq h5]
theorem RV.ofObj {M : Mm} {w : World} {o : Ob} {A : Option Addr} {n c : Nat} (h : Rd M.F w (.slice A n c) (.row (o.pair.map Ob.enc))) : RV M w (obA o) (objV o (.slice A n c)) :=
  ⟨_, rfl, _, _, rfl, .val _, _, _, rfl, .val _, _, _, rfl, .val _, _, _, rfl, .val _, _, _, rfl, .val _, _, _, rfl, .val _, _, _, rfl, h, rfl⟩
theorem RL.one_obj {M : Mm} {w : World} {o : Ob} {vs : List Value} (h : RL M w [obA o] vs) : ∃ A n c, vs = [objV o (.slice A n c)] ∧ Rd M.F w (.slice A n c) (.row (o.pair.map Ob.enc)) := by
  obtain ⟨u, us, rfl, h1, rfl⟩ := h
  obtain ⟨A, n, c, rfl, h⟩ := h1.obj
  exact ⟨A, n, c, rfl, h⟩
theorem RL.two_obj {M : Mm} {w : World} {o o' : Ob} {vs : List Value} (h : RL M w [obA o, obA o'] vs) : ∃ A n c A' n' c', vs = [objV o (.slice A n c), objV o' (.slice A' n' c')] ∧ Rd M.F w (.slice A n c) (.row (o.pair.map Ob.enc)) ∧ Rd M.F w (.slice A' n' c') (.row (o'.pair.map Ob.enc)) := by
  obtain ⟨u, us, rfl, h1, h2⟩ := h
  obtain ⟨A, n, c, rfl, h⟩ := h1.obj
  obtain ⟨A', n', c', rfl, h'⟩ := RL.one_obj h2
  exact ⟨A, n, c, A', n', c', rfl, h, h'⟩
theorem RL.one_val {M : Mm} {w : World} {u : Value} {vs : List Value} (h : RL M w [.dt (.val u)] vs) : vs = [u] := by
  obtain ⟨x, us, rfl, h1, rfl⟩ := h
  rw [Rd.val_eq h1]
theorem RetObj.pure {ok : Nat → Prop} {r : Ob} {w w' : World} {e : Ending} (h : RetObj ok r w e w') : ∃ v, e = .returned v ∧ Below w.heap.size w w' ∧ RV (M0 fun b => ok b ∨ w.heap.size ≤ b) w' (obA r) v := by
  obtain ⟨A, n, c, rfl, h1, h2⟩ := h
  exact ⟨_, rfl, h2, RV.ofObj h1⟩
theorem RetBel.pure {ok : Nat → Prop} {r : Value} {w w' : World} {e : Ending} (h : RetBel r w e w') : ∃ v, e = .returned v ∧ Below w.heap.size w w' ∧ RV (M0 fun b => ok b ∨ w.heap.size ≤ b) w' (.dt (.val r)) v := by
  obtain ⟨rfl, h2⟩ := h
  exact ⟨_, rfl, h2, .val _⟩
abbrev Fn (f : FuncId) : Prop := ∃ fn, Tryz.prog.funcs[f]? = some fn ∧ fn.body.isNone = false ∧ (fn.name == "runtime.NumGoroutine") = false
theorem pk_ov {f : FuncId} (hf : Fn f) {o : Ob} {r : Value} (h : ∀ (ok : Nat → Prop) (A : Option Addr) (n c : Nat) (w : World), Tab w → Rd ok w (.slice A n c) (.row (o.pair.map Ob.enc)) → Calls Tryz.prog f #[objV o (.slice A n c)] w (RetBel r w)) : Puk f [obA o] (.dt (.val r)) :=
  ⟨hf, fun ok w vs ht hv => by
    obtain ⟨A, n, c, rfl, hr⟩ := hv.one_obj
    exact (h ok A n c w ht.1 hr).mono fun _ _ => RetBel.pure⟩
theorem pk_ooo {f : FuncId} (hf : Fn f) {o o' r : Ob} (h : ∀ (ok : Nat → Prop) (A A' : Option Addr) (n c n' c' : Nat) (w : World), Tab w → Rd ok w (.slice A n c) (.row (o.pair.map Ob.enc)) → Rd ok w (.slice A' n' c') (.row (o'.pair.map Ob.enc)) → Calls Tryz.prog f #[objV o (.slice A n c), objV o' (.slice A' n' c')] w (RetObj ok r w)) : Puk f [obA o, obA o'] (obA r) :=
  ⟨hf, fun ok w vs ht hv => by
    obtain ⟨A, n, c, A', n', c', rfl, hr, hr'⟩ := hv.two_obj
    exact (h ok A A' n c n' c' w ht.1 hr hr').mono fun _ _ => RetObj.pure⟩
/-- a function walked -/
theorem pwalk {f : FuncId} {fn : Func} (hf : Tryz.prog.funcs[f]? = some fn) (hn : (fn.name == "runtime.NumGoroutine") = false) {args : List AV} {an : List An} {ls : List LA} {r : AV} {ps : List Prop} (h : afunB EX fn args an ls = some (r, ps)) (hp : AllP ps) : Puk f args r :=
  walkB (E := EX) (fun _ _ h hb => h.below hb) hf hn h hp
/-- the seat's environment for functions that are handed n boxes -/
noncomputable abbrev EXn (n : Nat) : En := ⟨Tryz.prog, Gx, tabT, tabT_ok, mixed, n⟩
abbrev Suk (f : FuncId) (args : List AV) (xs : List (Option Bx)) (r : AV) (xs' : List (Option Bx)) : Prop := SOK Tryz.prog Gx f args xs r xs'
/-- a function walked that is handed boxes -/
theorem psw {n : Nat} {f : FuncId} {fn : Func} (hf : Tryz.prog.funcs[f]? = some fn) (hn : (fn.name == "runtime.NumGoroutine") = false) {args : List AV} {xs : List (Option Bx)} {ks : List Nat} {an : List An} {ls : List LA} {r : AV} {xs' : List (Option Bx)} {ps : List Prop} (h : afunSB (EXn n) fn args xs ks an ls = some (.nxt, ⟨[r], xs'⟩, ps)) (hp : AllP ps) : Suk f args xs r xs' :=
  walkSB (E := EXn n) hf hn h hp
theorem twalk {c : Code} {s s' : AS} {an : List An} {ls : List LA} {ft : List Nat} {nb : Nat} {e : AE} {ps : List Prop} (h : acodeF EX c s an ls ft nb = some (e, s', ps)) (hp : AllP ps) : Tri EX c s e s' := tw h hp
theorem fnm {f : FuncId} {fn : Func} (hf : Tryz.prog.funcs[f]? = some fn) (hb : fn.body.isNone = false) (hn : (fn.name == "runtime.NumGoroutine") = false) : Fn f := ⟨fn, hf, hb, hn⟩
theorem Puk.val {f : FuncId} {args : List AV} {a b : AV} (h : Puk f args a) (e : a = b) : Puk f args b := e ▸ h
theorem Puk.b {f : FuncId} {args : List AV} {a b : Bool} (h : Puk f args (boA a)) (e : a = b) : Puk f args (boA b) := e ▸ h
abbrev trA (t : Tr) : AV := obA t.ob
abbrev encL (o : Ob) : List Dt := [.val (.int .i64 o.kind), .val (str o.num), .val (str o.den), .val (str o.sp), .val (str o.sn), .val (str o.text), .row (o.pair.map Ob.enc)]
theorem enc_L (o : Ob) : o.enc = encL o := Ob.enc_eq o
theorem RetEq.pure {ok : Nat → Prop} {p : Prop} [Decidable p] {w w' : World} {e : Ending} (h : RetEq p w e w') : ∃ v, e = .returned v ∧ Below w.heap.size w w' ∧ RV (M0 fun b => ok b ∨ w.heap.size ≤ b) w' (boA (decide p)) v := by
  obtain ⟨b, rfl, hb, h2⟩ := h
  refine ⟨_, rfl, h2, ?_⟩
  rw [show decide p = b by cases b <;> simp_all]
  exact .val _
theorem RetLeaf.pure {ok : Nat → Prop} {r : Ob} {w w' : World} {e : Ending} (hp : r.pair = []) (h : RetLeaf r w e w') : ∃ v, e = .returned v ∧ Below w.heap.size w w' ∧ RV (M0 fun b => ok b ∨ w.heap.size ≤ b) w' (obA r) v := RetObj.pure (ok := ok) (h.obj hp)
theorem p_rCons (a d : Ob) : Puk 125 [obA a, obA d] (obA (consO a d)) :=
  pk_ooo (fnm Tryz.func125 rfl (by kernel_rfl)) fun ok A A' n c n' c' w _ h h' => rCons_any ok a d A A' n n' c c' w h h'
theorem p_rInt (n : Int) (h0 : -9223372036854775808 ≤ n) (h1 : n ≤ 9223372036854775807) : Puk 40 [inA n] (trA (.num n)) :=
  ⟨fnm Tryz.func40 rfl (by kernel_rfl), fun ok w vs ht hv => by
    obtain rfl := hv.one_val
    exact (rInt_any n w ht.1 h0 h1).mono fun _ _ h => RetLeaf.pure (r := (Tr.num n).ob) rfl h⟩
theorem p_rIsCons (o : Ob) (hn : o.pair.length ≤ 9223372036854775807) : Puk 119 [obA o] (boA (decide (o.kind = 4 ∧ o.pair.length = 2))) :=
  pk_ov (fnm Tryz.func119 rfl (by kernel_rfl)) fun ok A n c w _ hr => by
    have e1 := hr.len
    rw [List.length_map] at e1
    rw [e1]
    exact rIsCons_any o A n c w (by omega)
end Go.Proofs.YtendgffijciehaaGreatDoor
/- Operators on plain values. -/
namespace Go.Proofs.YtendgffijciehaaGreatDoor
open Go.RowKit

theorem strs_app (a b : List UInt8) : (⟨a.toArray⟩ : ByteArray) ++ ⟨b.toArray⟩ = ⟨(a ++ b).toArray⟩ := by
  apply ByteArray.ext
  rw [ByteArray.data_append]
  simp
theorem bin_strs {P : Program} {t : TypeId} {x y : Operand} {a b : List UInt8} (h : a.length + b.length ≤ 9223372036854775807) : BinIs P .add t x y (str a) (str b) (str (a ++ b)) := by
  have := bin_cat (P := P) (t := t) (x := x) (y := y) (a := ⟨a.toArray⟩) (b := ⟨b.toArray⟩) (by
    show ((a.toArray.size + b.toArray.size : Nat) : Int) ≤ 9223372036854775807
    simp only [List.size_toArray]
    omega)
  rw [strs_app] at this
  exact this
theorem toList_str (a : List UInt8) : (⟨a.toArray⟩ : ByteArray).toList = a := by
  rw [Lib.toList_data]
theorem eqD {α : Type} [BEq α] [LawfulBEq α] [DecidableEq α] (a b : α) : (a == b) = decide (a = b) := by
  by_cases h : a = b <;> simp [h]
theorem bin_seq {P : Program} {t : TypeId} {x y : Operand} {a b : List UInt8} {r : Bool} (h : decide (a = b) = r) : BinIs P .eql t x y (str a) (str b) (.bool r) := by
  refine sbin_is ?_
  show some (Value.bool (a == b)) = _
  rw [← h, eqD a b]
theorem bin_sne {P : Program} {t : TypeId} {x y : Operand} {a b : List UInt8} {r : Bool} (h : decide (a = b) = !r) : BinIs P .neq t x y (str a) (str b) (.bool r) := by
  refine sbin_is ?_
  show some (Value.bool !(a == b)) = _
  rw [eqD a b, h, Bool.not_not]
theorem bin_ieq {P : Program} {t : TypeId} {x y : Operand} {k : IntKind} {a b : Int} {r : Bool} (h : decide (a = b) = r) : BinIs P .eql t x y (.int k a) (.int k b) (.bool r) := by
  refine sbin_is ?_
  simp only [sbin, decide_true]
  rw [eqD a b, h]
theorem bin_ilt {P : Program} {t : TypeId} {x y : Operand} {k : IntKind} {a b : Int} {r : Bool} (h : decide (a < b) = r) : BinIs P .lss t x y (.int k a) (.int k b) (.bool r) := by
  refine sbin_is ?_
  simp only [sbin, decide_true]
  rw [h]
theorem bin_igt {P : Program} {t : TypeId} {x y : Operand} {k : IntKind} {a b : Int} {r : Bool} (h : decide (b < a) = r) : BinIs P .gtr t x y (.int k a) (.int k b) (.bool r) := by
  refine sbin_is ?_
  simp only [sbin, decide_true, gt_iff_lt]
  rw [h]
theorem bin_ige {P : Program} {t : TypeId} {x y : Operand} {k : IntKind} {a b : Int} {r : Bool} (h : decide (b ≤ a) = r) : BinIs P .geq t x y (.int k a) (.int k b) (.bool r) := by
  refine sbin_is ?_
  simp only [sbin, decide_true, ge_iff_le]
  rw [h]
theorem bin_iadd {P : Program} {t : TypeId} {x y : Operand} {a b c : Int} (h : a + b = c) (h0 : -9223372036854775808 ≤ c) (h1 : c ≤ 9223372036854775807) : BinIs P .add t x y (.int .i64 a) (.int .i64 b) (.int .i64 c) := by
  refine sbin_is ?_
  simp only [sbin, decide_true]
  rw [h, show IntKind.i64.wrap c = c by rw [IntKind.wrap_i64]; omega]
theorem bin_isub {P : Program} {t : TypeId} {x y : Operand} {a b c : Int} (h : a - b = c) (h0 : -9223372036854775808 ≤ c) (h1 : c ≤ 9223372036854775807) : BinIs P .sub t x y (.int .i64 a) (.int .i64 b) (.int .i64 c) := by
  refine sbin_is ?_
  simp only [sbin, decide_true]
  rw [h, show IntKind.i64.wrap c = c by rw [IntKind.wrap_i64]; omega]
theorem run_equal_bool {P : Program} {t : TypeId} (hu : P.underlying t = some .bool) (a b : Bool) (w : World) : (Op.equal t (.bool a) (.bool b)).run P w = .ok (a == b) w := by
  show (Op.equalIn (9999 + 1) t (.bool a) (.bool b)).run P w = _
  rw [Op.equalIn]
  simp only [Sem.run_bind, run_underlying hu, Result.andThen, Sem.run_pure]
theorem bin_beq {P : Program} {t : TypeId} {x y : Operand} {a b r : Bool} (hu : P.underlying t = some .bool) (h : (a == b) = r) : BinIs P .eql t x y (.bool a) (.bool b) (.bool r) := by
  intro w
  rw [← h]
  have e : (Op.equal t (.bool a) (.bool b)).run P w = .ok (a == b) w := run_equal_bool hu a b w
  simp only [eqGuard, binOp, Sem.run_bind, Result.andThen, Bool.not_true, Bool.false_eq_true, if_false, Sem.run_pure]
  rw [e]
  all_goals rfl
end Go.Proofs.YtendgffijciehaaGreatDoor
/- Terms as plain values.  -/
namespace Go.Proofs.YtendgffijciehaaGreatDoor
open Go.RowKit

namespace Ob
mutual
def eqb : Ob → Ob → Bool
  | ⟨k, n, d, p, s, t, l⟩, ⟨k', n', d', p', s', t', l'⟩ => decide (k = k') && decide (n = n') && decide (d = d') && decide (p = p') && decide (s = s') && decide (t = t') && eqbs l l'
def eqbs : List Ob → List Ob → Bool
  | [], [] => true
  | a :: l, b :: l' => eqb a b && eqbs l l'
  | [], _ :: _ => false
  | _ :: _, [] => false
end
mutual
theorem eqb_iff : ∀ a b : Ob, eqb a b = true ↔ a = b
  | ⟨k, n, d, p, s, t, l⟩, ⟨k', n', d', p', s', t', l'⟩ => by
    rw [eqb]
    simp only [Bool.and_eq_true, decide_eq_true_eq, eqbs_iff l l', Ob.mk.injEq, and_assoc]
theorem eqbs_iff : ∀ a b : List Ob, eqbs a b = true ↔ a = b
  | [], [] => by simp [eqbs]
  | a :: l, b :: l' => by
    rw [eqbs]
    simp only [Bool.and_eq_true, eqb_iff a b, eqbs_iff l l', List.cons.injEq]
  | [], _ :: _ => by simp [eqbs]
  | _ :: _, [] => by simp [eqbs]
end
end Ob
instance : DecidableEq Ob := fun a b => decidable_of_iff _ (Ob.eqb_iff a b)
/-- whether two things are the same -/
abbrev sameD {α : Type} [DecidableEq α] (a b : α) : Bool := decide (a = b)
structure Te where
  kind : Int
  np : List UInt8
  nn : List UInt8
  val : Ob
  args : List Te
namespace Te
mutual
def enc : Te → List Dt
  | ⟨k, p, n, o, l⟩ => [.val (.int .i64 k), .val (str p), .val (str n), .val (.int .i64 o.kind), .val (str o.num), .val (str o.den), .val (str o.sp), .val (str o.sn), .val (str o.text), .row (o.pair.map Ob.enc), .row (encA l)]
def encA : List Te → List (List Dt)
  | [] => []
  | t :: r => enc t :: encA r
end
mutual
def size : Te → Nat
  | ⟨_, _, _, _, l⟩ => sizeA l + 1
def sizeA : List Te → Nat
  | [] => 0
  | t :: r => size t + sizeA r
end
mutual
def eqb : Te → Te → Bool
  | ⟨k, p, n, o, l⟩, ⟨k', p', n', o', l'⟩ => decide (k = k') && decide (p = p') && decide (n = n') && decide (o = o') && eqbs l l'
def eqbs : List Te → List Te → Bool
  | [], [] => true
  | a :: l, b :: l' => eqb a b && eqbs l l'
  | [], _ :: _ => false
  | _ :: _, [] => false
end
mutual
theorem eqb_iff : ∀ a b : Te, eqb a b = true ↔ a = b
  | ⟨k, p, n, o, l⟩, ⟨k', p', n', o', l'⟩ => by
    rw [eqb]
    simp only [Bool.and_eq_true, decide_eq_true_eq, eqbs_iff l l', Te.mk.injEq, and_assoc]
theorem eqbs_iff : ∀ a b : List Te, eqbs a b = true ↔ a = b
  | [], [] => by simp [eqbs]
  | a :: l, b :: l' => by
    rw [eqbs]
    simp only [Bool.and_eq_true, eqb_iff a b, eqbs_iff l l', List.cons.injEq]
  | [], _ :: _ => by simp [eqbs]
  | _ :: _, [] => by simp [eqbs]
end
instance : DecidableEq Te := fun a b => decidable_of_iff _ (eqb_iff a b)
theorem encA_map (l : List Te) : encA l = l.map enc := by
  induction l with
  | nil => rfl
  | cons t r ih => rw [encA, ih]; rfl
theorem size_pos (t : Te) : 0 < t.size := by cases t; rw [size]; omega
theorem sizeA_mem {l : List Te} {t : Te} (h : t ∈ l) : t.size ≤ sizeA l := by
  induction l with
  | nil => cases h
  | cons x r ih =>
    rw [sizeA]
    rcases List.mem_cons.1 h with rfl | h
    · omega
    · have := ih h; omega
theorem size_args {t x : Te} (h : x ∈ t.args) : x.size < t.size := by
  obtain ⟨k, p, n, o, l⟩ := t
  rw [size]
  have := sizeA_mem (l := l) h
  omega
/-- numbers and lengths within Go's bounds, all the way down -/
inductive Wf : Te → Prop
  | mk (t : Te) (hv : t.val.Wf) (hl : t.args.length ≤ 9223372036854775807) (h : ∀ x ∈ t.args, Wf x) : Wf t
end Te
abbrev encT (t : Te) : List Dt := [.val (.int .i64 t.kind), .val (str t.np), .val (str t.nn), .val (.int .i64 t.val.kind), .val (str t.val.num), .val (str t.val.den), .val (str t.val.sp), .val (str t.val.sn), .val (str t.val.text), .row (t.val.pair.map Ob.enc), .row (t.args.map Te.enc)]
theorem enc_T (t : Te) : t.enc = encT t := by
  obtain ⟨k, p, n, o, l⟩ := t
  rw [Te.enc, Te.encA_map]
/-- a term -/
abbrev teA (t : Te) : AV := .agg [inA t.kind, stA t.np, stA t.nn, inA t.val.kind, stA t.val.num, stA t.val.den, stA t.val.sp, stA t.val.sn, stA t.val.text, .dt (.row (t.val.pair.map Ob.enc)), .dt (.row (t.args.map Te.enc))]
abbrev tesA (l : List Te) : AV := .dt (.row (l.map Te.enc))
theorem ix_te {l : List Te} {i : Nat} {t : Te} (h : l[i]? = some t) : IxAt (l.map Te.enc) (i : Int) 11 (encT t) := ⟨Int.natCast_nonneg _, by
  rw [Int.toNat_natCast, List.getElem?_map, h]
  exact congrArg some (enc_T t), rfl⟩
theorem lenEncT (l : List Te) : Value.int .i64 (l.length : Int) = Value.int .i64 ((l.map Te.enc).length : Int) := by rw [List.length_map]
/-- clauses -/
abbrev encC (c : List Te) : List Dt := [.row (c.map Te.enc)]
abbrev clsA (l : List (List Te)) : AV := .dt (.row (l.map encC))
end Go.Proofs.YtendgffijciehaaGreatDoor
/- Normal forms of formulas on plain terms: the code's clauses are the reference's. -/
namespace Go.Proofs.YtendgffijciehaaGreatDoor
open Go.RowKit

namespace Te
abbrev zOb : Ob := ⟨0, [], [], [], [], [], []⟩
abbrev zTe : Te := ⟨0, [], [], zOb, []⟩
/-- a call of a function of the package lisp -/
def ap (n : List UInt8) (l : List Te) : Te := ⟨3, lispB, n, zOb, l⟩
abbrev is (t : Te) (n : List UInt8) (k : Nat) : Prop := t.kind = 3 ∧ t.np = lispB ∧ t.nn = n ∧ t.args.length = k
abbrev notB : List UInt8 := [110, 111, 116]
abbrev ifB : List UInt8 := [105, 102]
abbrev impB : List UInt8 := [105, 109, 112, 108, 105, 101, 115]
abbrev iffB : List UInt8 := [105, 102, 102]
def con (o : Ob) : Te := ⟨2, [], [], o, []⟩
abbrev yesT : Te := con tO
abbrev noT : Te := con nilO
abbrev arg (t : Te) (i : Nat) : Te := t.args.getD i zTe
def neg (t : Te) : Te := if is t notB 1 then t.arg 0 else ap notB [t]
/-- the if that a call of a propositional function stands for -/
def opened (t : Te) : Option Te :=
  if is t notB 1 then some (ap ifB [t.arg 0, noT, yesT])
  else if is t impB 2 then some (ap ifB [t.arg 0, ap ifB [t.arg 1, yesT, noT], yesT])
  else if is t iffB 2 then some (ap ifB [t.arg 0, ap ifB [t.arg 1, yesT, noT], ap ifB [t.arg 1, noT, yesT]])
  else none
end Te
open Te
/-- what a normalizer holds -/
structure NS where
  out : List (List Te)
  ex : Int
  er : Int
def NS.fail (D : List Te → List Te) (s : NS) (c : List Te) : NS := if 60 < (D c).length ∨ 400 ≤ s.out.length then { s with er := 2 } else { s with out := s.out ++ [D c] }
/-- one examination more -/
def NS.tick (s : NS) : NS := ⟨s.out, s.ex + 1, if 20000 < s.ex + 1 then 2 else s.er⟩
/-- 'examine', with so much fuel; D is what is done to a clause -/
def exm (D : List Te → List Te) : Nat → Te → List Te → NS → NS
  | 0, _, _, s => s
  | f + 1, t, qs, s =>
    if s.tick.er ≠ 0 then s.tick else
    if t.kind = 2 then (if t.val = nilO then s.tick.fail D (qs.map neg) else s.tick) else
    match opened t with
    | some t' => exm D f t' qs s.tick
    | none =>
      if is t ifB 3 then
        if (t.arg 0).kind = 2 ∧ (t.arg 0).val = nilO then exm D f (t.arg 2) qs s.tick
        else if (t.arg 0).kind = 2 then exm D f (t.arg 1) qs s.tick
        else if is (t.arg 0) notB 1 then exm D f (ap ifB [(t.arg 0).arg 0, t.arg 2, t.arg 1]) qs s.tick
        else if is (t.arg 0) ifB 3 then exm D f (ap ifB [(t.arg 0).arg 0, ap ifB [(t.arg 0).arg 1, t.arg 1, t.arg 2], ap ifB [(t.arg 0).arg 2, t.arg 1, t.arg 2]]) qs s.tick
        else match opened (t.arg 0) with
          | some a' => exm D f (ap ifB [a', t.arg 1, t.arg 2]) qs s.tick
          | none =>
            if t.arg 0 ∈ qs then exm D f (t.arg 1) qs s.tick
            else if ap notB [t.arg 0] ∈ qs then exm D f (t.arg 2) qs s.tick
            else exm D f (t.arg 2) (qs ++ [ap notB [t.arg 0]]) (exm D f (t.arg 1) (qs ++ [t.arg 0]) s.tick)
      else if t ∈ qs then s.tick
      else if ap notB [t] ∈ qs then s.tick.fail D (qs.map neg)
      else s.tick.fail D (qs.map neg ++ [t])
/-- 'Add' to the empty clause -/
def addN (out : List Te) : List Te → List Te
  | [] => out
  | t :: r => addN (if t ∈ out then out else out ++ [t]) r
theorem is_ap (n : List UInt8) (l : List Te) : is (ap n l) n l.length := ⟨rfl, rfl, rfl, rfl⟩
theorem neg_not (t : Te) : neg (ap notB [t]) = t := if_pos (is_ap notB [t])
end Go.Proofs.YtendgffijciehaaGreatDoor
/- Which terms are valid: the plain law. -/
namespace Go.Proofs.YtendgffijciehaaGreatDoor
open Go.RowKit

namespace Te
/- nodes and depth -/
mutual
def nods : Te → Nat
  | ⟨k, _, _, o, l⟩ => if k = 2 then o.nodes else if k = 3 then nodsL l + 1 else 1
def nodsL : List Te → Nat
  | [] => 0
  | x :: r => nods x + nodsL r
end
mutual
def dep : Te → Nat
  | ⟨k, _, _, _, l⟩ => if k = 3 then depL l + 1 else 1
def depL : List Te → Nat
  | [] => 0
  | x :: r => max (dep x) (depL r)
end
/- the code's rest and depth -/
/- the reference's count and deep -/
mutual
def cnt : Te → Int → Int
  | ⟨k, _, _, o, l⟩, m => if k = 2 then min m (nodesP o) else if k = 3 then cntL l m 1 else 1
def cntL : List Te → Int → Int → Int
  | [], _, n => n
  | x :: r, m, n => if n < m then cntL r m (n + cnt x (m - n)) else n
end
mutual
def dee : Te → Int → Int
  | ⟨k, _, _, _, l⟩, m => if k = 3 then deeL l m 0 + 1 else 1
def deeL : List Te → Int → Int → Int
  | [], _, d => d
  | x :: r, m, d => if 1 < m then deeL r m (max d (dee x (m - 1))) else d
end
theorem nodesP_min (o : Ob) : nodesP o = ((min o.nodes 3001 : Nat) : Int) := by unfold nodesP; split <;> omega
theorem dep_pos (t : Te) : 1 ≤ t.dep := by obtain ⟨k, p, n, o, l⟩ := t; rw [dep]; split <;> omega
mutual
theorem cnt_law : ∀ (t : Te) (m : Int), 1 ≤ m → m ≤ 3001 → cnt t m = min m (nods t)
  | ⟨k, p, n, o, l⟩, m, h1, h2 => by
    rw [cnt, nods, nodesP_min]
    by_cases h : k = 2
    · rw [if_pos h, if_pos h]; omega
    rw [if_neg h, if_neg h]
    by_cases h : k = 3
    · rw [if_pos h, if_pos h]
      have := cntL_law l m 1 (by omega) (by omega) (by omega)
      omega
    · rw [if_neg h, if_neg h]; omega
theorem cntL_law : ∀ (l : List Te) (m n : Int), 1 ≤ n → n ≤ m → m ≤ 3001 → cntL l m n = min m (n + nodsL l)
  | [], m, n, h1, h2, h3 => by rw [cntL, nodsL]; omega
  | x :: r, m, n, h1, h2, h3 => by
    rw [cntL, nodsL]
    by_cases h : n < m
    · rw [if_pos h]
      have a := cnt_law x (m - n) (by omega) (by omega)
      have b := cntL_law r m (n + cnt x (m - n)) (by omega) (by omega) h3
      omega
    · rw [if_neg h]; omega
end
mutual
theorem dee_law : ∀ (t : Te) (m : Int), 1 ≤ m → dee t m = min m (dep t)
  | ⟨k, p, n, o, l⟩, m, h1 => by
    rw [dee, dep]
    by_cases h : k = 3
    · rw [if_pos h, if_pos h]
      have := deeL_law l m 0 h1 (by omega) (by omega)
      omega
    · rw [if_neg h, if_neg h]; omega
theorem deeL_law : ∀ (l : List Te) (m d : Int), 1 ≤ m → 0 ≤ d → d ≤ m - 1 → deeL l m d = min (m - 1) (max d (depL l))
  | [], m, d, h1, h2, h3 => by rw [deeL, depL]; omega
  | x :: r, m, d, h1, h2, h3 => by
    rw [deeL, depL]
    by_cases h : 1 < m
    · rw [if_pos h]
      have a := dee_law x (m - 1) (by omega)
      have b := deeL_law r m (max d (dee x (m - 1))) h1 (by omega) (by omega)
      omega
    · rw [if_neg h]
      omega
end
/-- a symbol that can be a variable -/
def varB (p n : List UInt8) : Bool := symOk ⟨p, n⟩ && !(decide (p = lispB) && decide (n = nilB)) && !(decide (p = lispB) && decide (n = [116]))
mutual
def frm : Te → Bool
  | ⟨k, p, n, o, l⟩ =>
    if k = 1 then varB p n && decide (o = zOb) && decide (l.length = 0)
    else if k = 2 then (decide (p = []) && decide (n = [])) && o.validB && decide (l.length = 0)
    else if k = 3 then symOk ⟨p, n⟩ && decide (o = zOb) && decide (l.length ≤ 8) && frmL l
    else false
def frmL : List Te → Bool
  | [] => true
  | x :: r => frm x && frmL r
end
/-- a valid term -/
def valid (t : Te) : Bool := decide (t.nods ≤ 3000) && decide (t.dep ≤ 200) && t.frm
/-- lengths within Go's bounds, numerals within the bulk's, all the way down -/
inductive Bd : Te → Prop
  | mk (t : Te) (hv : t.val.Wf) (hs : t.val.Sm) (hp : t.np.length ≤ 9223372036854775807) (hn : t.nn.length ≤ 9223372036854775807) (hl : t.args.length ≤ 9223372036854775807) (h : ∀ x ∈ t.args, Bd x) : Bd t
theorem Bd.parts {t : Te} (h : t.Bd) : t.val.Wf ∧ t.val.Sm ∧ t.np.length ≤ 9223372036854775807 ∧ t.nn.length ≤ 9223372036854775807 ∧ t.args.length ≤ 9223372036854775807 := by cases h with | mk _ hv hs hp hn hl hh => exact ⟨hv, hs, hp, hn, hl⟩
theorem Bd.kids {t x : Te} (h : t.Bd) (hx : x ∈ t.args) : x.Bd := by cases h with | mk _ hv hs hp hn hl hh => exact hh x hx
end Te
end Go.Proofs.YtendgffijciehaaGreatDoor
/- Terms: constants, calls of functions, what a call is. -/
namespace Go.Proofs.YtendgffijciehaaGreatDoor
open Go.RowKit

theorem syFs : (Tryz.prog).fieldsOf 32 = #[⟨"Package", 9, 0, false, "", "", 0⟩, ⟨"Name", 9, 1, false, "", "", 16⟩] := by kernel_rfl
theorem syU : Tryz.prog.underlying 32 = some (.struct (Tryz.prog.fieldsOf 32)) := by kernel_rfl
theorem syH : Tryz.prog.stoodInHeld 32 = false := by kernel_rfl
theorem syG : Tryz.prog.eqGuardType Tryz.prog.depth 32 = false := by kernel_rfl
theorem part_s (p s : List UInt8) (w : World) : (part 9 #[str p, str s] 0).run Tryz.prog w = .ok (str p) w ∧ (part 9 #[str p, str s] 1).run Tryz.prog w = .ok (str s) w := by
  constructor <;> simp [part]
theorem sy_equal {p s p' s' : List UInt8} (w : World) : (Op.equalIn 10000 32 (.agg #[str p, str s]) (.agg #[str p', str s'])).run Tryz.prog w = .ok (decide (p = p') && decide (s = s')) w := by
  rw [run_equalIn_agg w 9999 _ _ _ syU syH, syFs]
  have e1 := run_equalIn_string (P := Tryz.prog) w 9998 9 ⟨p.toArray⟩ ⟨p'.toArray⟩ Tryz.underlying9
  have e2 := run_equalIn_string (P := Tryz.prog) w 9998 9 ⟨s.toArray⟩ ⟨s'.toArray⟩ Tryz.underlying9
  rw [toList_str, toList_str, eqD] at e1 e2
  simp only [Op.eqFields, Sem.run_bind, (part_s p s w).1, (part_s p s w).2, (part_s p' s' w).1, (part_s p' s' w).2, Result.andThen_ok, e1, e2, ne_eq, Sem.run_ite, Sem.run_pure]
  cases decide (p = p') <;> cases decide (s = s') <;> simp
theorem bin_syeq {x y : Operand} {p s p' s' : List UInt8} {r : Bool} (h : (decide (p = p') && decide (s = s')) = r) : BinIs Tryz.prog .eql 32 x y (.agg #[str p, str s]) (.agg #[str p', str s']) (.bool r) := by
  intro w
  rw [← h]
  simp only [Sem.run_bind, run_eqGuard_agg w .eql _ x y _ _ syG, Result.andThen_ok, run_eql_struct, sy_equal]
theorem bin_ine {P : Program} {t : TypeId} {x y : Operand} {k : IntKind} {a b : Int} {r : Bool} (h : decide (a = b) = !r) : BinIs P .neq t x y (.int k a) (.int k b) (.bool r) := by
  refine sbin_is ?_
  simp only [sbin, decide_true]
  show some (Value.bool (!(a == b))) = _
  rw [eqD a b, h, Bool.not_not]
abbrev syA (p n : List UInt8) : AV := .agg [stA p, stA n]
theorem p_tConst (o : Ob) : Puk 80 [obA o] (teA (Te.con o)) := pwalk (an := []) (ls := []) (ps := []) Tryz.func80 (by kernel_rfl) (by kernel_rfl) trivial
theorem p_rConst (o : Ob) : Puk 16 [obA o] (teA (Te.con o)) := pwalk (an := []) (ls := []) (ps := []) Tryz.func16 (by kernel_rfl) (by kernel_rfl) trivial
theorem p_oSym (p n : List UInt8) : Puk 105 [syA p n] (obA ⟨2, [], [], p, n, [], []⟩) := pwalk (an := []) (ls := []) (ps := []) Tryz.func105 (by kernel_rfl) (by kernel_rfl) trivial
theorem p_rSym (p n : List UInt8) : Puk 52 [syA p n] (obA ⟨2, [], [], p, n, [], []⟩) := pwalk (an := []) (ls := []) (ps := []) Tryz.func52 (by kernel_rfl) (by kernel_rfl) trivial
theorem p_oNil : Puk 82 [] (obA nilO) := pwalk (an := [.av (obA nilO)]) (ls := []) (ps := [Puk 105 [(syA [108, 105, 115, 112] [110, 105, 108])] (obA nilO)]) Tryz.func82 (by kernel_rfl) (by kernel_rfl) ⟨p_oSym _ _, trivial⟩
theorem p_oT : Puk 81 [] (obA tO) := pwalk (an := [.av (obA tO)]) (ls := []) (ps := [Puk 105 [(syA [108, 105, 115, 112] [116])] (obA tO)]) Tryz.func81 (by kernel_rfl) (by kernel_rfl) ⟨p_oSym _ _, trivial⟩
theorem p_lisp (n : List UInt8) : Puk 51 [stA n] (syA lispB n) := pwalk (an := []) (ls := []) (ps := []) Tryz.func51 (by kernel_rfl) (by kernel_rfl) trivial
theorem p_rNil : Puk 17 [] (obA nilO) := pwalk (an := [.av (syA lispB [110, 105, 108]), .av (obA nilO)]) (ls := []) (ps := [Puk 51 [(stA [110, 105, 108])] (syA lispB [110, 105, 108]), Puk 52 [(syA lispB [110, 105, 108])] (obA nilO)]) Tryz.func17 (by kernel_rfl) (by kernel_rfl) ⟨p_lisp _, p_rSym _ _, trivial⟩
theorem p_rT : Puk 99 [] (obA tO) := pwalk (an := [.av (syA lispB [116]), .av (obA tO)]) (ls := []) (ps := [Puk 51 [(stA [116])] (syA lispB [116]), Puk 52 [(syA lispB [116])] (obA tO)]) Tryz.func99 (by kernel_rfl) (by kernel_rfl) ⟨p_lisp _, p_rSym _ _, trivial⟩
theorem p_constant (b : Bool) : Puk 58 [boA b] (teA (bif b then Te.yesT else Te.noT)) := by
  cases b with
  | true => exact pwalk (an := [.av (obA tO), .av (teA Te.yesT)]) (ls := []) (ps := [Puk 81 [] (obA tO), Puk 80 [(obA tO)] (.agg [(inA 2), (stA Te.yesT.np), (stA Te.yesT.nn), (inA 2), (stA Te.yesT.val.num), (stA Te.yesT.val.den), (stA Te.yesT.val.sp), (stA Te.yesT.val.sn), (stA Te.yesT.val.text), (.dt (.row (List.map Ob.enc Te.yesT.val.pair))), (.dt (.row (List.map Te.enc Te.yesT.args)))])]) Tryz.func58 (by kernel_rfl) (by kernel_rfl) ⟨p_oT, p_tConst _, trivial⟩
  | false => exact pwalk (an := [.av (obA nilO), .av (teA Te.noT)]) (ls := []) (ps := [Puk 82 [] (obA nilO), Puk 80 [(obA nilO)] (.agg [(inA 2), (stA Te.noT.np), (stA Te.noT.nn), (inA 2), (stA Te.noT.val.num), (stA Te.noT.val.den), (stA Te.noT.val.sp), (stA Te.noT.val.sn), (stA Te.noT.val.text), (.dt (.row (List.map Ob.enc Te.noT.val.pair))), (.dt (.row (List.map Te.enc Te.noT.args)))])]) Tryz.func58 (by kernel_rfl) (by kernel_rfl) ⟨p_oNil, p_tConst _, trivial⟩
abbrev rcT (p n : List UInt8) (rs : List (List Dt)) : AV := .agg [inA 3, stA p, stA n, inA 0, stA [], stA [], stA [], stA [], stA [], .dt (.row []), .dt (.row rs)]
theorem p_tApp (p n : List UInt8) (rs : List (List Dt)) : Puk 83 [syA p n, .dt (.row rs)] (rcT p n rs) := pwalk (an := []) (ls := []) (ps := []) Tryz.func83 (by kernel_rfl) (by kernel_rfl) trivial
theorem p_rApp (p n : List UInt8) (rs : List (List Dt)) : Puk 50 [syA p n, .dt (.row rs)] (rcT p n rs) := pwalk (an := []) (ls := []) (ps := []) Tryz.func50 (by kernel_rfl) (by kernel_rfl) trivial
theorem p_tLisp' (n : List UInt8) (rs : List (List Dt)) : Puk 61 [stA n, .dt (.row rs)] (rcT lispB n rs) := pwalk (an := [.av (rcT lispB n rs)]) (ls := []) (ps := [Puk 83 [(syA [108, 105, 115, 112] n), (.dt (.row rs))] (.agg [(inA 3), (stA lispB), (stA n), (inA 0), (stA []), (stA []), (stA []), (stA []), (stA []), (.dt (.row [])), (.dt (.row rs))])]) Tryz.func61 (by kernel_rfl) (by kernel_rfl) ⟨p_tApp _ _ _, trivial⟩
theorem p_rLisp' (n : List UInt8) (rs : List (List Dt)) : Puk 15 [stA n, .dt (.row rs)] (rcT lispB n rs) := pwalk (an := [.av (syA lispB n), .av (rcT lispB n rs)]) (ls := []) (ps := [Puk 51 [(stA n)] (syA lispB n), Puk 50 [(syA lispB n), (.dt (.row rs))] (.agg [(inA 3), (stA lispB), (stA n), (inA 0), (stA []), (stA []), (stA []), (stA []), (stA []), (.dt (.row [])), (.dt (.row rs))])]) Tryz.func15 (by kernel_rfl) (by kernel_rfl) ⟨p_lisp n, p_rApp _ _ _, trivial⟩
/-- a call of a function of the package lisp is made -/
theorem p_tLisp (n : List UInt8) (l : List Te) {rs : List (List Dt)} (h : rs = l.map Te.enc) : Puk 61 [stA n, .dt (.row rs)] (teA (Te.ap n l)) := by subst h; exact p_tLisp' _ _
theorem p_rLisp (n : List UInt8) (l : List Te) {rs : List (List Dt)} (h : rs = l.map Te.enc) : Puk 15 [stA n, .dt (.row rs)] (teA (Te.ap n l)) := by subst h; exact p_rLisp' _ _
theorem p_oIsNil (o : Ob) : Puk 55 [obA o] (boA (decide (o.kind = 2 ∧ o.sp = lispB ∧ o.sn = nilB))) :=
  pk_ov (fnm Tryz.func55 rfl (by kernel_rfl)) fun _ A n c w _ _ => oIsNil_any o A n c w
theorem p_rIsNil {o : Ob} (h : o.Wf) : Puk 59 [obA o] (boA (sameD o nilO)) :=
  ⟨fnm Tryz.func59 rfl (by kernel_rfl), fun ok w vs _ hv => by
    obtain ⟨A, n, c, rfl, hr⟩ := hv.one_obj
    exact (rIsNil_any ok o h A n c w hr).mono fun _ _ h => h.pure⟩
theorem p_oEqO {a : Ob} (h : a.Wf) (b : Ob) : Puk 78 [obA a, obA b] (boA (sameD a b)) :=
  ⟨fnm Tryz.func78 rfl (by kernel_rfl), fun ok w vs _ hv => by
    obtain ⟨A, n, c, A', n', c', rfl, hr, hr'⟩ := hv.two_obj
    exact (oEqual_any ok ok a.size a b (Nat.le_refl _) h A A' n n' c c' w hr hr').mono fun _ _ h => h.pure⟩
theorem p_rEqO {a : Ob} (h : a.Wf) (b : Ob) : Puk 60 [obA a, obA b] (boA (sameD a b)) :=
  ⟨fnm Tryz.func60 rfl (by kernel_rfl), fun ok w vs _ hv => by
    obtain ⟨A, n, c, A', n', c', rfl, hr, hr'⟩ := hv.two_obj
    exact (rEqual_any ok ok a.size a b (Nat.le_refl _) h A A' n n' c c' w hr hr').mono fun _ _ h => h.pure⟩
theorem isD {t : Te} {n : List UInt8} {k : Nat} : decide (t.is n k) = (decide (t.kind = 3) && (decide (t.np = lispB) && decide (t.nn = n) && decide (t.args.length = k))) := by
  show decide (_ ∧ _ ∧ _ ∧ _) = _
  simp [Bool.and_assoc]
theorem p_is (t : Te) (n : List UInt8) (k : Nat) : Puk 56 [teA t, stA n, inA k] (boA (decide (t.is n k))) := by
  rw [isD]
  cases hk : decide (t.kind = 3) with
  | false => exact pwalk (an := [yF]) (ls := []) (ps := [Bn .eql 3 (.tmp 8) (.const (vi 3)) (vi t.kind) (vi 3) bF]) Tryz.func56 (by kernel_rfl) (by kernel_rfl) ⟨bin_ieq hk, trivial⟩
  | true =>
    cases hs : decide (t.np = lispB) && decide (t.nn = n) with
    | false => exact pwalk (an := [yT, yF]) (ls := []) (ps := [Bn .eql 3 (.tmp 8) (.const (vi 3)) (vi t.kind) (vi 3) bT, Bn .eql 32 (.tmp 12) (.tmp 14) (Value.agg #[str t.np, str t.nn]) (Value.agg #[Value.string { data := #[108, 105, 115, 112] : ByteArray }, str n]) bF]) Tryz.func56 (by kernel_rfl) (by kernel_rfl) ⟨bin_ieq hk, bin_syeq hs, trivial⟩
    | true => exact pwalk (an := [yT, yT, .av (inA t.args.length), .av (boA (decide (t.args.length = k)))]) (ls := []) (ps := [Bn .eql 3 (.tmp 8) (.const (vi 3)) (vi t.kind) (vi 3) bT, Bn .eql 32 (.tmp 12) (.tmp 14) (Value.agg #[str t.np, str t.nn]) (Value.agg #[Value.string { data := #[108, 105, 115, 112] : ByteArray }, str n]) bT, (vi ↑t.args.length) = (vi (↑(List.map Te.enc t.args).length)), Bn .eql 3 (.tmp 20) (.tmp 21) (vi ↑t.args.length) (vi ↑k) (Value.bool (decide (t.args.length = k)))]) Tryz.func56 (by kernel_rfl) (by kernel_rfl) ⟨bin_ieq hk, bin_syeq hs, lenEncT _, bin_ieq (by rw [decide_eq_decide]; omega), trivial⟩
end Go.Proofs.YtendgffijciehaaGreatDoor
/- Equality of terms and membership in clauses, both texts. -/
namespace Go.Proofs.YtendgffijciehaaGreatDoor
open Go.RowKit

namespace Te
theorem Wf.val {t : Te} (h : t.Wf) : t.val.Wf := by cases h with | mk _ hv hl hx => exact hv
theorem Wf.len {t : Te} (h : t.Wf) : t.args.length ≤ 9223372036854775807 := by cases h with | mk _ hv hl hx => exact hl
theorem Wf.kids {t x : Te} (h : t.Wf) (hx : x ∈ t.args) : x.Wf := by cases h with | mk _ hv hl hh => exact hh x hx
theorem same_cons {x y : Te} {a b : List Te} : sameD (x :: a) (y :: b) = (sameD x y && sameD a b) := by
  unfold sameD
  by_cases h1 : x = y <;> by_cases h2 : a = b <;> simp [h1, h2]
theorem same_iff {a b : Te} : sameD a b = (decide (a.kind = b.kind) && (decide (a.np = b.np) && decide (a.nn = b.nn)) && sameD a.val b.val && sameD a.args b.args) := by
  obtain ⟨k, p, n, o, l⟩ := a
  obtain ⟨k', p', n', o', l'⟩ := b
  unfold sameD
  rw [Bool.eq_iff_iff]
  simp [and_assoc]
end Te
abbrev fEq : AV := .clf 57 []
abbrev eqS (a b : List Te) (i : Int) : AS := ⟨stt 32 [(1, tesA b), (2, fEq), (15, tesA a), (16, inA a.length), (17, inA i)], []⟩
abbrev eqR (b : Bool) : AS := ⟨stt 32 [(6, boA b)], []⟩
abbrev eqN : AS := ⟨stt 32 [], []⟩
noncomputable abbrev eqB : Code := subC (bodyOf Tryz.f79) [1, 1, 0, 1, 0, 0]
theorem eqB1 {a b : List Te} {x y : Te} {i : Nat} (hx : a[i]? = some x) (hy : b[i]? = some y) (hl : a.length ≤ 9223372036854775807) (h : Puk 57 [teA x, teA y] (boA true)) : Tri EX eqB (eqS a b i) .nxt (eqS a b ((i + 1 : Nat) : Int)) :=
  twalk (c := subC (bodyOf Tryz.f79) [1,1,0,1,0,0]) (s := eqS a b i) (an := [yT, .av (.pin ((encT x).map .dt)), .av (.pin ((encT y).map .dt)), yT, .av (inA ((i + 1 : Nat) : Int))]) (ls := []) (ft := [1,2,15,16,17]) (nb := 0) (e := .nxt) (s' := eqS a b ((i + 1 : Nat) : Int)) (ps := [Bn .lss 3 (.tmp 17) (.tmp 16) (vi ↑i) (vi ↑a.length) bT, IxAt (List.map Te.enc a) ↑i 11 (encT x), IxAt (List.map Te.enc b) ↑i 11 (encT y), Puk 57 [(teA x), (teA y)] (boA true), Bn .add 3 (.tmp 17) (.const (vi 1)) (vi ↑i) (vi 1) (vi (↑(i + 1)))]) (by kernel_rfl)
    ⟨bin_ilt (decide_eq_true (by have := (List.getElem?_eq_some_iff.1 hx).1; omega)), ix_te hx, ix_te hy, h, bin_iadd (by omega) (by omega) (by have := (List.getElem?_eq_some_iff.1 hx).1; omega), trivial⟩
theorem eqB2 {a b : List Te} {i : Nat} (hi : i = a.length) : Tri EX eqB (eqS a b i) (.out 0) eqN :=
  twalk (c := subC (bodyOf Tryz.f79) [1,1,0,1,0,0]) (s := eqS a b i) (an := [yF]) (ls := []) (ft := []) (nb := 0) (e := .out 0) (s' := eqN) (ps := [Bn .lss 3 (.tmp 17) (.tmp 16) (vi ↑i) (vi ↑a.length) bF]) (by kernel_rfl)
    ⟨bin_ilt (decide_eq_false (by omega)), trivial⟩
theorem eqB3 {a b : List Te} {x y : Te} {i : Nat} (hx : a[i]? = some x) (hy : b[i]? = some y) (h : Puk 57 [teA x, teA y] (boA false)) : Tri EX eqB (eqS a b i) .ret (eqR false) :=
  twalk (c := subC (bodyOf Tryz.f79) [1,1,0,1,0,0]) (s := eqS a b i) (an := [yT, .av (.pin ((encT x).map .dt)), .av (.pin ((encT y).map .dt)), yF]) (ls := []) (ft := [6]) (nb := 0) (e := .ret) (s' := eqR false) (ps := [Bn .lss 3 (.tmp 17) (.tmp 16) (vi ↑i) (vi ↑a.length) bT, IxAt (List.map Te.enc a) ↑i 11 (encT x), IxAt (List.map Te.enc b) ↑i 11 (encT y), Puk 57 [(teA x), (teA y)] (boA false)]) (by kernel_rfl)
    ⟨bin_ilt (decide_eq_true (by have := (List.getElem?_eq_some_iff.1 hx).1; omega)), ix_te hx, ix_te hy, h, trivial⟩
theorem p_eqFunc {a b : List Te} (hl : a.length ≤ 9223372036854775807) (h : ∀ x ∈ a, ∀ y, Puk 57 [teA x, teA y] (boA (sameD x y))) : Puk 79 [tesA a, tesA b, fEq] (boA (sameD a b)) := by
  by_cases hne : a.length = b.length
  · have loop : ∀ (s s' : List Te) (i : Nat), a.drop i = s → b.drop i = s' → i ≤ a.length → (sameD s s' = true → Lps EX eqB (eqS a b i) (.out 0) eqN) ∧ (sameD s s' = false → Lps EX eqB (eqS a b i) .ret (eqR false)) := by
      intro s
      induction s with
      | nil =>
        intro s' i hd hd' hi
        have e1 := congrArg List.length hd
        rw [List.length_drop, List.length_nil] at e1
        have e2 := congrArg List.length hd'
        rw [List.length_drop] at e2
        obtain rfl : s' = [] := List.eq_nil_of_length_eq_zero (by omega)
        exact ⟨fun _ => .stop (eqB2 (by omega)) (fun h => by cases h), fun h => by simp at h⟩
      | cons x s ih =>
        intro s' i hd hd' hi
        have hx : a[i]? = some x := by rw [← List.head?_drop, hd]; rfl
        have hlt := (List.getElem?_eq_some_iff.1 hx).1
        cases s' with
        | nil =>
          have e2 := congrArg List.length hd'
          rw [List.length_drop, List.length_nil] at e2
          omega
        | cons y s' =>
          have hy : b[i]? = some y := by rw [← List.head?_drop, hd']; rfl
          have hc := h x (List.mem_of_getElem? hx) y
          obtain ⟨k1, k2⟩ := ih s' (i + 1) (by rw [← List.drop_drop, hd]; rfl) (by rw [← List.drop_drop, hd']; rfl) (by omega)
          rw [Te.same_cons]
          cases hxy : sameD x y with
          | true =>
            rw [hxy] at hc
            rw [Bool.true_and]
            exact ⟨fun e => .more (eqB1 hx hy hl hc) (k1 e), fun e => .more (eqB1 hx hy hl hc) (k2 e)⟩
          | false =>
            rw [hxy] at hc
            exact ⟨fun e => by simp at e, fun _ => .stop (eqB3 hx hy hc) (fun h => by cases h)⟩
    obtain ⟨k1, k2⟩ := loop a b 0 rfl rfl (Nat.zero_le _)
    cases hab : sameD a b with
    | true => exact pwalk (an := [.av (inA a.length), .av (inA b.length), yF, .av (inA a.length)]) (ls := [.inv [1,2,15,16,17] 0 (.out 0) (eqN)]) (ps := [(vi ↑a.length) = (vi (↑(List.map Te.enc a).length)), (vi ↑b.length) = (vi (↑(List.map Te.enc b).length)), Bn .neq 3 (.tmp 11) (.tmp 13) (vi ↑a.length) (vi ↑b.length) bF, (vi ↑a.length) = (vi (↑(List.map Te.enc a).length)), Tri EX (.loop (subC (bodyOf Tryz.f79) [1, 1, 0, 1, 0, 0])) (eqS a b 0) (.out 0) (eqN)]) Tryz.func79 (by kernel_rfl) (by kernel_rfl) ⟨lenEncT _, lenEncT _, bin_ine (by simp [hne]), lenEncT _, (k1 hab).tri, trivial⟩
    | false => exact pwalk (an := [.av (inA a.length), .av (inA b.length), yF, .av (inA a.length)]) (ls := [.inv [1,2,15,16,17] 0 (.ret) (eqR false)]) (ps := [(vi ↑a.length) = (vi (↑(List.map Te.enc a).length)), (vi ↑b.length) = (vi (↑(List.map Te.enc b).length)), Bn .neq 3 (.tmp 11) (.tmp 13) (vi ↑a.length) (vi ↑b.length) bF, (vi ↑a.length) = (vi (↑(List.map Te.enc a).length)), Tri EX (.loop (subC (bodyOf Tryz.f79) [1, 1, 0, 1, 0, 0])) (eqS a b 0) (.ret) (eqR false)]) Tryz.func79 (by kernel_rfl) (by kernel_rfl) ⟨lenEncT _, lenEncT _, bin_ine (by simp [hne]), lenEncT _, (k2 hab).tri, trivial⟩
  · have e : sameD a b = false := decide_eq_false fun e => hne (congrArg List.length e)
    rw [e]
    exact pwalk (an := [.av (inA a.length), .av (inA b.length), yT]) (ls := []) (ps := [(vi ↑a.length) = (vi (↑(List.map Te.enc a).length)), (vi ↑b.length) = (vi (↑(List.map Te.enc b).length)), Bn .neq 3 (.tmp 11) (.tmp 13) (vi ↑a.length) (vi ↑b.length) bT]) Tryz.func79 (by kernel_rfl) (by kernel_rfl) ⟨lenEncT _, lenEncT _, bin_ine (by simp; omega), trivial⟩
/-- terms are compared -/
theorem p_tEq : ∀ (N : Nat) (a b : Te), a.size ≤ N → a.Wf → Puk 57 [teA a, teA b] (boA (sameD a b)) := by
  intro N
  induction N with
  | zero => intro a b h; have := Te.size_pos a; omega
  | succ N ih =>
    intro a b hN hw
    rw [Te.same_iff]
    cases hk : decide (a.kind = b.kind) with
    | false => exact pwalk (an := [yF]) (ls := []) (ps := [Bn .eql 3 (.tmp 6) (.tmp 8) (vi a.kind) (vi b.kind) bF]) Tryz.func57 (by kernel_rfl) (by kernel_rfl) ⟨bin_ieq hk, trivial⟩
    | true =>
      cases hs : decide (a.np = b.np) && decide (a.nn = b.nn) with
      | false => exact pwalk (an := [yT, yF]) (ls := []) (ps := [Bn .eql 3 (.tmp 6) (.tmp 8) (vi a.kind) (vi b.kind) bT, Bn .eql 32 (.tmp 12) (.tmp 14) (Value.agg #[str a.np, str a.nn]) (Value.agg #[str b.np, str b.nn]) bF]) Tryz.func57 (by kernel_rfl) (by kernel_rfl) ⟨bin_ieq hk, bin_syeq hs, trivial⟩
      | true =>
        have h1 := p_oEqO hw.val b.val
        cases hv : sameD a.val b.val with
        | false =>
          rw [hv] at h1
          exact pwalk (an := [yT, yT, yF]) (ls := []) (ps := [Bn .eql 3 (.tmp 6) (.tmp 8) (vi a.kind) (vi b.kind) bT, Bn .eql 32 (.tmp 12) (.tmp 14) (Value.agg #[str a.np, str a.nn]) (Value.agg #[str b.np, str b.nn]) bT, Puk 78 [(obA a.val), (obA b.val)] (boA false)]) Tryz.func57 (by kernel_rfl) (by kernel_rfl) ⟨bin_ieq hk, bin_syeq hs, h1, trivial⟩
        | true =>
          rw [hv] at h1
          exact pwalk (an := [yT, yT, yT, .av (boA (sameD a.args b.args))]) (ls := []) (ps := [Bn .eql 3 (.tmp 6) (.tmp 8) (vi a.kind) (vi b.kind) bT, Bn .eql 32 (.tmp 12) (.tmp 14) (Value.agg #[str a.np, str a.nn]) (Value.agg #[str b.np, str b.nn]) bT, Puk 78 [(obA a.val), (obA b.val)] (boA true), Puk 79 [(.dt (.row (List.map Te.enc a.args))), (.dt (.row (List.map Te.enc b.args))), (.clf 57 [])] (boA (sameD a.args b.args))]) Tryz.func57 (by kernel_rfl) (by kernel_rfl) ⟨bin_ieq hk, bin_syeq hs, h1, p_eqFunc hw.len fun x hx y => ih x y (by have := Te.size_args hx; omega) (hw.kids hx), trivial⟩
theorem p_teq {a : Te} (h : a.Wf) (b : Te) : Puk 57 [teA a, teA b] (boA (sameD a b)) := p_tEq _ a b (Nat.le_refl _) h
end Go.Proofs.YtendgffijciehaaGreatDoor
/- Equality in the reference; membership in clauses, both texts. -/
namespace Go.Proofs.YtendgffijciehaaGreatDoor
open Go.RowKit

abbrev eaS (a b : List Te) (i : Int) : AS := ⟨stt 27 [(0, tesA a), (1, tesA b), (5, inA i)], []⟩
abbrev eaR (b : Bool) : AS := ⟨stt 27 [(4, boA b)], []⟩
abbrev eaN : AS := ⟨stt 27 [], []⟩
noncomputable abbrev eaB : Code := subC (bodyOf Tryz.f26) [1, 1, 0, 1, 0, 0]
theorem eaB1 {a b : List Te} {x y : Te} {i : Nat} (hx : a[i]? = some x) (hy : b[i]? = some y) (hl : a.length ≤ 9223372036854775807) (h : Puk 22 [teA x, teA y] (boA true)) : Tri EX eaB (eaS a b i) .nxt (eaS a b ((i + 1 : Nat) : Int)) :=
  twalk (c := subC (bodyOf Tryz.f26) [1,1,0,1,0,0]) (s := eaS a b i) (an := [.av (inA a.length), yT, .av (.pin ((encT x).map .dt)), .av (.pin ((encT y).map .dt)), yT, .av (inA ((i + 1 : Nat) : Int))]) (ls := []) (ft := [0,1,5]) (nb := 0) (e := .nxt) (s' := eaS a b ((i + 1 : Nat) : Int)) (ps := [(vi ↑a.length) = (vi (↑(List.map Te.enc a).length)), Bn .lss 3 (.tmp 11) (.tmp 13) (vi ↑i) (vi ↑a.length) bT, IxAt (List.map Te.enc a) ↑i 11 (encT x), IxAt (List.map Te.enc b) ↑i 11 (encT y), Puk 22 [(teA x), (teA y)] (boA true), Bn .add 3 (.tmp 15) (.const (vi 1)) (vi ↑i) (vi 1) (vi (↑(i + 1)))]) (by kernel_rfl)
    ⟨lenEncT _, bin_ilt (decide_eq_true (by have := (List.getElem?_eq_some_iff.1 hx).1; omega)), ix_te hx, ix_te hy, h, bin_iadd (by omega) (by omega) (by have := (List.getElem?_eq_some_iff.1 hx).1; omega), trivial⟩
theorem eaB2 {a b : List Te} {i : Nat} (hi : i = a.length) : Tri EX eaB (eaS a b i) (.out 0) eaN :=
  twalk (c := subC (bodyOf Tryz.f26) [1,1,0,1,0,0]) (s := eaS a b i) (an := [.av (inA a.length), yF]) (ls := []) (ft := []) (nb := 0) (e := .out 0) (s' := eaN) (ps := [(vi ↑a.length) = (vi (↑(List.map Te.enc a).length)), Bn .lss 3 (.tmp 11) (.tmp 13) (vi ↑i) (vi ↑a.length) bF]) (by kernel_rfl)
    ⟨lenEncT _, bin_ilt (decide_eq_false (by omega)), trivial⟩
theorem eaB3 {a b : List Te} {x y : Te} {i : Nat} (hx : a[i]? = some x) (hy : b[i]? = some y) (h : Puk 22 [teA x, teA y] (boA false)) : Tri EX eaB (eaS a b i) .ret (eaR false) :=
  twalk (c := subC (bodyOf Tryz.f26) [1,1,0,1,0,0]) (s := eaS a b i) (an := [.av (inA a.length), yT, .av (.pin ((encT x).map .dt)), .av (.pin ((encT y).map .dt)), yF]) (ls := []) (ft := [4]) (nb := 0) (e := .ret) (s' := eaR false) (ps := [(vi ↑a.length) = (vi (↑(List.map Te.enc a).length)), Bn .lss 3 (.tmp 11) (.tmp 13) (vi ↑i) (vi ↑a.length) bT, IxAt (List.map Te.enc a) ↑i 11 (encT x), IxAt (List.map Te.enc b) ↑i 11 (encT y), Puk 22 [(teA x), (teA y)] (boA false)]) (by kernel_rfl)
    ⟨lenEncT _, bin_ilt (decide_eq_true (by have := (List.getElem?_eq_some_iff.1 hx).1; omega)), ix_te hx, ix_te hy, h, trivial⟩
theorem p_eqAll' {a b : List Te} (hl : a.length ≤ 9223372036854775807) (h : ∀ x ∈ a, ∀ y, Puk 22 [teA x, teA y] (boA (sameD x y))) : Puk 26 [tesA a, tesA b] (boA (sameD a b)) := by
  by_cases hne : a.length = b.length
  · have loop : ∀ (s s' : List Te) (i : Nat), a.drop i = s → b.drop i = s' → i ≤ a.length → (sameD s s' = true → Lps EX eaB (eaS a b i) (.out 0) eaN) ∧ (sameD s s' = false → Lps EX eaB (eaS a b i) .ret (eaR false)) := by
      intro s
      induction s with
      | nil =>
        intro s' i hd hd' hi
        have e1 := congrArg List.length hd
        rw [List.length_drop, List.length_nil] at e1
        have e2 := congrArg List.length hd'
        rw [List.length_drop] at e2
        obtain rfl : s' = [] := List.eq_nil_of_length_eq_zero (by omega)
        exact ⟨fun _ => .stop (eaB2 (by omega)) (fun h => by cases h), fun h => by simp at h⟩
      | cons x s ih =>
        intro s' i hd hd' hi
        have hx : a[i]? = some x := by rw [← List.head?_drop, hd]; rfl
        have hlt := (List.getElem?_eq_some_iff.1 hx).1
        cases s' with
        | nil =>
          have e2 := congrArg List.length hd'
          rw [List.length_drop, List.length_nil] at e2
          omega
        | cons y s' =>
          have hy : b[i]? = some y := by rw [← List.head?_drop, hd']; rfl
          have hc := h x (List.mem_of_getElem? hx) y
          obtain ⟨k1, k2⟩ := ih s' (i + 1) (by rw [← List.drop_drop, hd]; rfl) (by rw [← List.drop_drop, hd']; rfl) (by omega)
          rw [Te.same_cons]
          cases hxy : sameD x y with
          | true =>
            rw [hxy] at hc
            rw [Bool.true_and]
            exact ⟨fun e => .more (eaB1 hx hy hl hc) (k1 e), fun e => .more (eaB1 hx hy hl hc) (k2 e)⟩
          | false =>
            rw [hxy] at hc
            exact ⟨fun e => by simp at e, fun _ => .stop (eaB3 hx hy hc) (fun h => by cases h)⟩
    obtain ⟨k1, k2⟩ := loop a b 0 rfl rfl (Nat.zero_le _)
    cases hab : sameD a b with
    | true => exact pwalk (an := [.av (inA a.length), .av (inA b.length), yF]) (ls := [.inv [0,1,5] 0 (.out 0) (eaN)]) (ps := [(vi ↑a.length) = (vi (↑(List.map Te.enc a).length)), (vi ↑b.length) = (vi (↑(List.map Te.enc b).length)), Bn .neq 3 (.tmp 7) (.tmp 9) (vi ↑a.length) (vi ↑b.length) bF, Tri EX (.loop (subC (bodyOf Tryz.f26) [1, 1, 0, 1, 0, 0])) (eaS a b 0) (.out 0) (eaN)]) Tryz.func26 (by kernel_rfl) (by kernel_rfl) ⟨lenEncT _, lenEncT _, bin_ine (by simp [hne]), (k1 hab).tri, trivial⟩
    | false => exact pwalk (an := [.av (inA a.length), .av (inA b.length), yF]) (ls := [.inv [0,1,5] 0 (.ret) (eaR false)]) (ps := [(vi ↑a.length) = (vi (↑(List.map Te.enc a).length)), (vi ↑b.length) = (vi (↑(List.map Te.enc b).length)), Bn .neq 3 (.tmp 7) (.tmp 9) (vi ↑a.length) (vi ↑b.length) bF, Tri EX (.loop (subC (bodyOf Tryz.f26) [1, 1, 0, 1, 0, 0])) (eaS a b 0) (.ret) (eaR false)]) Tryz.func26 (by kernel_rfl) (by kernel_rfl) ⟨lenEncT _, lenEncT _, bin_ine (by simp [hne]), (k2 hab).tri, trivial⟩
  · have e : sameD a b = false := decide_eq_false fun e => hne (congrArg List.length e)
    rw [e]
    exact pwalk (an := [.av (inA a.length), .av (inA b.length), yT]) (ls := []) (ps := [(vi ↑a.length) = (vi (↑(List.map Te.enc a).length)), (vi ↑b.length) = (vi (↑(List.map Te.enc b).length)), Bn .neq 3 (.tmp 7) (.tmp 9) (vi ↑a.length) (vi ↑b.length) bT]) Tryz.func26 (by kernel_rfl) (by kernel_rfl) ⟨lenEncT _, lenEncT _, bin_ine (by simp; omega), trivial⟩
theorem p_rEqT : ∀ (N : Nat) (a b : Te), a.size ≤ N → a.Wf → Puk 22 [teA a, teA b] (boA (sameD a b)) := by
  intro N
  induction N with
  | zero => intro a b h; have := Te.size_pos a; omega
  | succ N ih =>
    intro a b hN hw
    rw [Te.same_iff]
    cases hk : decide (a.kind = b.kind) with
    | false => exact pwalk (an := [yF]) (ls := []) (ps := [Bn .eql 3 (.tmp 6) (.tmp 8) (vi a.kind) (vi b.kind) bF]) Tryz.func22 (by kernel_rfl) (by kernel_rfl) ⟨bin_ieq hk, trivial⟩
    | true =>
      cases hs : decide (a.np = b.np) && decide (a.nn = b.nn) with
      | false => exact pwalk (an := [yT, yF]) (ls := []) (ps := [Bn .eql 3 (.tmp 6) (.tmp 8) (vi a.kind) (vi b.kind) bT, Bn .eql 32 (.tmp 12) (.tmp 14) (Value.agg #[str a.np, str a.nn]) (Value.agg #[str b.np, str b.nn]) bF]) Tryz.func22 (by kernel_rfl) (by kernel_rfl) ⟨bin_ieq hk, bin_syeq hs, trivial⟩
      | true =>
        have h1 := p_rEqO hw.val b.val
        cases hv : sameD a.val b.val with
        | false =>
          rw [hv] at h1
          exact pwalk (an := [yT, yT, yF]) (ls := []) (ps := [Bn .eql 3 (.tmp 6) (.tmp 8) (vi a.kind) (vi b.kind) bT, Bn .eql 32 (.tmp 12) (.tmp 14) (Value.agg #[str a.np, str a.nn]) (Value.agg #[str b.np, str b.nn]) bT, Puk 60 [(obA a.val), (obA b.val)] (boA false)]) Tryz.func22 (by kernel_rfl) (by kernel_rfl) ⟨bin_ieq hk, bin_syeq hs, h1, trivial⟩
        | true =>
          rw [hv] at h1
          exact pwalk (an := [yT, yT, yT, .av (boA (sameD a.args b.args))]) (ls := []) (ps := [Bn .eql 3 (.tmp 6) (.tmp 8) (vi a.kind) (vi b.kind) bT, Bn .eql 32 (.tmp 12) (.tmp 14) (Value.agg #[str a.np, str a.nn]) (Value.agg #[str b.np, str b.nn]) bT, Puk 60 [(obA a.val), (obA b.val)] (boA true), Puk 26 [(.dt (.row (List.map Te.enc a.args))), (.dt (.row (List.map Te.enc b.args)))] (boA (sameD a.args b.args))]) Tryz.func22 (by kernel_rfl) (by kernel_rfl) ⟨bin_ieq hk, bin_syeq hs, h1, p_eqAll' hw.len fun x hx y => ih x y (by have := Te.size_args hx; omega) (hw.kids hx), trivial⟩
theorem p_req {a : Te} (h : a.Wf) (b : Te) : Puk 22 [teA a, teA b] (boA (sameD a b)) := p_rEqT _ a b (Nat.le_refl _) h
theorem p_eqAll {a b : List Te} (hl : a.length ≤ 9223372036854775807) (h : ∀ x ∈ a, x.Wf) : Puk 26 [tesA a, tesA b] (boA (sameD a b)) := p_eqAll' hl fun x hx y => p_req (h x hx) y
/- the first element for which a function holds -/
abbrev ixS (c : List Te) (f : FuncId) (cs : List AV) (i : Int) : AS := ⟨stt 19 [(0, tesA c), (1, .clf f cs), (7, inA c.length), (8, inA i)], []⟩
abbrev ixR (i : Int) : AS := ⟨stt 19 [(4, inA i)], []⟩
abbrev ixN : AS := ⟨stt 19 [], []⟩
noncomputable abbrev ixB : Code := subC (bodyOf Tryz.f77) [1, 0, 1, 0, 0]
theorem ixB1 {c : List Te} {f : FuncId} {cs : List AV} {x : Te} {i : Nat} (hx : c[i]? = some x) (hl : c.length ≤ 9223372036854775807) (h : Puk f ([teA x] ++ cs) (boA false)) : Tri EX ixB (ixS c f cs i) .nxt (ixS c f cs ((i + 1 : Nat) : Int)) :=
  twalk (c := subC (bodyOf Tryz.f77) [1,0,1,0,0]) (s := ixS c f cs i) (an := [yT, .av (.pin ((encT x).map .dt)), yF, .av (inA ((i + 1 : Nat) : Int))]) (ls := []) (ft := [0,1,7,8]) (nb := 0) (e := .nxt) (s' := ixS c f cs ((i + 1 : Nat) : Int)) (ps := [Bn .lss 3 (.tmp 8) (.tmp 7) (vi ↑i) (vi ↑c.length) bT, IxAt (List.map Te.enc c) ↑i 11 (encT x), Puk f ([(teA x)] ++ cs) (boA false), Bn .add 3 (.tmp 8) (.const (vi 1)) (vi ↑i) (vi 1) (vi (↑(i + 1)))]) (by kernel_rfl)
    ⟨bin_ilt (decide_eq_true (by have := (List.getElem?_eq_some_iff.1 hx).1; omega)), ix_te hx, h, bin_iadd (by omega) (by omega) (by have := (List.getElem?_eq_some_iff.1 hx).1; omega), trivial⟩
theorem ixB2 {c : List Te} {f : FuncId} {cs : List AV} {i : Nat} (hi : i = c.length) : Tri EX ixB (ixS c f cs i) (.out 0) ixN :=
  twalk (c := subC (bodyOf Tryz.f77) [1,0,1,0,0]) (s := ixS c f cs i) (an := [yF]) (ls := []) (ft := []) (nb := 0) (e := .out 0) (s' := ixN) (ps := [Bn .lss 3 (.tmp 8) (.tmp 7) (vi ↑i) (vi ↑c.length) bF]) (by kernel_rfl)
    ⟨bin_ilt (decide_eq_false (by omega)), trivial⟩
theorem ixB3 {c : List Te} {f : FuncId} {cs : List AV} {x : Te} {i : Nat} (hx : c[i]? = some x) (h : Puk f ([teA x] ++ cs) (boA true)) : Tri EX ixB (ixS c f cs i) .ret (ixR i) :=
  twalk (c := subC (bodyOf Tryz.f77) [1,0,1,0,0]) (s := ixS c f cs i) (an := [yT, .av (.pin ((encT x).map .dt)), yT]) (ls := []) (ft := [4]) (nb := 0) (e := .ret) (s' := ixR i) (ps := [Bn .lss 3 (.tmp 8) (.tmp 7) (vi ↑i) (vi ↑c.length) bT, IxAt (List.map Te.enc c) ↑i 11 (encT x), Puk f ([(teA x)] ++ cs) (boA true)]) (by kernel_rfl)
    ⟨bin_ilt (decide_eq_true (by have := (List.getElem?_eq_some_iff.1 hx).1; omega)), ix_te hx, h, trivial⟩
theorem p_ixFunc {c : List Te} {f : FuncId} {cs : List AV} {p : Te → Bool} (hl : c.length ≤ 9223372036854775807) (h : ∀ x ∈ c, Puk f ([teA x] ++ cs) (boA (p x))) : ∃ k : Int, Puk 77 [tesA c, .clf f cs] (inA k) ∧ decide (0 ≤ k) = c.any p := by
  have loop : ∀ (s : List Te) (i : Nat), c.drop i = s → i ≤ c.length → (s.any p = true → ∃ j : Nat, Lps EX ixB (ixS c f cs i) .ret (ixR j)) ∧ (s.any p = false → Lps EX ixB (ixS c f cs i) (.out 0) ixN) := by
    intro s
    induction s with
    | nil =>
      intro i hd hi
      have e1 := congrArg List.length hd
      rw [List.length_drop, List.length_nil] at e1
      exact ⟨fun h => by simp at h, fun _ => .stop (ixB2 (by omega)) (fun h => by cases h)⟩
    | cons x s ih =>
      intro i hd hi
      have hx : c[i]? = some x := by rw [← List.head?_drop, hd]; rfl
      have hlt := (List.getElem?_eq_some_iff.1 hx).1
      have hc := h x (List.mem_of_getElem? hx)
      obtain ⟨k1, k2⟩ := ih (i + 1) (by rw [← List.drop_drop, hd]; rfl) (by omega)
      rw [List.any_cons]
      cases hp : p x with
      | true =>
        rw [hp] at hc
        exact ⟨fun _ => ⟨i, .stop (ixB3 hx hc) (fun h => by cases h)⟩, fun e => by simp at e⟩
      | false =>
        rw [hp] at hc
        rw [Bool.false_or]
        exact ⟨fun e => (k1 e).elim fun j hj => ⟨j, .more (ixB1 hx hl hc) hj⟩, fun e => .more (ixB1 hx hl hc) (k2 e)⟩
  obtain ⟨k1, k2⟩ := loop c 0 rfl (Nat.zero_le _)
  cases hp : c.any p with
  | true =>
    obtain ⟨j, hj⟩ := k1 hp
    exact ⟨j, pwalk (an := [.av (inA c.length)]) (ls := [.inv [0,1,7,8] 0 (.ret) (ixR j)]) (ps := [(vi ↑c.length) = (vi (↑(List.map Te.enc c).length)), Tri EX (.loop (subC (bodyOf Tryz.f77) [1, 0, 1, 0, 0])) (ixS c f cs 0) (.ret) (ixR j)]) Tryz.func77 (by kernel_rfl) (by kernel_rfl) ⟨lenEncT _, hj.tri, trivial⟩, decide_eq_true (by omega)⟩
  | false => exact ⟨-1, pwalk (an := [.av (inA c.length)]) (ls := [.inv [0,1,7,8] 0 (.out 0) (ixN)]) (ps := [(vi ↑c.length) = (vi (↑(List.map Te.enc c).length)), Tri EX (.loop (subC (bodyOf Tryz.f77) [1, 0, 1, 0, 0])) (ixS c f cs 0) (.out 0) (ixN)]) Tryz.func77 (by kernel_rfl) (by kernel_rfl) ⟨lenEncT _, (k2 hp).tri, trivial⟩, rfl⟩
theorem p_ctFunc {c : List Te} {f : FuncId} {cs : List AV} {p : Te → Bool} (hl : c.length ≤ 9223372036854775807) (h : ∀ x ∈ c, Puk f ([teA x] ++ cs) (boA (p x))) : Puk 53 [tesA c, .clf f cs] (boA (c.any p)) := by
  obtain ⟨k, h1, h2⟩ := p_ixFunc hl h
  rw [← h2]
  exact pwalk (an := [.av (inA k), .av (boA (decide (0 ≤ k)))]) (ls := []) (ps := [Puk 77 [(.dt (.row (List.map Te.enc c))), (.clf f cs)] (inA k), Bn .geq 3 (.tmp 7) (.const (vi 0)) (vi k) (vi 0) (Value.bool (decide (0 ≤ k)))]) Tryz.func53 (by kernel_rfl) (by kernel_rfl) ⟨h1, bin_ige rfl, trivial⟩
theorem p_cont1 {x : Te} (hx : x.Wf) (t : Te) : Puk 62 [teA x, .pin ((encT t).map .dt)] (boA (sameD x t)) := pwalk (an := [.av (boA (sameD x t))]) (ls := []) (ps := [Puk 57 [(teA x), (teA t)] (boA (sameD x t))]) Tryz.func62 (by kernel_rfl) (by kernel_rfl) ⟨p_teq hx t, trivial⟩
theorem any_mem {c : List Te} {t : Te} : c.any (fun x => sameD x t) = decide (t ∈ c) := by
  rw [Bool.eq_iff_iff, List.any_eq_true, decide_eq_true_iff]
  exact ⟨fun ⟨x, hx, e⟩ => (of_decide_eq_true e) ▸ hx, fun h => ⟨t, h, decide_eq_true rfl⟩⟩
/-- membership -/
theorem p_cont {c : List Te} (hl : c.length ≤ 9223372036854775807) (h : ∀ x ∈ c, x.Wf) (t : Te) : Puk 24 [tesA c, teA t] (boA (decide (t ∈ c))) :=
  pwalk (an := [.av (boA (decide (t ∈ c)))]) (ls := []) (ps := [Puk 53 [(.dt (.row (List.map Te.enc c))), (.clf 62 [(.pin ((encT t).map .dt))])] (boA (decide (t ∈ c)))]) Tryz.func24 (by kernel_rfl) (by kernel_rfl) ⟨(p_ctFunc (p := fun x => sameD x t) hl fun x hx => p_cont1 (h x hx) t).b any_mem, trivial⟩
abbrev rcS (c : List Te) (t : Te) (i : Int) : AS := ⟨stt 18 [(0, tesA c), (3, .ptr 0 0), (5, inA i)], [some (.cells ((encT t).map .dt))]⟩
abbrev rcR (t : Te) (b : Bool) : AS := ⟨stt 18 [(4, boA b)], [some (.cells ((encT t).map .dt))]⟩
abbrev rcN (t : Te) : AS := ⟨stt 18 [], [some (.cells ((encT t).map .dt))]⟩
noncomputable abbrev rcB : Code := subC (bodyOf Tryz.f25) [1, 0, 1, 0, 0]
theorem rcB1 {c : List Te} {t x : Te} {i : Nat} (hx : c[i]? = some x) (hl : c.length ≤ 9223372036854775807) (h : Puk 22 [teA x, teA t] (boA false)) : Tri EX rcB (rcS c t i) .nxt (rcS c t ((i + 1 : Nat) : Int)) :=
  twalk (c := subC (bodyOf Tryz.f25) [1,0,1,0,0]) (s := rcS c t i) (an := [.av (inA c.length), yT, .av (.pin ((encT x).map .dt)), yF, .av (inA ((i + 1 : Nat) : Int))]) (ls := []) (ft := [0,3,5]) (nb := 1) (e := .nxt) (s' := rcS c t ((i + 1 : Nat) : Int)) (ps := [(vi ↑c.length) = (vi (↑(List.map Te.enc c).length)), Bn .lss 3 (.tmp 6) (.tmp 8) (vi ↑i) (vi ↑c.length) bT, IxAt (List.map Te.enc c) ↑i 11 (encT x), Puk 22 [(teA x), (teA t)] (boA false), Bn .add 3 (.tmp 10) (.const (vi 1)) (vi ↑i) (vi 1) (vi (↑(i + 1)))]) (by kernel_rfl)
    ⟨lenEncT _, bin_ilt (decide_eq_true (by have := (List.getElem?_eq_some_iff.1 hx).1; omega)), ix_te hx, h, bin_iadd (by omega) (by omega) (by have := (List.getElem?_eq_some_iff.1 hx).1; omega), trivial⟩
theorem rcB2 {c : List Te} {t : Te} {i : Nat} (hi : i = c.length) : Tri EX rcB (rcS c t i) (.out 0) (rcN t) :=
  twalk (c := subC (bodyOf Tryz.f25) [1,0,1,0,0]) (s := rcS c t i) (an := [.av (inA c.length), yF]) (ls := []) (ft := []) (nb := 1) (e := .out 0) (s' := rcN t) (ps := [(vi ↑c.length) = (vi (↑(List.map Te.enc c).length)), Bn .lss 3 (.tmp 6) (.tmp 8) (vi ↑i) (vi ↑c.length) bF]) (by kernel_rfl)
    ⟨lenEncT _, bin_ilt (decide_eq_false (by omega)), trivial⟩
theorem rcB3 {c : List Te} {t x : Te} {i : Nat} (hx : c[i]? = some x) (h : Puk 22 [teA x, teA t] (boA true)) : Tri EX rcB (rcS c t i) .ret (rcR t true) :=
  twalk (c := subC (bodyOf Tryz.f25) [1,0,1,0,0]) (s := rcS c t i) (an := [.av (inA c.length), yT, .av (.pin ((encT x).map .dt)), yT]) (ls := []) (ft := [4]) (nb := 1) (e := .ret) (s' := rcR t true) (ps := [(vi ↑c.length) = (vi (↑(List.map Te.enc c).length)), Bn .lss 3 (.tmp 6) (.tmp 8) (vi ↑i) (vi ↑c.length) bT, IxAt (List.map Te.enc c) ↑i 11 (encT x), Puk 22 [(teA x), (teA t)] (boA true)]) (by kernel_rfl)
    ⟨lenEncT _, bin_ilt (decide_eq_true (by have := (List.getElem?_eq_some_iff.1 hx).1; omega)), ix_te hx, h, trivial⟩
theorem p_rcont {c : List Te} (hl : c.length ≤ 9223372036854775807) (h : ∀ x ∈ c, x.Wf) (t : Te) : Puk 25 [tesA c, teA t] (boA (decide (t ∈ c))) := by
  have loop : ∀ (s : List Te) (i : Nat), c.drop i = s → i ≤ c.length → (s.any (fun x => sameD x t) = true → Lps EX rcB (rcS c t i) .ret (rcR t true)) ∧ (s.any (fun x => sameD x t) = false → Lps EX rcB (rcS c t i) (.out 0) (rcN t)) := by
    intro s
    induction s with
    | nil =>
      intro i hd hi
      have e1 := congrArg List.length hd
      rw [List.length_drop, List.length_nil] at e1
      exact ⟨fun h => by simp at h, fun _ => .stop (rcB2 (by omega)) (fun h => by cases h)⟩
    | cons x s ih =>
      intro i hd hi
      have hx : c[i]? = some x := by rw [← List.head?_drop, hd]; rfl
      have hlt := (List.getElem?_eq_some_iff.1 hx).1
      have hc := p_req (h x (List.mem_of_getElem? hx)) t
      obtain ⟨k1, k2⟩ := ih (i + 1) (by rw [← List.drop_drop, hd]; rfl) (by omega)
      rw [List.any_cons]
      cases hp : sameD x t with
      | true =>
        rw [hp] at hc
        exact ⟨fun _ => .stop (rcB3 hx hc) (fun h => by cases h), fun e => by simp at e⟩
      | false =>
        rw [hp] at hc
        rw [Bool.false_or]
        exact ⟨fun e => .more (rcB1 hx hl hc) (k1 e), fun e => .more (rcB1 hx hl hc) (k2 e)⟩
  obtain ⟨k1, k2⟩ := loop c 0 rfl (Nat.zero_le _)
  rw [← any_mem]
  cases hp : c.any fun x => sameD x t with
  | true => exact pwalk (an := []) (ls := [.inv [0,3,5] 1 (.ret) (rcR t true)]) (ps := [Tri EX (.loop (subC (bodyOf Tryz.f25) [1, 0, 1, 0, 0])) (rcS c t 0) (.ret) (rcR t true)]) Tryz.func25 (by kernel_rfl) (by kernel_rfl) ⟨(k1 hp).tri, trivial⟩
  | false => exact pwalk (an := []) (ls := [.inv [0,3,5] 1 (.out 0) (rcN t)]) (ps := [Tri EX (.loop (subC (bodyOf Tryz.f25) [1, 0, 1, 0, 0])) (rcS c t 0) (.out 0) (rcN t)]) Tryz.func25 (by kernel_rfl) (by kernel_rfl) ⟨(k2 hp).tri, trivial⟩
end Go.Proofs.YtendgffijciehaaGreatDoor
