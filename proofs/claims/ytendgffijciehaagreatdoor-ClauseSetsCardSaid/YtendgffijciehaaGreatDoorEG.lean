/- Plain walks: regions with calls that are handed boxes. -/
import Derived.Test.YtendgffijciehaaGreatDoorEF
import Derived.Test.YtendgffijciehaaGreatDoorEB
import Derived.Test.YtendgffijciehaaGreatDoorEC
import Derived.Deep.RegionHeld3
namespace Go.Proofs.YtendgffijciehaaGreatDoor
open Go.RowKit

inductive AE where
  | nxt
  | out (id : Nat)
  | ret
/-- what is known throughout a call: of every world, and of the boxes that it was handed -/
structure HG (E : En) (X : Nat → Prop) (n0 : Nat) (w0 : World × Mm) : Prop where
  g : ∀ w, Bel X n0 w0.1 w → E.G w
  h : ∀ k, E.nh ≤ k → w0.2.m k = none ∧ w0.2.o k = none
/-- what is said of a loop: what is forgotten before it, how it ends, and in which state; or: its rounds are run -/
inductive LA where
  | inv (ft : List Nat) (nb : Nat) (e : AE) (s : AS)
  | run (n : Nat)
  | scl (id i : Nat) (js : List Nat) (r : AV) (xs : List (Option Bx))
def scHere (id : Nat) : List LA → Bool
  | .scl id' _ _ _ _ :: _ => Nat.beq id id'
  | _ => false
def scAt (id i : Nat) : List LA → Option (List Nat × AV × List (Option Bx) × List LA)
  | .scl id' i' js r xs :: ls => match Nat.beq id id' && Nat.beq i i' with
    | true => some (js, r, xs, ls)
    | false => none
  | _ => none
/-- the boxes behind a call -/
def afterL (bx : List (Option Bx)) (f : Nat → Option Bx) (js : List Nat) (xs : List (Option Bx)) : List (Option Bx) := (List.range (bx.length + (xs.length - js.length))).map fun k => afterB f js bx.length xs k
mutual
def flatA : AV → Bool
  | .dt _ => true
  | .nil => true
  | .agg cs => flatL cs
  | .tup cs => flatL cs
  | _ => false
def flatL : List AV → Bool
  | [] => true
  | c :: cs => flatA c && flatL cs
end
mutual
theorem flatA_ren {ρ : Nat → Nat} : ∀ (a : AV), flatA a = true → renA ρ a = a
  | .dt _, _ => rfl
  | .nil, _ => rfl
  | .agg cs, h => by rw [renA, flatL_ren cs h]
  | .tup cs, h => by rw [renA, flatL_ren cs h]
  | .ful _, h => by cases h
  | .own _ _, h => by cases h
  | .sl _ _, h => by cases h
  | .mapp _, h => by cases h
  | .ptr _ _, h => by cases h
  | .rptr _ _ _, h => by cases h
  | .gl _ _, h => by cases h
  | .pin _, h => by cases h
  | .clo _ _, h => by cases h
  | .clf _ _, h => by cases h
  | .un, h => by cases h
theorem flatL_ren {ρ : Nat → Nat} : ∀ (cs : List AV), flatL cs = true → renL ρ cs = cs
  | [], _ => rfl
  | c :: cs, h => by
    rw [flatL, Bool.and_eq_true] at h
    rw [renL, flatA_ren c h.1, flatL_ren cs h.2]
end
def allBuf : List (Option Bx) → Bool
  | [] => true
  | some (.buf _ _ _) :: xs => allBuf xs
  | _ :: _ => false
theorem allBuf_get : ∀ {xs : List (Option Bx)}, allBuf xs = true → ∀ i ρ, (lk xs i).map (renB ρ) = lk xs i
  | [], _, i, ρ => by simp [lk]
  | some (.buf e k es) :: xs, h, 0, ρ => rfl
  | some (.buf e k es) :: xs, h, i + 1, ρ => by
    have := allBuf_get (xs := xs) h i ρ
    simpa [lk] using this
/-- does the call leave buffers alone, and no new boxes? -/
def simpB (js : List Nat) (r : AV) (xs' : List (Option Bx)) : Bool := Nat.beq xs'.length js.length && (flatA r && allBuf xs')
def sfp (ops : Array Oper) (o : Oper) (s : AS) (js os : List Nat) (r : AV) (xs' : List (Option Bx)) : Fp := match simpB js r xs' with
  | true => ⟨o.looksAt ops, o.dst, js ++ os, true, false⟩
  | false => ⟨o.looksAt ops, o.dst, List.range (s.bx.length + (xs'.length - js.length)), true, true⟩
theorem giveBs_loc {js0 : List Nat} {bx bx' : Nat → Option Bx} : ∀ {js : List Nat} {r : List (Option Bx) × List Prop}, (∀ j ∈ js, bx j = bx' j) → giveBs js0 bx js = some r → giveBs js0 bx' js = some r
  | [], _, _, h => h
  | j :: js, r, hj, h => by
    unfold giveBs at h ⊢
    rw [← hj j (List.mem_cons_self ..)]
    split at h
    · rename_i x hx
      split at h
      · rename_i x' ps xs qs e1 e2
        have e3 := giveBs_loc (fun q hq => hj q (List.mem_cons_of_mem _ hq)) e2
        have e4 : giveB js0 bx' x = some (x', ps) := by
          cases x with
          | cells cs =>
            simp only [giveB] at e1 ⊢
            split at e1
            · rename_i ho hc
              have hl := loc_cv (js := js0) (kn := true) (bx := bx) (bx' := bx') (cs := cs) (fun b hb => by rw [ho] at hb; cases hb)
              rw [← hl.1, ← hl.2, ho, hc]
              exact e1
            · cases e1
          | _ => exact e1
        simp only [e4, e3]
        exact h
      · cases h
    · cases h
/-- a call that is handed the boxes js -/
def srun1 (E : En) (ops : Array Oper) (o : Oper) (s : AS) (js : List Nat) (r : AV) (xs' : List (Option Bx)) : Option (AS × Fp × List Prop) :=
  match (match o.dst with | some d => Nat.ble (d + 1) s.tm.length | none => true) && nodupB js && js.all (fun j => Nat.ble (j + 1) s.bx.length) with
  | false => none
  | true => match awant ops s.tmf o, o.op with
    | some true, .call ⟨.value x, args, _⟩ => match aev s.tmf x with
      | .clf f [] => match cvL js false s.bxf (args.toList.map (aev s.tmf)) with
        | some (args', ps) => match giveBs js (updB s.bxf (frzs s.bxf (obL js s.bxf (args.toList.map (aev s.tmf))))) js with
          | some (xs, qs) => some (⟨setT s.tm o.dst (renA (rho js s.bx.length) r), afterL s.bx (updB s.bxf (frzs s.bxf (obL js s.bxf (args.toList.map (aev s.tmf))))) js xs'⟩, sfp ops o s js (obL js s.bxf (args.toList.map (aev s.tmf))) r xs', SOK E.P E.G f args' xs r xs' :: (ps ++ qs))
          | none => none
        | none => none
      | _ => none
    | _, _ => none
theorem nodupB_ok : ∀ {js : List Nat}, nodupB js = true → js.Nodup
  | [], _ => .nil
  | j :: js, h => by
    unfold nodupB at h
    rw [Bool.and_eq_true] at h
    refine .cons (fun x hx e => ?_) (nodupB_ok h.2)
    subst e
    have := h.1
    simp [hx] at this
theorem lk_out {xs : List (Option Bx)} {i : Nat} (h : xs.length ≤ i) : lk xs i = none := by unfold lk; rw [List.getElem?_eq_none h]
theorem after_f {tm : List AV} {bx : List (Option Bx)} {f : Nat → Option Bx} {js : List Nat} {xs : List (Option Bx)} (hf : ∀ k, bx.length ≤ k → f k = none) (hj : ∀ j ∈ js, j < bx.length) : (AS.mk tm (afterL bx f js xs)).bxf = afterB f js bx.length xs := by
  funext k
  unfold AS.bxf afterL
  simp only [List.getElem?_map]
  rcases Nat.lt_or_ge k (bx.length + (xs.length - js.length)) with h | h
  · rw [List.getElem?_range h]
    rfl
  · rw [List.getElem?_eq_none (by rw [List.length_range]; exact h)]
    show none = _
    unfold afterB
    split
    · rename_i i hi
      have e := inv_some hi
      unfold rho at e
      split at e
      · rename_i j hj'
        have := hj j (List.mem_of_getElem? hj')
        omega
      · rename_i hno
        have := List.getElem?_eq_none_iff.1 hno
        rw [lk_out (by omega)]; rfl
    · exact (hf k (by omega)).symm
theorem frzs_out {f : Nat → Option Bx} {bs : List Nat} {k : Nat} (h : f k = none) : updB f (frzs f bs) k = none := by
  rw [updB_ne]
  · exact h
  · intro x hx
    have := (frzs_mem hx).2
    simp_all
def sops (E : En) (ops : Array Oper) (id : Nat) : List Oper → Nat → AS → List An → List LA → Option (AS × List Fp × List Prop × List An × List LA)
  | [], _, s, an, ls => some (s, [], [], an, ls)
  | o :: os, i, s, an, ls => match scAt id i ls with
    | some (js, r, xs', ls1) => match srun1 E ops o s js r xs' with
      | none => none
      | some (s1, f, ps) => match sops E ops id os (i + 1) s1 an ls1 with
        | none => none
        | some (s2, fs, qs, an2, ls2) => some (s2, f :: fs, ps ++ qs, an2, ls2)
    | none => match arun1 E ops o s an with
      | none => none
      | some (s1, f, ps, an1) => match sops E ops id os (i + 1) s1 an1 ls with
        | none => none
        | some (s2, fs, qs, an2, ls2) => some (s2, f :: fs, ps ++ qs, an2, ls2)
def sregion (E : En) (ops : Array Oper) (id : Nat) (draw : Bool) (s : AS) (an : List An) (ls : List LA) : Option (AS × List Prop × List An × List LA) :=
  match sops E ops id ops.toList 0 s an ls with
  | none => none
  | some (s', fs, ps, an', ls') => match !draw || (backAny ops && chkA [] fs (ancs ops.toList [])) with
    | true => some (s', ps, an', ls')
    | false => none
theorem srun1_stp {E : En} {ops : Array Oper} {o : Oper} {s s' : AS} {js : List Nat} {r : AV} {xs' : List (Option Bx)} {f : Fp} {ps : List Prop} (h : srun1 E ops o s js r xs' = some (s', f, ps)) (hp : AllP ps) :
    Stp E ops s.tm.length o s.tmf s.bxf s'.tmf s'.bxf f ∧ s'.tm.length = s.tm.length := by
  unfold srun1 at h
  split at h
  · cases h
  rename_i hd
  simp only [Bool.and_eq_true, List.all_eq_true] at hd
  obtain ⟨⟨hd, hn⟩, hj⟩ := hd
  have hd' : ∀ t, o.dst = some t → t < s.tm.length := fun t ht => by
    rw [ht] at hd
    have hd2 : Nat.ble (t + 1) s.tm.length = true := hd
    exact Nat.le_of_ble_eq_true hd2
  have hj : ∀ j ∈ js, j < s.bx.length := fun j h => by have := Nat.le_of_ble_eq_true (hj j h); omega
  have hn := nodupB_ok hn
  split at h
  · rename_i x args ts hw hop
    split at h
    · rename_i f hx
      split at h
      · rename_i args' ps1 hc
        split at h
        · rename_i xs qs hb
          cases h
          obtain ⟨hs, hp⟩ := hp
          obtain ⟨hp1, hp2⟩ := AllP_app hp
          have hout : ∀ k, s.bx.length ≤ k → s.bxf k = none := fun k hk => by unfold AS.bxf; rw [List.getElem?_eq_none hk]
          have haf := after_f (tm := setT s.tm o.dst (renA (rho js s.bx.length) r)) (bx := s.bx) (f := updB s.bxf (frzs s.bxf (obL js s.bxf (args.toList.map (aev s.tmf))))) (js := js) (xs := xs') (fun k hk => frzs_out (hout k hk)) hj
          cases hsim : simpB js r xs' with
          | true =>
            have hfp : sfp ops o s js (obL js s.bxf (args.toList.map (aev s.tmf))) r xs' = ⟨o.looksAt ops, o.dst, js ++ obL js s.bxf (args.toList.map (aev s.tmf)), true, false⟩ := by unfold sfp; rw [hsim]
            rw [hfp]
            unfold simpB at hsim
            simp only [Bool.and_eq_true] at hsim
            obtain ⟨hlen, hfl, hab⟩ := hsim
            have hlen := Nat.eq_of_beq_eq_true hlen
            have hkeys : ∀ b, b ∉ obL js s.bxf (args.toList.map (aev s.tmf)) → ∀ f : Nat → Option Bx, updB f (frzs s.bxf (obL js s.bxf (args.toList.map (aev s.tmf)))) b = f b := fun b hb f => updB_ne fun x hx => hb (frzs_mem hx).1
            have aft : ∀ (g : Nat → Option Bx) (K : Nat), (∀ j ∈ js, j < K) → ∀ b, afterB g js K xs' b = match ixOf b js 0 with | some i => lk xs' i | none => if K ≤ b then none else g b := fun g K hK b => by
              unfold afterB inv
              cases hi : ixOf b js 0 with
              | some i => exact allBuf_get hab i _
              | none =>
                simp only
                by_cases c : K ≤ b
                · rw [if_pos c, if_pos c]
                  simp only [lk_out (xs := xs') (i := js.length + (b - K)) (by omega), Option.map_none]
                · rw [if_neg c, if_neg c]
            refine ⟨⟨fun t ht => ht, rfl, hd', .inr (.inr (.inr ⟨r, ?_, fun b hb => ?_, ?_⟩))⟩, setT_len _ _ _⟩
            · rw [setT_f hd', flatA_ren _ hfl]
            · have hb' : b ∉ js ++ obL js s.bxf (args.toList.map (aev s.tmf)) := fun h => hb ⟨h, rfl⟩
              rw [List.mem_append] at hb'
              rw [haf, aft _ _ hj]
              cases hi : ixOf b js 0 with
              | some i =>
                have h2 := (ixOf_get hi).2
                exact absurd (.inl (List.mem_of_getElem? h2)) hb'
              | none =>
                simp only
                by_cases c : s.bx.length ≤ b
                · rw [if_pos c, hout b c]
                · rw [if_neg c, hkeys b fun h => hb' (.inr h)]
            · intro tmX bxX hrt hbt ⟨Kf, hKf⟩ X n0 w0 ok0 Q i a w K ho hG hL hK
              obtain ⟨M, hI⟩ := hL
              have hlook : ∀ t ∈ o.looksAt ops, tmX t = s.tmf t := hrt
              have hev : ∀ x ∈ o.op.operands.toList, aev tmX x = aev s.tmf x := by
                intro x hx
                cases x with
                | tmp t =>
                  refine hlook t ?_
                  unfold Oper.looksAt
                  exact List.mem_append_left _ (List.mem_filterMap.2 ⟨.tmp t, hx, rfl⟩)
                | _ => rfl
              have hwant : awant ops tmX o = awant ops s.tmf o := by
                unfold awant
                cases hg : o.guard with
                | none => rfl
                | some x =>
                  obtain ⟨g, b⟩ := x
                  simp only
                  cases hdd : (ops[g]?).bind (·.dst) with
                  | none => rfl
                  | some d =>
                    simp only
                    have : tmX d = s.tmf d := hlook d (by
                      unfold Oper.looksAt
                      refine List.mem_append_right _ ?_
                      rw [hg]
                      simp [hdd])
                    rw [this]
              have hxe : aev tmX x = .clf f [] := (hev x (by rw [hop]; simp [Op.operands, Call.operands])).trans hx
              have hae : args.toList.map (aev tmX) = args.toList.map (aev s.tmf) := List.map_congr_left fun y hy => hev y (by rw [hop]; simp [Op.operands, Call.operands]; right; simpa using hy)
              have hob : ∀ b ∈ obL js s.bxf (args.toList.map (aev s.tmf)), s.bxf b = bxX b := fun b hb => (hbt b (List.mem_append_right _ hb)).symm
              have hjb : ∀ b ∈ js, s.bxf b = bxX b := fun b hb => (hbt b (List.mem_append_left _ hb)).symm
              have hlc := loc_cv (kn := false) hob
              have hlf := loc_frz (kn := false) hob hc
              have hcX : cvL js false bxX (args.toList.map (aev tmX)) = some (args', ps1) := by rw [hae, ← hlc.1]; exact hc
              have hfX : frzs bxX (obL js bxX (args.toList.map (aev tmX))) = frzs s.bxf (obL js s.bxf (args.toList.map (aev s.tmf))) := by rw [hae, ← hlc.2, hlf]
              have hbX : giveBs js (updB bxX (frzs bxX (obL js bxX (args.toList.map (aev tmX))))) js = some (xs, qs) := by
                rw [hfX]
                exact giveBs_loc (fun j hj => updB_congr (hjb j hj)) hb
              have hnone : ∀ k, s.bx.length ≤ k → ∀ y, (k, y) ∉ frzs s.bxf (obL js s.bxf (args.toList.map (aev s.tmf))) := fun k hk y hy => by
                obtain ⟨_, x0, h1, _⟩ := frzs_mem hy
                rw [hout k hk] at h1
                cases h1
              unfold wpOp
              simp only [ho]
              rw [awant_ok hI (hwant.trans hw)]
              simp only [if_true]
              left
              refine Oper.wp_mono (fun a w hL' => hK a w ?_) (wp_scall (K := s.bx.length + Kf) hop hI hd' hG hxe hn (fun j h => by have := hj j h; omega) (fun k hk => by rw [hfX, updB_ne fun y hy => hnone k (by omega) y hy]; exact hKf k (by omega)) hcX hp1 hbX hp2 hs)
              · have e1 : renA (rho js (s.bx.length + Kf)) r = r := flatA_ren _ hfl
                rw [e1, hfX] at hL'
                have e2 : (fun b => if b ∈ js ++ obL js s.bxf (args.toList.map (aev s.tmf)) ∧ true = true then (AS.mk (setT s.tm o.dst (renA (rho js s.bx.length) r)) (afterL s.bx (updB s.bxf (frzs s.bxf (obL js s.bxf (args.toList.map (aev s.tmf))))) js xs')).bxf b else bxX b) = afterB (updB bxX (frzs s.bxf (obL js s.bxf (args.toList.map (aev s.tmf))))) js (s.bx.length + Kf) xs' := funext fun b => by
                  rw [haf, aft _ _ hj, aft _ _ (fun j h => by have := hj j h; omega)]
                  cases hi : ixOf b js 0 with
                  | some i =>
                    have h2 := (ixOf_get hi).2
                    rw [if_pos ⟨List.mem_append_left _ (List.mem_of_getElem? h2), rfl⟩]
                  | none =>
                    simp only
                    by_cases c : b ∈ js ++ obL js s.bxf (args.toList.map (aev s.tmf))
                    · rw [if_pos ⟨c, trivial⟩]
                      have ceq := hbt b c
                      by_cases c2 : s.bx.length ≤ b
                      · rw [if_pos c2]
                        split
                        · rfl
                        · rw [updB_congr ceq, frzs_out (hout b c2)]
                      · rw [if_neg c2, if_neg (by omega), updB_congr ceq]
                    · rw [if_neg fun h => c h.1]
                      by_cases c2 : s.bx.length + Kf ≤ b
                      · rw [if_pos c2]; exact hKf b (by omega)
                      · rw [if_neg c2, hkeys b fun h => c (List.mem_append_right _ h)]
                rw [e2]
                exact hL'
          | false =>
          have hfp : sfp ops o s js (obL js s.bxf (args.toList.map (aev s.tmf))) r xs' = ⟨o.looksAt ops, o.dst, List.range (s.bx.length + (xs'.length - js.length)), true, true⟩ := by unfold sfp; rw [hsim]
          rw [hfp]
          refine ⟨⟨fun t ht => ht, rfl, hd', .inr (.inr (.inl ⟨rfl, fun t ht => ?_, fun b hb => ?_, ?_⟩))⟩, setT_len _ _ _⟩
          · rw [setT_f hd']; exact updT_ne ht
          · have hb' : s.bx.length + (xs'.length - js.length) ≤ b := by
              rcases Nat.lt_or_ge b (s.bx.length + (xs'.length - js.length)) with h | h
              · exact absurd ⟨List.mem_range.2 h, rfl⟩ hb
              · exact h
            rw [hout b (by omega)]
            unfold AS.bxf afterL
            simp only [List.getElem?_map]
            rw [List.getElem?_eq_none (by rw [List.length_range]; exact hb')]
            rfl
          · intro X n0 w0 ok0 Q i a w K ho hG hL hK
            obtain ⟨M, hI⟩ := hL
            unfold wpOp
            simp only [ho]
            rw [awant_ok hI hw]
            simp only [if_true]
            left
            refine Oper.wp_mono (fun a w hL' => hK a w ?_) (wp_scall hop hI hd' hG hx hn hj (fun k hk => frzs_out (hout k hk)) hc hp1 hb hp2 hs)
            rw [haf, setT_f hd']
            exact hL'
        · cases h
      · cases h
    · cases h
  · cases h
theorem sops_run {E : En} {ops : Array Oper} {id : Nat} : ∀ {os : List Oper} {i : Nat} {s s' : AS} {an an' : List An} {ls ls' : List LA} {fs : List Fp} {ps : List Prop}, sops E ops id os i s an ls = some (s', fs, ps, an', ls') → AllP ps →
    s'.tm.length = s.tm.length ∧ fs.length = os.length ∧ ∃ (tmS : Nat → Nat → AV) (bxS : Nat → Nat → Option Bx), tmS 0 = s.tmf ∧ bxS 0 = s.bxf ∧ tmS os.length = s'.tmf ∧ bxS os.length = s'.bxf ∧ (∃ K, ∀ i, i ≤ os.length → ∀ k, K ≤ k → bxS i k = none) ∧
      ∀ i o f, os[i]? = some o → fs[i]? = some f → Stp E ops s.tm.length o (tmS i) (bxS i) (tmS (i + 1)) (bxS (i + 1)) f
  | [], _, s, s', an, an', ls, ls', fs, ps, h, _ => by
    cases h
    exact ⟨rfl, rfl, fun _ => s.tmf, fun _ => s.bxf, rfl, rfl, rfl, rfl, ⟨s.bx.length, fun _ _ k hk => bxf_out s hk⟩, fun i o f hi => by simp at hi⟩
  | o :: os, i, s, s', an, an', ls, ls', fs, ps, h, hp => by
    have step : ∀ {s1 : AS} {f : Fp} {fs2 : List Fp} {qs : List Prop} {an1 : List An} {ls1 : List LA}, Stp E ops s.tm.length o s.tmf s.bxf s1.tmf s1.bxf f → s1.tm.length = s.tm.length → sops E ops id os (i + 1) s1 an1 ls1 = some (s', fs2, qs, an', ls') → AllP qs →
        s'.tm.length = s.tm.length ∧ (f :: fs2).length = (o :: os).length ∧ ∃ (tmS : Nat → Nat → AV) (bxS : Nat → Nat → Option Bx), tmS 0 = s.tmf ∧ bxS 0 = s.bxf ∧ tmS (o :: os).length = s'.tmf ∧ bxS (o :: os).length = s'.bxf ∧ (∃ K, ∀ i, i ≤ (o :: os).length → ∀ k, K ≤ k → bxS i k = none) ∧
          ∀ i o' f', (o :: os)[i]? = some o' → (f :: fs2)[i]? = some f' → Stp E ops s.tm.length o' (tmS i) (bxS i) (tmS (i + 1)) (bxS (i + 1)) f' := by
      intro s1 f fs2 qs an1 ls1 hs hl h2 hp2
      obtain ⟨hl2, hf2, tmS, bxS, e1, e2, e3, e4, ⟨Kf, hKf⟩, hst⟩ := sops_run h2 hp2
      refine ⟨hl2.trans hl, by simp [hf2], fun i => match i with | 0 => s.tmf | i + 1 => tmS i, fun i => match i with | 0 => s.bxf | i + 1 => bxS i, rfl, rfl, e3, e4, fin_cons hKf, ?_⟩
      intro i o' f' hi hf
      cases i with
      | zero =>
        cases hi
        cases hf
        simp only [e1, e2]
        exact hs
      | succ i =>
        rw [hl] at hst
        exact hst i o' f' (by simpa using hi) (by simpa using hf)
    unfold sops at h
    split at h
    · split at h
      · cases h
      · rename_i s1 f ps1 h1
        split at h
        · cases h
        · rename_i h2
          cases h
          obtain ⟨hp1, hp2⟩ := AllP_app hp
          obtain ⟨hs, hl⟩ := srun1_stp h1 hp1
          exact step hs hl h2 hp2
    · split at h
      · cases h
      · rename_i s1 f ps1 an1 h1
        split at h
        · cases h
        · rename_i h2
          cases h
          obtain ⟨hp1, hp2⟩ := AllP_app hp
          obtain ⟨hs, hl⟩ := arun1_stp h1 hp1
          exact step hs hl h2 hp2
theorem sregion_wp {E : En} {ops : Array Oper} {draw : Bool} {id : Nat} {s s' : AS} {an an' : List An} {ls ls' : List LA} {ps : List Prop} (h : sregion E ops id draw s an ls = some (s', ps, an', ls')) (hp : AllP ps) :
    s'.tm.length = s.tm.length ∧ ∀ {X : Nat → Prop} {n0 : Nat} {w0 : World × Mm} {ok0 : Nat → Prop}, HG E X n0 w0 → ∀ {Q : Exit → Act → World → Prop} {a : Act} {w : World}, Left X n0 w0 ok0 s.tm.length s.tmf s.bxf a w → (∀ a w, Left X n0 w0 ok0 s.tm.length s'.tmf s'.bxf a w → Q .normal a w) → (Code.region id ops draw).wp E.P Q a w := by
  unfold sregion at h
  split at h
  · cases h
  rename_i s1 fs ps1 an1 ls1 hrun
  split at h
  case h_2 => cases h
  rename_i hchk
  cases h
  obtain ⟨hl, hfl, tmS, bxS, e1, e2, e3, e4, hfin, hst⟩ := sops_run hrun hp
  exact ⟨hl, fun hG _ _ _ h0 hQ => region_of hfl hchk hst hfin hG.g (by rw [e1, e2]; exact h0) (by rw [e3, e4]; exact hQ)⟩
end Go.Proofs.YtendgffijciehaaGreatDoor
/- Plain walks, second form: code, loops and functions. -/
namespace Go.Proofs.YtendgffijciehaaGreatDoor
open Go.RowKit

def AE.ex : AE → Exit
  | .nxt => .normal
  | .out id => .exit id
  | .ret => .ret
/-- from state to state through a piece of code -/
def Tri (E : En) (c : Code) (s : AS) (e : AE) (s' : AS) : Prop :=
  s'.tm.length = s.tm.length ∧ ∀ (X : Nat → Prop) (n0 : Nat) (w0 : World × Mm) (ok0 : Nat → Prop) (a : Act) (w : World), HG E X n0 w0 → Left X n0 w0 ok0 s.tm.length s.tmf s.bxf a w →
    c.wp E.P (fun x a' w' => x = e.ex ∧ Left X n0 w0 ok0 s.tm.length s'.tmf s'.bxf a' w') a w
mutual
def AV.ptl (n : Nat) : AV → Bool
  | .ptr b _ => Nat.ble (b + 1) n
  | .own b _ => Nat.ble (b + 1) n
  | .sl b _ => Nat.ble (b + 1) n
  | .mapp b => Nat.ble (b + 1) n
  | .rptr b _ _ => Nat.ble (b + 1) n
  | .agg cs => AV.ptls n cs
  | .tup cs => AV.ptls n cs
  | .clo _ cs => AV.ptls n cs
  | _ => true
def AV.ptls (n : Nat) : List AV → Bool
  | [] => true
  | c :: cs => AV.ptl n c && AV.ptls n cs
end
/-- the boxes before n alone -/
def Mm.cut (M : Mm) (n : Nat) : Mm := ⟨fun b => if b < n then M.m b else none, M.F, fun b => if b < n then M.o b else none⟩
theorem Mm.cut_m {M : Mm} {n b : Nat} (h : b < n) : (M.cut n).m b = M.m b := if_pos h
theorem Mm.cut_o {M : Mm} {n b : Nat} (h : b < n) : (M.cut n).o b = M.o b := if_pos h
theorem ble_lt {b n : Nat} (h : Nat.ble (b + 1) n = true) : b < n := by have := Nat.le_of_ble_eq_true h; omega
mutual
theorem RV.ptl {M : Mm} {w : World} {n : Nat} : ∀ (a : AV) (v : Value), a.ptl n = true → RV M w a v → RV (M.cut n) w a v
  | .dt _d, _v, _, h => h
  | .nil, _v, _, h => h
  | .ful _es, _v, _, h => h
  | .gl _ _, _v, _, h => h
  | .pin _ds, _v, _, h => h
  | .clf _ _, _v, _, h => h
  | .un, _v, _, _h => trivial
  | .ptr _b _off, _v, hp, ⟨g, h1, h2⟩ => ⟨g, (Mm.cut_m (ble_lt hp)).trans h1, h2⟩
  | .rptr _b _i _k, _v, hp, ⟨g, h1, h2⟩ => ⟨g, (Mm.cut_m (ble_lt hp)).trans h1, h2⟩
  | .sl _b _m, _v, hp, ⟨g, h1, h2⟩ => ⟨g, (Mm.cut_m (ble_lt hp)).trans h1, h2⟩
  | .mapp _b, _v, hp, ⟨g, h1, h2⟩ => ⟨g, (Mm.cut_m (ble_lt hp)).trans h1, h2⟩
  | .own _b _m, _v, hp, ⟨A, c, A', n', c', h1, h2, h3⟩ => ⟨A, c, A', n', c', h1, (Mm.cut_o (ble_lt hp)).trans h2, h3⟩
  | .agg cs, _v, hf, ⟨vs, h1, h2⟩ => ⟨vs, h1, RL.ptl cs vs hf h2⟩
  | .tup cs, _v, hf, ⟨vs, h1, h2⟩ => ⟨vs, h1, RL.ptl cs vs hf h2⟩
  | .clo _f cs, _v, hf, ⟨vs, h1, h2⟩ => ⟨vs, h1, RL.ptl cs vs hf h2⟩
theorem RL.ptl {M : Mm} {w : World} {n : Nat} : ∀ (cs : List AV) (vs : List Value), AV.ptls n cs = true → RL M w cs vs → RL (M.cut n) w cs vs
  | [], _, _, h => h
  | c :: cs, _, hf, ⟨u, us, h1, h2, h3⟩ => by
    have hf' : (c.ptl n && AV.ptls n cs) = true := hf
    rw [Bool.and_eq_true] at hf'
    exact ⟨u, us, h1, RV.ptl c u hf'.1 h2, RL.ptl cs us hf'.2 h3⟩
end
def fgt (ft : List Nat) : Nat → List AV → List AV
  | _, [] => []
  | i, x :: xs => (match ft.contains i with | true => x | false => .un) :: fgt ft (i + 1) xs
theorem fgt_len (ft : List Nat) : ∀ (i : Nat) (xs : List AV), (fgt ft i xs).length = xs.length
  | _, [] => rfl
  | i, x :: xs => by unfold fgt; rw [List.length_cons, List.length_cons, fgt_len ft (i + 1) xs]
theorem fgt_get (ft : List Nat) : ∀ (i : Nat) (xs : List AV) (t : Nat) (d : AV), (fgt ft i xs).getD t d = .un ∨ (fgt ft i xs).getD t d = xs.getD t d
  | _, [], t, d => .inr rfl
  | i, x :: xs, 0, d => by
    unfold fgt
    cases ft.contains i
    · exact .inl rfl
    · exact .inr rfl
  | i, x :: xs, t + 1, d => by
    have := fgt_get ft (i + 1) xs t d
    unfold fgt
    simpa using this
/-- the slots ft are kept, and the boxes before nb -/
def forget (ft : List Nat) (nb : Nat) (s : AS) : AS := ⟨fgt ft 0 s.tm, s.bx.take nb⟩
def mpAll (nb : Nat) : List (Value × AV) → Bool
  | [] => true
  | (_, a) :: r => a.ptl nb && mpAll nb r
def Bx.ptl (nb : Nat) : Option Bx → Bool
  | some (.cells cs) => AV.ptls nb cs
  | some (.mp kvs) => mpAll nb kvs
  | _ => true
def forgets (nb : Nat) (s : AS) : Bool := AV.ptls nb s.tm && s.bx.all (Bx.ptl nb)
theorem MK.ptl {M : Mm} {w : World} {n : Nat} : ∀ {kvs : List (Value × AV)} {es : List MapEntry}, mpAll n kvs = true → MK M w kvs es → MK (M.cut n) w kvs es
  | [], _, _, h => h
  | (k, a) :: kvs, _, hf, ⟨e, es', h1, h2, h3, h4⟩ => by
    have hf' : (a.ptl n && mpAll n kvs) = true := hf
    rw [Bool.and_eq_true] at hf'
    exact ⟨e, es', h1, h2, RV.ptl _ _ hf'.1 h3, MK.ptl hf'.2 h4⟩
theorem ptls_get {n : Nat} : ∀ {cs : List AV}, AV.ptls n cs = true → ∀ (t : Nat) (d : AV), d.ptl n = true → (cs.getD t d).ptl n = true
  | [], _, t, d, hd => by simpa using hd
  | c :: cs, h, t, d, hd => by
    have h' : (c.ptl n && AV.ptls n cs) = true := h
    rw [Bool.and_eq_true] at h'
    cases t with
    | zero => exact h'.1
    | succ t => simpa using ptls_get h'.2 t d hd
theorem Left.forget {E : En} {ft : List Nat} {nb : Nat} {s : AS} (hf : (Nat.ble E.nh nb && forgets nb (forget ft nb s)) = true) {X : Nat → Prop} {n0 : Nat} {w0 : World × Mm} {ok0 : Nat → Prop} {nt : Nat} {a : Act} {w : World} (hG : HG E X n0 w0) (h : Left X n0 w0 ok0 nt s.tmf s.bxf a w) : Left X n0 w0 ok0 nt (forget ft nb s).tmf (forget ft nb s).bxf a w := by
  obtain ⟨M, hI⟩ := h
  rw [Bool.and_eq_true] at hf
  obtain ⟨hnb, hf⟩ := hf
  have hnb := Nat.le_of_ble_eq_true hnb
  unfold forgets at hf
  rw [Bool.and_eq_true] at hf
  have hb : ∀ b x, (Go.Proofs.YtendgffijciehaaGreatDoor.forget ft nb s).bxf b = some x → b < nb ∧ s.bxf b = some x ∧ Bx.ptl nb (some x) = true := by
    intro b cs hbx
    unfold AS.bxf at hbx ⊢
    cases hx : (Go.Proofs.YtendgffijciehaaGreatDoor.forget ft nb s).bx[b]? with
    | none => rw [hx] at hbx; cases hbx
    | some x =>
      rw [hx] at hbx
      simp only at hbx
      subst hbx
      have h2 := List.all_eq_true.1 hf.2 _ (List.mem_of_getElem? hx)
      have h3 : (s.bx.take nb)[b]? = some (some cs) := hx
      rw [List.getElem?_take] at h3
      split at h3
      · rename_i hlt
        rw [h3]
        exact ⟨hlt, rfl, h2⟩
      · cases h3
  have hb2 : ∀ b, b < nb → (Go.Proofs.YtendgffijciehaaGreatDoor.forget ft nb s).bxf b = s.bxf b := by
    intro b h1
    unfold AS.bxf
    show (match (s.bx.take nb)[b]? with | some x => x | none => none) = _
    rw [List.getElem?_take, if_pos h1]
    all_goals rfl
  have hm : ∀ b g, (M.cut nb).m b = some g → b < nb ∧ M.m b = some g := fun b g h => by
    by_cases e : b < nb
    · rw [Mm.cut_m e] at h; exact ⟨e, h⟩
    · rw [show (M.cut nb).m b = none from if_neg e] at h; cases h
  have ho : ∀ b v, (M.cut nb).o b = some v → b < nb ∧ M.o b = some v := fun b g h => by
    by_cases e : b < nb
    · rw [Mm.cut_o e] at h; exact ⟨e, h⟩
    · rw [show (M.cut nb).o b = none from if_neg e] at h; cases h
  have hhx : ∀ b x q, b < nb → (Hx (M.cut nb) b x q ↔ Hx M b x q) := fun b x q h => Hx.eq (Mm.cut_m h) (Mm.cut_o h)
  refine ⟨M.cut nb, hI.below, hI.le, hI.defers, hI.size, ?_, ⟨?_, ?_, ?_, ?_, ?_, hI.sto.fz⟩, hI.src, ⟨hI.anc.below, hI.anc.keep, hI.anc.F, fun k q hq => ?_, fun b A n c e => ?_⟩⟩
  · intro t
    have hp := ptls_get hf.1 t (.dt (.val undef)) rfl
    have hp' : ((Go.Proofs.YtendgffijciehaaGreatDoor.forget ft nb s).tmf t).ptl nb = true := hp
    rcases fgt_get ft 0 s.tm t (.dt (.val undef)) with e | e
    · have e' : (Go.Proofs.YtendgffijciehaaGreatDoor.forget ft nb s).tmf t = .un := e
      rw [e']; trivial
    · have e' : (Go.Proofs.YtendgffijciehaaGreatDoor.forget ft nb s).tmf t = s.tmf t := e
      rw [e'] at hp' ⊢
      exact RV.ptl _ _ hp' (hI.tmps t)
  · intro b x hbx
    obtain ⟨h1, h2, h3⟩ := hb b x hbx
    have h4 := hI.sto.box b x h2
    cases x with
    | cells cs => obtain ⟨g, T, vs, e1, e2, e3⟩ := h4; exact ⟨g, T, vs, (Mm.cut_m h1).trans e1, e2, RL.ptl _ _ h3 e3⟩
    | buf e k es => obtain ⟨A, n, c, e1, e2⟩ := h4; exact ⟨A, n, c, (Mm.cut_o h1).trans e1, e2⟩
    | fzn es => obtain ⟨A, n, c, e1, e2⟩ := h4; exact ⟨A, n, c, (Mm.cut_o h1).trans e1, e2⟩
    | mp kvs => obtain ⟨g, es, clk, e1, e2, e3⟩ := h4; exact ⟨g, es, clk, (Mm.cut_m h1).trans e1, e2, MK.ptl h3 e3⟩
    | rws e k es => obtain ⟨g, vs, e1, e2⟩ := h4; exact ⟨g, vs, (Mm.cut_m h1).trans e1, e2⟩
    | fzr es => obtain ⟨g, e1, e2⟩ := h4; exact ⟨g, (Mm.cut_m h1).trans e1, e2⟩
    | cst cs => obtain ⟨g, vs, e1, e2⟩ := h4; exact ⟨g, vs, (Mm.cut_m h1).trans e1, e2⟩
  · intro b x q hbx hq
    obtain ⟨h1, h2, _⟩ := hb b x hbx
    exact hI.sto.dom b x q h2 ((hhx b x q h1).1 hq)
  · intro b b' x x' q h1 h2 h3 h4
    obtain ⟨g1, g2, _⟩ := hb b x h1
    obtain ⟨k1, k2, _⟩ := hb b' x' h2
    exact hI.sto.inj b b' x x' q g2 k2 ((hhx b x q g1).1 h3) ((hhx b' x' q k1).1 h4)
  · intro b q hbq
    obtain ⟨h1, h2⟩ := hm b q hbq
    obtain ⟨x, h3, h4⟩ := hI.sto.hm b q h2
    exact ⟨x, (hb2 b h1).trans h3, h4⟩
  · intro b v hbv
    obtain ⟨h1, h2⟩ := ho b v hbv
    rw [hb2 b h1]
    exact hI.sto.ho b v h2
  · rcases Nat.lt_or_ge k E.nh with h1 | h1
    · exact (Mm.cut_m (by omega)).trans (hI.anc.m k q hq)
    · rw [(hG.h k h1).1] at hq; cases hq
  · rcases Nat.lt_or_ge b E.nh with h1 | h1
    · obtain ⟨A', n', c', e1, e2⟩ := hI.anc.o b A n c e
      exact ⟨A', n', c', (Mm.cut_o (by omega)).trans e1, e2⟩
    · rw [(hG.h b h1).2] at e; cases e
/-- rounds of a loop -/
inductive Lp (E : En) (c : Code) : Nat → AS → AE → AS → Prop
  | stop {s s' : AS} {e : AE} : Tri E c s e s' → e ≠ .nxt → Lp E c 0 s e s'
  | more {n : Nat} {s s1 s' : AS} {e : AE} : Tri E c s .nxt s1 → Lp E c n s1 e s' → Lp E c (n + 1) s e s'
def Lps (E : En) (c : Code) (s : AS) (e : AE) (s' : AS) : Prop := ∃ n, Lp E c n s e s'
theorem Lps.stop {E : En} {c : Code} {s s' : AS} {e : AE} (h : Tri E c s e s') (he : e ≠ .nxt) : Lps E c s e s' := ⟨0, .stop h he⟩
theorem Lps.more {E : En} {c : Code} {s s1 s' : AS} {e : AE} (h : Tri E c s .nxt s1) (h' : Lps E c s1 e s') : Lps E c s e s' := h'.elim fun n hn => ⟨n + 1, .more h hn⟩
theorem Lp.len {E : En} {c : Code} {n : Nat} {s s' : AS} {e : AE} (h : Lp E c n s e s') : s'.tm.length = s.tm.length := by
  induction h with
  | stop h _ => exact h.1
  | more h _ ih => exact ih.trans h.1
theorem Lps.tri {E : En} {c : Code} {s s' : AS} {e : AE} (h : Lps E c s e s') : Tri E (.loop c) s e s' := by
  obtain ⟨n, h⟩ := h
  refine ⟨h.len, fun X n0 w0 ok0 a w hG hL => ?_⟩
  have hlen := h.len
  refine wp_loop_ghost (fun k a w => ∃ s1, Lp E c k s1 e s' ∧ s1.tm.length = s.tm.length ∧ Left X n0 w0 ok0 s.tm.length s1.tmf s1.bxf a w) n ⟨s, h, rfl, hL⟩ ?_
  rintro k a w ⟨s1, h1, hl, hL1⟩
  cases h1 with
  | stop h2 he =>
    rw [← hl] at hL1
    refine wp_mono (h2.2 X n0 w0 ok0 a w hG hL1) ?_
    rintro x a' w' ⟨rfl, hL'⟩
    rw [hl] at hL'
    cases e with
    | nxt => exact absurd rfl he
    | out i => exact ⟨rfl, hL'⟩
    | ret => exact ⟨rfl, hL'⟩
  | more h2 h3 =>
    rename_i k' s2
    have hl2 := h2.1
    rw [← hl] at hL1
    refine wp_mono (h2.2 X n0 w0 ok0 a w hG hL1) ?_
    rintro x a' w' ⟨rfl, hL'⟩
    rw [hl] at hL'
    exact ⟨_, Nat.lt_succ_self _, s2, h3, hl2.trans hl, hL'⟩
def aiter (step : AS → List An → List LA → Option (AE × AS × List Prop × List An × List LA)) : Nat → AS → List An → List LA → Option (AE × AS × List Prop × List An × List LA)
  | 0, _, _, _ => none
  | n + 1, s, an, ls => match step s an ls with
    | some (.nxt, s1, ps, an1, ls1) => match aiter step n s1 an1 ls1 with
      | some (e, s2, qs, an2, ls2) => some (e, s2, ps ++ qs, an2, ls2)
      | none => none
    | r => r
def acode (E : En) : Code → AS → List An → List LA → Option (AE × AS × List Prop × List An × List LA)
  | .skip, s, an, ls => some (.nxt, s, [], an, ls)
  | .label _, s, an, ls => some (.nxt, s, [], an, ls)
  | .region id ops draw, s, an, ls => match scHere id ls with
    | true => match sregion E ops id draw s an ls with
      | none => none
      | some (s', ps, an', ls') => some (.nxt, s', ps, an', ls')
    | false => match aregion E ops draw s an with
      | none => none
      | some (s', ps, an') => some (.nxt, s', ps, an', ls)
  | .seq x y, s, an, ls => match acode E x s an ls with
    | some (.nxt, s1, ps, an1, ls1) => match acode E y s1 an1 ls1 with
      | some (e, s2, qs, an2, ls2) => some (e, s2, ps ++ qs, an2, ls2)
      | none => none
    | r => r
  | .cond c x y, s, an, ls => match aev s.tmf c with
    | .dt (.val (.bool true)) => acode E x s an ls
    | .dt (.val (.bool false)) => acode E y s an ls
    | _ => none
  | .block id b, s, an, ls => match acode E b s an ls with
    | some (.out i, s', ps, an', ls') => match Nat.beq i id with
      | true => some (.nxt, s', ps, an', ls')
      | false => some (.out i, s', ps, an', ls')
    | r => r
  | .scope b, s, an, ls => acode E b s an ls
  | .loop b, s, an, ls => match ls with
    | .inv ft nb e s' :: ls => match (Nat.ble E.nh nb && forgets nb (forget ft nb s)) with
      | true => some (e, s', [Tri E (.loop b) (forget ft nb s) e s'], an, ls)
      | false => none
    | .run n :: ls => aiter (fun s an ls => acode E b s an ls) n s an ls
    | ls => aiter (fun s an ls => acode E b s an ls) 4000 s an ls
  | .exit id, s, an, ls => some (.out id, s, [], an, ls)
  | .ret, s, an, ls => some (.ret, s, [], an, ls)
  | _, _, _, _ => none
theorem acode_sound {E : En} : ∀ {c : Code} {s s' : AS} {an an' : List An} {ls ls' : List LA} {e : AE} {ps : List Prop}, acode E c s an ls = some (e, s', ps, an', ls') → AllP ps → Tri E c s e s' := by
  intro c
  induction c with
  | skip => intro s s' an an' ls ls' e ps h _; cases h; exact ⟨rfl, fun X n0 w0 ok0 a w _ hL => wp_skip ⟨rfl, hL⟩⟩
  | label l => intro s s' an an' ls ls' e ps h _; cases h; exact ⟨rfl, fun X n0 w0 ok0 a w _ hL => wp_label ⟨rfl, hL⟩⟩
  | region id ops draw =>
    intro s s' an an' ls ls' e ps h hp
    simp only [acode] at h
    split at h
    · split at h
      · cases h
      · rename_i s1 ps1 an1 ls1 hr
        cases h
        obtain ⟨hl, hw⟩ := sregion_wp hr hp
        exact ⟨hl, fun X n0 w0 ok0 a w hG hL => hw hG hL fun a w hL' => ⟨rfl, hL'⟩⟩
    split at h
    · cases h
    · rename_i s1 ps1 an1 hr
      cases h
      refine ⟨?_, fun X n0 w0 ok0 a w hG hL => aregion_sound hr hp hG.g hL fun a w hL' => ⟨rfl, hL'⟩⟩
      unfold aregion at hr
      split at hr
      · cases hr
      · rename_i h1
        split at hr
        · cases hr; exact (aops_run h1 hp).1
        · cases hr
  | seq x y ihx ihy =>
    intro s s' an an' ls ls' e ps h hp
    simp only [acode] at h
    split at h
    · rename_i s1 ps1 an1 ls1 hx
      split at h
      · rename_i e2 s2 qs an2 ls2 hy
        cases h
        obtain ⟨hp1, hp2⟩ := AllP_app hp
        obtain ⟨l1, t1⟩ := ihx hx hp1
        obtain ⟨l2, t2⟩ := ihy hy hp2
        refine ⟨l2.trans l1, fun X n0 w0 ok0 a w hG hL => wp_seq (wp_mono (t1 X n0 w0 ok0 a w hG hL) ?_)⟩
        rintro x' a' w' ⟨rfl, hL'⟩
        rw [← l1] at hL'
        have := t2 X n0 w0 ok0 a' w' hG hL'
        rw [l1] at this
        exact this
      · cases h
    · rename_i hne
      obtain ⟨l1, t1⟩ := ihx h hp
      refine ⟨l1, fun X n0 w0 ok0 a w hG hL => wp_seq (wp_mono (t1 X n0 w0 ok0 a w hG hL) ?_)⟩
      rintro x' a' w' ⟨rfl, hL'⟩
      cases e with
      | nxt => exact absurd h (hne _ _ _ _)
      | out i => exact ⟨rfl, hL'⟩
      | ret => exact ⟨rfl, hL'⟩
  | cond c x y ihx ihy =>
    intro s s' an an' ls ls' e ps h hp
    simp only [acode] at h
    split at h
    · rename_i hc
      obtain ⟨l1, t1⟩ := ihx h hp
      refine ⟨l1, fun X n0 w0 ok0 a w hG hL => ?_⟩
      obtain ⟨M, hI⟩ := hL
      have hv := hI.ev c
      rw [hc] at hv
      exact wp_cond_true (Rd.val_eq hv) (t1 X n0 w0 ok0 a w hG ⟨M, hI⟩)
    · rename_i hc
      obtain ⟨l1, t1⟩ := ihy h hp
      refine ⟨l1, fun X n0 w0 ok0 a w hG hL => ?_⟩
      obtain ⟨M, hI⟩ := hL
      have hv := hI.ev c
      rw [hc] at hv
      exact wp_cond_false (Rd.val_eq hv) (t1 X n0 w0 ok0 a w hG ⟨M, hI⟩)
    · cases h
  | block id b ih =>
    intro s s' an an' ls ls' e ps h hp
    simp only [acode] at h
    split at h
    · rename_i i s1 ps1 an1 ls1 hb
      split at h
      · rename_i hi
        have hi' := Nat.eq_of_beq_eq_true hi
        cases h
        obtain ⟨l1, t1⟩ := ih hb hp
        refine ⟨l1, fun X n0 w0 ok0 a w hG hL => wp_block (wp_mono (t1 X n0 w0 ok0 a w hG hL) ?_)⟩
        rintro x' a' w' ⟨rfl, hL'⟩
        show if i = id then _ else _
        rw [if_pos hi']
        exact ⟨rfl, hL'⟩
      · rename_i hi
        cases h
        obtain ⟨l1, t1⟩ := ih hb hp
        refine ⟨l1, fun X n0 w0 ok0 a w hG hL => wp_block (wp_mono (t1 X n0 w0 ok0 a w hG hL) ?_)⟩
        rintro x' a' w' ⟨rfl, hL'⟩
        show if i = id then _ else _
        rw [if_neg (fun e => by rw [e, Nat.beq_refl] at hi; cases hi)]
        exact ⟨rfl, hL'⟩
    · rename_i hne
      obtain ⟨l1, t1⟩ := ih h hp
      refine ⟨l1, fun X n0 w0 ok0 a w hG hL => wp_block (wp_mono (t1 X n0 w0 ok0 a w hG hL) ?_)⟩
      rintro x' a' w' ⟨rfl, hL'⟩
      cases e with
      | nxt => exact ⟨rfl, hL'⟩
      | out i => exact absurd h (hne _ _ _ _ _)
      | ret => exact ⟨rfl, hL'⟩
  | scope b ih =>
    intro s s' an an' ls ls' e ps h hp
    simp only [acode] at h
    obtain ⟨l1, t1⟩ := ih h hp
    refine ⟨l1, fun X n0 w0 ok0 a w hG hL => wp_scope_straight (wp_mono (t1 X n0 w0 ok0 a w hG hL) ?_)⟩
    rintro x' a' w' ⟨rfl, hL'⟩
    cases e <;> exact ⟨rfl, hL'⟩
  | loop b ih =>
    intro s s' an an' ls ls' e ps h hp
    have rounds : ∀ (n : Nat) {s s' : AS} {an an' : List An} {ls ls' : List LA} {e : AE} {ps : List Prop}, aiter (fun s an ls => acode E b s an ls) n s an ls = some (e, s', ps, an', ls') → AllP ps → Lps E b s e s' := by
      intro n
      induction n with
      | zero => intro s s' an an' ls ls' e ps h _; cases h
      | succ n ihn =>
        intro s s' an an' ls ls' e ps h hp
        simp only [aiter] at h
        split at h
        · rename_i s1 ps1 an1 ls1 hx
          split at h
          · rename_i e2 s2 qs an2 ls2 hy
            cases h
            obtain ⟨hp1, hp2⟩ := AllP_app hp
            exact .more (ih hx hp1) (ihn hy hp2)
          · cases h
        · rename_i hne
          exact .stop (ih h hp) fun he => by subst he; exact hne _ _ _ _ h
    simp only [acode] at h
    split at h
    · rename_i ft nb e1 s1 ls1
      split at h
      · rename_i hf
        cases h
        obtain ⟨l1, t1⟩ := hp.1
        have hlen : (forget ft nb s).tm.length = s.tm.length := fgt_len _ _ _
        refine ⟨l1.trans hlen, fun X n0 w0 ok0 a w hG hL => ?_⟩
        have := t1 X n0 w0 ok0 a w hG (by rw [hlen]; exact Left.forget hf hG hL)
        rw [hlen] at this
        exact this
      · cases h
    · exact (rounds _ h hp).tri
    · exact (rounds _ h hp).tri
  | exit id => intro s s' an an' ls ls' e ps h _; cases h; exact ⟨rfl, fun X n0 w0 ok0 a w _ hL => wp_exit ⟨rfl, hL⟩⟩
  | ret => intro s s' an an' ls ls' e ps h _; cases h; exact ⟨rfl, fun X n0 w0 ok0 a w _ hL => wp_ret ⟨rfl, hL⟩⟩
  | goto l => intro s s' an an' ls ls' e ps h _; cases h
  | refuse l => intro s s' an an' ls ls' e ps h _; cases h
  | rangeFunc f p x y ihx ihy => intro s s' an an' ls ls' e ps h _; cases h
def ares (P : Program) (s : AS) : List ResultVar → Option (List AV)
  | [] => some []
  | .tmp t :: rs => match ares P s rs with
    | some cs => some (s.tmf t :: cs)
    | none => none
  | .cell x t :: rs => match s.tmf x, asz P t, aag P t, ares P s rs with
    | .ptr b off, some n, some ag, some cs => match s.bxf b with
      | some (.cells c0) => match rowAt c0 off n ag with
        | some r => some (r :: cs)
        | none => none
      | _ => none
    | _, _, _, _ => none
def aret : List AV → AV
  | [x] => x
  | xs => .tup xs
def resOf (tmps : Array Value) : ResultVar → Sem Value
  | .tmp t => pure (tmps.getD t undef)
  | .cell a t => do loadVar t (← asAddr (tmps.getD a undef))
section
variable {P : Program} {X : Nat → Prop} {n0 : Nat} {w0 : World × Mm} {ok0 : Nat → Prop} {M : Mm} {nt : Nat} {a : Act} {w : World}
theorem ares_run {s : AS} (hI : Inv X n0 w0 ok0 M nt s.tmf s.bxf a w) : ∀ {rs : List ResultVar} {cs : List AV}, ares P s rs = some cs → ∃ vs, (rs.mapM (resOf a.tmps)).run P w = .ok vs w ∧ RL M w cs vs
  | [], cs, h => by cases h; exact ⟨[], rfl, rfl⟩
  | .tmp t :: rs, cs, h => by
    unfold ares at h
    split at h
    · rename_i cs' h'
      cases h
      obtain ⟨vs, h1, h2⟩ := ares_run hI h'
      refine ⟨a.tmps.getD t undef :: vs, ?_, _, vs, rfl, hI.tmps t, h2⟩
      rw [List.mapM_cons]
      simp only [resOf, Sem.run_bind, Sem.run_pure, Result.andThen, h1]
    · cases h
  | .cell x t :: rs, cs, h => by
    unfold ares at h
    split at h
    · rename_i b off n ag cs' hx hn ha h'
      split at h
      · rename_i c0 hb
        split at h
        · rename_i r hr
          cases h
          obtain ⟨vs, h1, h2⟩ := ares_run hI h'
          have hv := hI.tmps x
          rw [hx] at hv
          obtain ⟨g, hg, hv⟩ := hv
          obtain ⟨g', T, us, e1, e2, e3⟩ := hI.sto.box b _ hb
          rw [hg] at e1
          cases e1
          obtain ⟨u, hu1, hu2⟩ := run_load (P := P) (g := g) (q := 0) hn ha (fun j u hj => by rw [Nat.zero_add, e2.cell]; simpa using hj) e3 hr
          rw [Nat.zero_add] at hu1
          refine ⟨u :: vs, ?_, u, vs, rfl, hu2, h2⟩
          rw [List.mapM_cons]
          have hu1' : (resOf a.tmps (.cell x t)).run P w = .ok u w := by
            simp only [resOf, hv, asAddr, Sem.run_bind, Sem.run_pure, Result.andThen, hu1]
          simp only [Sem.run_bind, hu1', Sem.run_pure, Result.andThen, h1]
        · cases h
      · cases h
    · cases h
theorem results_run {fn : Func} {tmps : Array Value} {vs : List Value} (h : (fn.results.toList.mapM (resOf tmps)).run P w = .ok vs w) : (results fn tmps).run P w = .ok (if h : vs.length = 1 then vs[0] else .tuple vs.toArray) w := by
  have e : results fn tmps = (do let vs ← fn.results.mapM (resOf tmps); pure (if h : vs.size = 1 then vs[0] else .tuple vs)) := by
    unfold results
    congr 1
  rw [e, Array.mapM_eq_mapM_toList]
  simp only [Sem.run_bind, Sem.run_map, h, Result.andThen, Sem.run_pure]
  by_cases h1 : vs.length = 1
  · simp [h1]
  · simp [h1]
end
def afun (E : En) (fn : Func) (c : Code) (args : List AV) (an : List An) (ls : List LA) : Option (AV × List Prop) :=
  match acode E c ⟨args ++ List.replicate (fn.ntmps - args.length) (.dt (.val undef)), []⟩ an ls with
  | some (.out _, _) => none
  | none => none
  | some (_, s, ps, _, _) => match ares E.P s fn.results.toList with
    | some cs => match cvL [] false s.bxf cs with
      | some (cs', qs) => some (aret cs', ps ++ qs)
      | none => none
    | none => none
def afunB (E : En) (fn : Func) (args : List AV) (an : List An) (ls : List LA) : Option (AV × List Prop) := match fn.body with
  | some c => afun E fn c args an ls
  | none => none
theorem aret_rv {M : Mm} {w : World} {cs : List AV} {vs : List Value} (h : RL M w cs vs) : RV M w (aret cs) (if h : vs.length = 1 then vs[0] else .tuple vs.toArray) := by
  have hl := h.len
  match cs, h with
  | [], h =>
    rw [show vs = [] from h]
    exact ⟨[], rfl, rfl⟩
  | [c], ⟨u, us, e, h1, h2⟩ =>
    rw [show us = [] from h2] at e
    subst e
    exact h1
  | c :: c' :: cs, h =>
    simp only [List.length_cons] at hl
    rw [dif_neg (by omega)]
    exact ⟨vs, rfl, h⟩
theorem walk {E : En} (hG : ∀ w w', E.G w → Below w.heap.size w w' → E.G w') {f : FuncId} {fn : Func} {c : Code} (hf : E.P.funcs[f]? = some fn) (hb : fn.body = some c) (hn : (fn.name == "runtime.NumGoroutine") = false)
    {args : List AV} (an : List An) (ls : List LA) {r : AV} {ps : List Prop} (h : afun E fn c args an ls = some (r, ps)) (hp : AllP ps) : PureOK E.P E.G f args r := by
  refine ⟨⟨fn, hf, by rw [hb]; rfl, hn⟩, fun ok w vs hw hargs => ?_⟩
  unfold afun at h
  have key : ∃ e s cs cs' an' ls' ps1 qs, acode E c ⟨args ++ List.replicate (fn.ntmps - args.length) (.dt (.val undef)), []⟩ an ls = some (e, s, ps1, an', ls') ∧ (∀ i, e ≠ .out i) ∧ ares E.P s fn.results.toList = some cs ∧ cvL [] false s.bxf cs = some (cs', qs) ∧ r = aret cs' ∧ ps = ps1 ++ qs := by
    split at h
    · cases h
    · cases h
    · rename_i e s ps' an' ls' hne hc
      split at h
      · rename_i cs hcs
        split at h
        · rename_i cs' qs hcv
          cases h
          exact ⟨e, s, cs, cs', an', ls', ps', qs, hc, fun i he => by subst he; exact hne _ rfl, hcs, hcv, rfl, rfl⟩
        · cases h
      · cases h
  obtain ⟨e, s, cs, cs', an', ls', ps1, qs, hc, hne, hcs, hcv, rfl, rfl⟩ := key
  obtain ⟨hp1, hp2⟩ := AllP_app hp
  obtain ⟨hlen, htri⟩ := acode_sound hc hp1
  have hal := hargs.len
  refine calls_of_wp hf hb (wp_mono (htri (fun _ => False) w.heap.size (w, M0 fun b => ok b ∧ b < w.heap.size) ok _ w ⟨fun w' hb => hG w w' hw hb.below, fun _ _ => ⟨rfl, rfl⟩⟩ ⟨M0 fun b => ok b ∧ b < w.heap.size, ?_⟩) ?_)
  · have nobx : ∀ b x, (AS.mk (args ++ List.replicate (fn.ntmps - args.length) (.dt (.val undef))) []).bxf b ≠ some x := fun b x h => by simp [AS.bxf] at h
    refine ⟨Bel.refl _ _ _, Nat.le_refl _, rfl, ?_, ?_, ⟨fun b x h => absurd h (nobx b x), fun b x _ h => absurd h (nobx b x), fun b _ x _ _ h => absurd h (nobx b x), (fun b g h => by cases h), (fun b v h => by cases h), fun b hb => hb.2⟩, fun b hb _ => .inl hb.1, Go1.refl _ _ _ _⟩
    · simp [hal]
    · intro t
      have hargs' : RL (M0 fun b => ok b ∧ b < w.heap.size) w args vs := RL.flatter (fun b hb hl => ⟨hb, hl⟩) hargs
      by_cases ht : t < args.length
      · obtain ⟨u, hu1, hu2⟩ := hargs'.get (i := t) (c := args[t]) (List.getElem?_eq_getElem ht)
        have e1 : (AS.mk (args ++ List.replicate (fn.ntmps - args.length) (.dt (.val undef))) []).tmf t = args[t] := by
          unfold AS.tmf
          simp [List.getElem?_append_left ht, ht]
        have e2 : (vs.toArray ++ Array.replicate (fn.ntmps - vs.toArray.size) undef).getD t undef = u := by
          have ht' : t < vs.length := by omega
          simp only [Array.getD_eq_getD_getElem?]
          rw [Array.getElem?_append_left (by simpa using ht')]
          simp [hu1]
        rw [e1, e2]
        exact hu2
      · have e1 : (AS.mk (args ++ List.replicate (fn.ntmps - args.length) (.dt (.val undef))) []).tmf t = .dt (.val undef) := by
          unfold AS.tmf
          rw [List.getD_eq_getElem?_getD, List.getElem?_append_right (by omega), List.getElem?_replicate]
          split <;> rfl
        have e2 : (vs.toArray ++ Array.replicate (fn.ntmps - vs.toArray.size) undef).getD t undef = undef := by
          simp only [Array.getD_eq_getD_getElem?]
          rw [Array.getElem?_append_right (by simp; omega), Array.getElem?_replicate]
          split <;> rfl
        rw [e1, e2]
        exact rv_undef
  · rintro x a' w' ⟨rfl, M, hI⟩
    obtain ⟨us, h1, h2⟩ := ares_run hI hcs
    obtain ⟨M1, hI1, h3, _⟩ := hI.hand hcv hp2 h2
    have hR : ∃ v, (results fn a'.tmps).run E.P w' = .ok v w' ∧ (fun e w' => ∃ v, e = Ending.returned v ∧ Below w.heap.size w w' ∧ RV (M0 fun b => ok b ∨ w.heap.size ≤ b) w' (aret cs') v) (.returned v) w' := by
      refine ⟨_, results_run h1, _, rfl, hI.below.below, ?_⟩
      refine RV.lift (F := M1.F) (M := M0 fun b => ok b ∨ w.heap.size ≤ b) (fun b hb _ => ?_) (aret_rv h3)
      by_cases e : b < w.heap.size
      · rcases hI1.src b hb e with h | h
        · exact .inl h
        · exact h.elim
      · exact .inr (by omega)
    cases e with
    | nxt => exact ⟨hI.defers, hR⟩
    | ret => exact ⟨hI.defers, hR⟩
    | out i => exact absurd rfl (hne i)
theorem walkB {E : En} (hG : ∀ w w', E.G w → Below w.heap.size w w' → E.G w') {f : FuncId} {fn : Func} (hf : E.P.funcs[f]? = some fn) (hn : (fn.name == "runtime.NumGoroutine") = false)
    {args : List AV} {an : List An} {ls : List LA} {r : AV} {ps : List Prop} (h : afunB E fn args an ls = some (r, ps)) (hp : AllP ps) : PureOK E.P E.G f args r := by
  unfold afunB at h
  split at h
  · rename_i c hc
    exact walk hG hf hc hn an ls h hp
  · cases h
theorem Tri.weak {E : En} {c : Code} {s s' : AS} {e : AE} (h : Tri E c s e s') (ft : List Nat) (nb : Nat) (hf : (Nat.ble E.nh nb && forgets nb (forget ft nb s')) = true) : Tri E c s e (forget ft nb s') := by
  refine ⟨(fgt_len _ _ _).trans h.1, fun X n0 w0 ok0 a w hG hL => wp_mono (h.2 X n0 w0 ok0 a w hG hL) ?_⟩
  rintro x a' w' ⟨rfl, hL'⟩
  exact ⟨rfl, Left.forget hf hG hL'⟩
def acodeF (E : En) (c : Code) (s : AS) (an : List An) (ls : List LA) (ft : List Nat) (nb : Nat) : Option (AE × AS × List Prop) := match acode E c s an ls with
  | some (e, s', ps, _, _) => match Nat.ble E.nh nb && forgets nb (forget ft nb s') with
    | true => some (e, forget ft nb s', ps)
    | false => none
  | none => none
theorem tw {E : En} {c : Code} {s s' : AS} {an : List An} {ls : List LA} {ft : List Nat} {nb : Nat} {e : AE} {ps : List Prop} (h : acodeF E c s an ls ft nb = some (e, s', ps)) (hp : AllP ps) : Tri E c s e s' := by
  unfold acodeF at h
  split at h
  · rename_i e1 s1 ps1 an1 ls1 hc
    split at h
    · rename_i hf
      cases h
      exact (acode_sound hc hp).weak ft nb hf
    · cases h
  · cases h
/-- slots by number -/
def stG (kv : List (Nat × AV)) (i : Nat) : AV := match kv with
  | [] => .un
  | (j, v) :: r => match Nat.beq i j with
    | true => v
    | false => stG r i
def stT (kv : List (Nat × AV)) : Nat → Nat → List AV
  | _, 0 => []
  | i, n + 1 => stG kv i :: stT kv (i + 1) n
abbrev stt (n : Nat) (kv : List (Nat × AV)) : List AV := stT kv 0 n
def subC : Code → List Nat → Code
  | c, [] => c
  | .seq x _, 0 :: p => subC x p
  | .seq _ y, _ :: p => subC y p
  | .cond _ x _, 0 :: p => subC x p
  | .cond _ _ y, _ :: p => subC y p
  | .block _ b, _ :: p => subC b p
  | .loop b, _ :: p => subC b p
  | .scope b, _ :: p => subC b p
  | c, _ => c
def bodyOf (fn : Func) : Code := match fn.body with
  | some c => c
  | none => .skip
end Go.Proofs.YtendgffijciehaaGreatDoor
/- Plain walks: functions that are handed boxes. -/
namespace Go.Proofs.YtendgffijciehaaGreatDoor
open Go.RowKit

/-- what a function makes of its arguments and of the boxes xs that it is handed; the boxes ks are kept -/
def afunS (E : En) (fn : Func) (c : Code) (args : List AV) (xs : List (Option Bx)) (ks : List Nat) (an : List An) (ls : List LA) : Option (AV × List (Option Bx) × List Prop) :=
  match acode E c ⟨args ++ List.replicate (fn.ntmps - args.length) (.dt (.val undef)), xs⟩ an ls with
  | some (.out _, _, _, _, _) => none
  | none => none
  | some (_, s, ps, _, _) => match ares E.P s fn.results.toList with
    | some cs => match cvL ks true s.bxf cs with
      | some (cs', qs) => match giveBs ks (updB s.bxf (frzs s.bxf (obL ks s.bxf cs))) ks with
        | some (xs', rs) => match nodupB ks && (List.range E.nh).all (fun i => Nat.beq (ks.getD i (i + 1)) i) && Nat.beq xs.length E.nh with
          | true => some (aret cs', xs', ps ++ (qs ++ rs))
          | false => none
        | none => none
      | none => none
    | none => none
theorem walkS {E : En} {f : FuncId} {fn : Func} {c : Code} (hf : E.P.funcs[f]? = some fn) (hb : fn.body = some c) (hn : (fn.name == "runtime.NumGoroutine") = false)
    {args : List AV} {xs : List (Option Bx)} {ks : List Nat} (an : List An) (ls : List LA) {r : AV} {xs' : List (Option Bx)} {ps : List Prop} (h : afunS E fn c args xs ks an ls = some (r, xs', ps)) (hp : AllP ps) : SOK E.P E.G f args xs r xs' := by
  refine ⟨⟨fn, hf, by rw [hb]; rfl, hn⟩, fun X M w vs hG hS hargs => ?_⟩
  unfold afunS at h
  have key : ∃ e s cs cs' an' ls' ps1 qs rs, acode E c ⟨args ++ List.replicate (fn.ntmps - args.length) (.dt (.val undef)), xs⟩ an ls = some (e, s, ps1, an', ls') ∧ (∀ i, e ≠ .out i) ∧ ares E.P s fn.results.toList = some cs ∧ cvL ks true s.bxf cs = some (cs', qs) ∧
      giveBs ks (updB s.bxf (frzs s.bxf (obL ks s.bxf cs))) ks = some (xs', rs) ∧ (nodupB ks && (List.range E.nh).all (fun i => Nat.beq (ks.getD i (i + 1)) i) && Nat.beq xs.length E.nh) = true ∧ r = aret cs' ∧ ps = ps1 ++ (qs ++ rs) := by
    split at h
    · cases h
    · cases h
    · rename_i e s ps' an' ls' hne hc
      split at h
      · rename_i cs hcs
        split at h
        · rename_i cs' qs hcv
          split at h
          · rename_i xs1 rs hgb
            split at h
            · rename_i hck
              cases h
              exact ⟨e, s, cs, cs', an', ls', ps', qs, rs, hc, fun i he => by subst he; exact hne _ rfl, hcs, hcv, hgb, hck, rfl, rfl⟩
            · cases h
          · cases h
        · cases h
      · cases h
  obtain ⟨e, s, cs, cs', an', ls', ps1, qs, rs, hc, hne, hcs, hcv, hgb, hck, rfl, rfl⟩ := key
  simp only [Bool.and_eq_true, List.all_eq_true, List.mem_range] at hck
  obtain ⟨⟨hnd, hks⟩, hxl⟩ := hck
  have hnd := nodupB_ok hnd
  have hxl : xs.length = E.nh := Nat.eq_of_beq_eq_true hxl
  have hks : ∀ i, i < E.nh → ks[i]? = some i := fun i hi => by
    have := Nat.eq_of_beq_eq_true (hks i hi)
    rw [List.getD_eq_getElem?_getD] at this
    cases hk : ks[i]? with
    | none => rw [hk] at this; simp at this
    | some k => rw [hk] at this; simp at this; rw [this]
  obtain ⟨hp1, hp2⟩ := AllP_app hp
  obtain ⟨hp2, hp3⟩ := AllP_app hp2
  obtain ⟨hlen, htri⟩ := acode_sound hc hp1
  have hal := hargs.len
  have hbx : (AS.mk (args ++ List.replicate (fn.ntmps - args.length) (.dt (.val undef))) xs).bxf = lk xs := rfl
  have hhg : HG E X w.heap.size (w, M) := ⟨hG, fun k hk => by
    have hl : lk xs k = none := by unfold lk; rw [List.getElem?_eq_none (by omega)]
    exact ⟨hS.fresh_m hl, hS.fresh_o hl⟩⟩
  refine calls_of_wp hf hb (wp_mono (htri X w.heap.size (w, M) M.F _ w hhg ⟨M, ?_⟩) ?_)
  · refine ⟨Bel.refl _ _ _, Nat.le_refl _, rfl, ?_, ?_, by rw [hbx]; exact hS, fun b hb _ => .inl hb, Go1.refl _ _ _ _⟩
    · simp [hal]
    · intro t
      by_cases ht : t < args.length
      · obtain ⟨u, hu1, hu2⟩ := hargs.get (i := t) (c := args[t]) (List.getElem?_eq_getElem ht)
        have e1 : (AS.mk (args ++ List.replicate (fn.ntmps - args.length) (.dt (.val undef))) xs).tmf t = args[t] := by
          unfold AS.tmf
          simp [List.getElem?_append_left ht, ht]
        have e2 : (vs.toArray ++ Array.replicate (fn.ntmps - vs.toArray.size) undef).getD t undef = u := by
          have ht' : t < vs.length := by omega
          simp only [Array.getD_eq_getD_getElem?]
          rw [Array.getElem?_append_left (by simpa using ht')]
          simp [hu1]
        rw [e1, e2]
        exact hu2
      · have e1 : (AS.mk (args ++ List.replicate (fn.ntmps - args.length) (.dt (.val undef))) xs).tmf t = .dt (.val undef) := by
          unfold AS.tmf
          rw [List.getD_eq_getElem?_getD, List.getElem?_append_right (by omega), List.getElem?_replicate]
          split <;> rfl
        have e2 : (vs.toArray ++ Array.replicate (fn.ntmps - vs.toArray.size) undef).getD t undef = undef := by
          simp only [Array.getD_eq_getD_getElem?]
          rw [Array.getElem?_append_right (by simp; omega), Array.getElem?_replicate]
          split <;> rfl
        rw [e1, e2]
        exact rv_undef
  · rintro x a' w' ⟨rfl, Mf, hI⟩
    obtain ⟨us, h1, h2⟩ := ares_run hI hcs
    obtain ⟨M1, hI1, h3, _⟩ := hI.handJ hcv hp2 h2
    have hsto := sub_gen hI1 hnd hgb hp3 (Y := X) (m0 := w.heap.size) fun j hj x q hb hq => (hI1.sto.dom j x q hb hq).1
    have hnh : ∀ k, (M.m k).isSome = true ∨ (M.o k).isSome = true → k < E.nh := fun k hk => by
      rcases Nat.lt_or_ge k E.nh with h | h
      · exact h
      · obtain ⟨e1, e2⟩ := hhg.h k h
        rw [show M.m k = none from e1, show M.o k = none from e2] at hk
        rcases hk with hk | hk <;> cases hk
    have hgo : Go1 X w.heap.size M w (subM M1 ks) w' := ⟨hI1.anc.below, hI1.anc.keep, hI1.anc.F, fun k q hq => by
      have hk := hks k (hnh k (.inl (by rw [hq]; rfl)))
      show (ks[k]?).bind M1.m = _
      rw [hk]
      exact hI1.anc.m k q hq, fun k A n c hq => by
      have hk := hks k (hnh k (.inr (by rw [hq]; rfl)))
      show ∃ A' n' c', (ks[k]?).bind M1.o = _ ∧ _
      rw [hk]
      exact hI1.anc.o k A n c hq⟩
    have hR : ∃ v, (results fn a'.tmps).run E.P w' = .ok v w' ∧ (fun e w' => ∃ v M', e = Ending.returned v ∧ Go1 X w.heap.size M w M' w' ∧ Sto X w.heap.size M' (lk xs') w' ∧ (∀ b, M'.F b → M.F b ∨ w.heap.size ≤ b ∨ X b) ∧ RV M' w' (aret cs') v) (.returned v) w' := by
      refine ⟨_, results_run h1, _, subM M1 ks, rfl, hgo, hsto, fun b hb => ?_, aret_rv h3⟩
      by_cases e : b < w.heap.size
      · rcases hI1.src b hb e with h | h
        · exact .inl h
        · exact .inr (.inr h)
      · exact .inr (.inl (by omega))
    cases e with
    | nxt => exact ⟨hI.defers, hR⟩
    | ret => exact ⟨hI.defers, hR⟩
    | out i => exact absurd rfl (hne i)
/-- the same, for the tool and for walks -/
def afunSB (E : En) (fn : Func) (args : List AV) (xs : List (Option Bx)) (ks : List Nat) (an : List An) (ls : List LA) : Option (AE × AS × List Prop) := match fn.body with
  | some c => match afunS E fn c args xs ks an ls with
    | some (r, xs', ps) => some (.nxt, ⟨[r], xs'⟩, ps)
    | none => none
  | none => none
theorem walkSB {E : En} {f : FuncId} {fn : Func} (hf : E.P.funcs[f]? = some fn) (hn : (fn.name == "runtime.NumGoroutine") = false)
    {args : List AV} {xs : List (Option Bx)} {ks : List Nat} {an : List An} {ls : List LA} {r : AV} {xs' : List (Option Bx)} {ps : List Prop} (h : afunSB E fn args xs ks an ls = some (.nxt, ⟨[r], xs'⟩, ps)) (hp : AllP ps) : SOK E.P E.G f args xs r xs' := by
  unfold afunSB at h
  split at h
  · rename_i c hc
    split at h
    · rename_i r1 xs1 ps1 h1
      cases h
      exact walkS hf hc hn an ls h1 hp
    · cases h
  · cases h
end Go.Proofs.YtendgffijciehaaGreatDoor
/- What is known of every world of this seat: the tables among the globals (a seat without strings.asciiSpace; fill.py writes it as Gx). -/
namespace Go.Proofs.YtendgffijciehaaGreatDoor
open Go.RowKit

def Gx (w : World) : Prop := Tab w ∧ True
theorem Gx.below {w w' : World} (h : Gx w) (hb : Below w.heap.size w w') : Gx w' := ⟨h.1.below hb, trivial⟩
def tabT (_g _i : Nat) : Option Value := none
theorem tabT_ok (w : World) (_h : Gx w) (g i : Nat) (v : Value) (hv : tabT g i = some v) : w.cell? ⟨g, i, none⟩ = some v := by cases hv
theorem mixed : Tryz.prog.follows .mixedOrders = true := by kernel_rfl
noncomputable abbrev EX : En := ⟨Tryz.prog, Gx, tabT, tabT_ok, mixed, 0⟩
end Go.Proofs.YtendgffijciehaaGreatDoor
/- Plain walks, second form: objects; contracts turned into plain ones. -/
namespace Go.Proofs.YtendgffijciehaaGreatDoor
open Go.RowKit

abbrev Puk (f : FuncId) (args : List AV) (r : AV) : Prop := PureOK Tryz.prog Gx f args r
abbrev vi (n : Int) : Value := .int .i64 n
abbrev bT : Value := .bool true
abbrev bF : Value := .bool false
abbrev Bn (op : BinOp) (t : TypeId) (x y : Operand) (a b r : Value) : Prop := BinIs Tryz.prog op t x y a b r
/-- an object -/
abbrev obA (o : Ob) : AV := .agg [.dt (.val (.int .i64 o.kind)), .dt (.val (str o.num)), .dt (.val (str o.den)), .dt (.val (str o.sp)), .dt (.val (str o.sn)), .dt (.val (str o.text)), .dt (.row (o.pair.map Ob.enc))]
abbrev boA (b : Bool) : AV := .dt (.val (.bool b))
abbrev yT : An := .av (boA true)
abbrev yF : An := .av (boA false)
abbrev inA (n : Int) : AV := .dt (.val (.int .i64 n))
abbrev stA (l : List UInt8) : AV := .dt (.val (str l))
theorem RV.obj {M : Mm} {w : World} {o : Ob} {v : Value} (h : RV M w (obA o) v) : ∃ A n c, v = objV o (.slice A n c) ∧ Rd M.F w (.slice A n c) (.row (o.pair.map Ob.enc)) := by
  obtain ⟨vs, rfl, u0, _, rfl, h0, u1, _, rfl, h1, u2, _, rfl, h2, u3, _, rfl, h3, u4, _, rfl, h4, u5, _, rfl, h5, u6, _, rfl, h6, rfl⟩ := h
  obtain ⟨A, n, c, rfl, _⟩ := Rd.slice h6
  refine ⟨A, n, c, ?_, h6⟩
  rw [Rd.val_eq h0, Rd.val_eq h1, Rd.val_eq h2, Rd.val_eq h3, Rd.val_eq h4, Rd.val_eq h5]
theorem RV.ofObj {M : Mm} {w : World} {o : Ob} {A : Option Addr} {n c : Nat} (h : Rd M.F w (.slice A n c) (.row (o.pair.map Ob.enc))) : RV M w (obA o) (objV o (.slice A n c)) :=
  ⟨_, rfl, _, _, rfl, .val _, _, _, rfl, .val _, _, _, rfl, .val _, _, _, rfl, .val _, _, _, rfl, .val _, _, _, rfl, .val _, _, _, rfl, h, rfl⟩
theorem RL.one_obj {M : Mm} {w : World} {o : Ob} {vs : List Value} (h : RL M w [obA o] vs) : ∃ A n c, vs = [objV o (.slice A n c)] ∧ Rd M.F w (.slice A n c) (.row (o.pair.map Ob.enc)) := by
  obtain ⟨u, us, rfl, h1, rfl⟩ := h
  obtain ⟨A, n, c, rfl, h⟩ := h1.obj
  exact ⟨A, n, c, rfl, h⟩
theorem RL.two_obj {M : Mm} {w : World} {o o' : Ob} {vs : List Value} (h : RL M w [obA o, obA o'] vs) : ∃ A n c A' n' c', vs = [objV o (.slice A n c), objV o' (.slice A' n' c')] ∧ Rd M.F w (.slice A n c) (.row (o.pair.map Ob.enc)) ∧ Rd M.F w (.slice A' n' c') (.row (o'.pair.map Ob.enc)) := by
  obtain ⟨u, us, rfl, h1, h2⟩ := h
  obtain ⟨A, n, c, rfl, h⟩ := h1.obj
  obtain ⟨A', n', c', rfl, h'⟩ := RL.one_obj h2
  exact ⟨A, n, c, A', n', c', rfl, h, h'⟩
theorem RL.one_val {M : Mm} {w : World} {u : Value} {vs : List Value} (h : RL M w [.dt (.val u)] vs) : vs = [u] := by
  obtain ⟨x, us, rfl, h1, rfl⟩ := h
  rw [Rd.val_eq h1]
theorem RetObj.pure {ok : Nat → Prop} {r : Ob} {w w' : World} {e : Ending} (h : RetObj ok r w e w') : ∃ v, e = .returned v ∧ Below w.heap.size w w' ∧ RV (M0 fun b => ok b ∨ w.heap.size ≤ b) w' (obA r) v := by
  obtain ⟨A, n, c, rfl, h1, h2⟩ := h
  exact ⟨_, rfl, h2, RV.ofObj h1⟩
theorem RetBel.pure {ok : Nat → Prop} {r : Value} {w w' : World} {e : Ending} (h : RetBel r w e w') : ∃ v, e = .returned v ∧ Below w.heap.size w w' ∧ RV (M0 fun b => ok b ∨ w.heap.size ≤ b) w' (.dt (.val r)) v := by
  obtain ⟨rfl, h2⟩ := h
  exact ⟨_, rfl, h2, .val _⟩
abbrev Fn (f : FuncId) : Prop := ∃ fn, Tryz.prog.funcs[f]? = some fn ∧ fn.body.isNone = false ∧ (fn.name == "runtime.NumGoroutine") = false
theorem pk_ov {f : FuncId} (hf : Fn f) {o : Ob} {r : Value} (h : ∀ (ok : Nat → Prop) (A : Option Addr) (n c : Nat) (w : World), Tab w → Rd ok w (.slice A n c) (.row (o.pair.map Ob.enc)) → Calls Tryz.prog f #[objV o (.slice A n c)] w (RetBel r w)) : Puk f [obA o] (.dt (.val r)) :=
  ⟨hf, fun ok w vs ht hv => by
    obtain ⟨A, n, c, rfl, hr⟩ := hv.one_obj
    exact (h ok A n c w ht.1 hr).mono fun _ _ => RetBel.pure⟩
theorem pk_ooo {f : FuncId} (hf : Fn f) {o o' r : Ob} (h : ∀ (ok : Nat → Prop) (A A' : Option Addr) (n c n' c' : Nat) (w : World), Tab w → Rd ok w (.slice A n c) (.row (o.pair.map Ob.enc)) → Rd ok w (.slice A' n' c') (.row (o'.pair.map Ob.enc)) → Calls Tryz.prog f #[objV o (.slice A n c), objV o' (.slice A' n' c')] w (RetObj ok r w)) : Puk f [obA o, obA o'] (obA r) :=
  ⟨hf, fun ok w vs ht hv => by
    obtain ⟨A, n, c, A', n', c', rfl, hr, hr'⟩ := hv.two_obj
    exact (h ok A A' n c n' c' w ht.1 hr hr').mono fun _ _ => RetObj.pure⟩
/-- a function walked -/
theorem pwalk {f : FuncId} {fn : Func} (hf : Tryz.prog.funcs[f]? = some fn) (hn : (fn.name == "runtime.NumGoroutine") = false) {args : List AV} {an : List An} {ls : List LA} {r : AV} {ps : List Prop} (h : afunB EX fn args an ls = some (r, ps)) (hp : AllP ps) : Puk f args r :=
  walkB (E := EX) (fun _ _ h hb => h.below hb) hf hn h hp
/-- the seat's environment for functions that are handed n boxes -/
noncomputable abbrev EXn (n : Nat) : En := ⟨Tryz.prog, Gx, tabT, tabT_ok, mixed, n⟩
abbrev Suk (f : FuncId) (args : List AV) (xs : List (Option Bx)) (r : AV) (xs' : List (Option Bx)) : Prop := SOK Tryz.prog Gx f args xs r xs'
/-- a function walked that is handed boxes -/
theorem psw {n : Nat} {f : FuncId} {fn : Func} (hf : Tryz.prog.funcs[f]? = some fn) (hn : (fn.name == "runtime.NumGoroutine") = false) {args : List AV} {xs : List (Option Bx)} {ks : List Nat} {an : List An} {ls : List LA} {r : AV} {xs' : List (Option Bx)} {ps : List Prop} (h : afunSB (EXn n) fn args xs ks an ls = some (.nxt, ⟨[r], xs'⟩, ps)) (hp : AllP ps) : Suk f args xs r xs' :=
  walkSB (E := EXn n) hf hn h hp
theorem twalk {c : Code} {s s' : AS} {an : List An} {ls : List LA} {ft : List Nat} {nb : Nat} {e : AE} {ps : List Prop} (h : acodeF EX c s an ls ft nb = some (e, s', ps)) (hp : AllP ps) : Tri EX c s e s' := tw h hp
theorem fnm {f : FuncId} {fn : Func} (hf : Tryz.prog.funcs[f]? = some fn) (hb : fn.body.isNone = false) (hn : (fn.name == "runtime.NumGoroutine") = false) : Fn f := ⟨fn, hf, hb, hn⟩
theorem Puk.val {f : FuncId} {args : List AV} {a b : AV} (h : Puk f args a) (e : a = b) : Puk f args b := e ▸ h
theorem Puk.b {f : FuncId} {args : List AV} {a b : Bool} (h : Puk f args (boA a)) (e : a = b) : Puk f args (boA b) := e ▸ h
abbrev trA (t : Tr) : AV := obA t.ob
abbrev encL (o : Ob) : List Dt := [.val (.int .i64 o.kind), .val (str o.num), .val (str o.den), .val (str o.sp), .val (str o.sn), .val (str o.text), .row (o.pair.map Ob.enc)]
theorem enc_L (o : Ob) : o.enc = encL o := Ob.enc_eq o
theorem RetEq.pure {ok : Nat → Prop} {p : Prop} [Decidable p] {w w' : World} {e : Ending} (h : RetEq p w e w') : ∃ v, e = .returned v ∧ Below w.heap.size w w' ∧ RV (M0 fun b => ok b ∨ w.heap.size ≤ b) w' (boA (decide p)) v := by
  obtain ⟨b, rfl, hb, h2⟩ := h
  refine ⟨_, rfl, h2, ?_⟩
  rw [show decide p = b by cases b <;> simp_all]
  exact .val _
theorem RetLeaf.pure {ok : Nat → Prop} {r : Ob} {w w' : World} {e : Ending} (hp : r.pair = []) (h : RetLeaf r w e w') : ∃ v, e = .returned v ∧ Below w.heap.size w w' ∧ RV (M0 fun b => ok b ∨ w.heap.size ≤ b) w' (obA r) v := RetObj.pure (ok := ok) (h.obj hp)
theorem p_rCons (a d : Ob) : Puk 125 [obA a, obA d] (obA (consO a d)) :=
  pk_ooo (fnm Tryz.func125 rfl (by kernel_rfl)) fun ok A A' n c n' c' w _ h h' => rCons_any ok a d A A' n n' c c' w h h'
theorem p_rInt (n : Int) (h0 : -9223372036854775808 ≤ n) (h1 : n ≤ 9223372036854775807) : Puk 40 [inA n] (trA (.num n)) :=
  ⟨fnm Tryz.func40 rfl (by kernel_rfl), fun ok w vs ht hv => by
    obtain rfl := hv.one_val
    exact (rInt_any n w ht.1 h0 h1).mono fun _ _ h => RetLeaf.pure (r := (Tr.num n).ob) rfl h⟩
theorem p_rIsCons (o : Ob) (hn : o.pair.length ≤ 9223372036854775807) : Puk 119 [obA o] (boA (decide (o.kind = 4 ∧ o.pair.length = 2))) :=
  pk_ov (fnm Tryz.func119 rfl (by kernel_rfl)) fun ok A n c w _ hr => by
    have e1 := hr.len
    rw [List.length_map] at e1
    rw [e1]
    exact rIsCons_any o A n c w (by omega)
end Go.Proofs.YtendgffijciehaaGreatDoor
/- Operators on plain values. -/
namespace Go.Proofs.YtendgffijciehaaGreatDoor
open Go.RowKit

theorem strs_app (a b : List UInt8) : (⟨a.toArray⟩ : ByteArray) ++ ⟨b.toArray⟩ = ⟨(a ++ b).toArray⟩ := by
  apply ByteArray.ext
  rw [ByteArray.data_append]
  simp
theorem bin_strs {P : Program} {t : TypeId} {x y : Operand} {a b : List UInt8} (h : a.length + b.length ≤ 9223372036854775807) : BinIs P .add t x y (str a) (str b) (str (a ++ b)) := by
  have := bin_cat (P := P) (t := t) (x := x) (y := y) (a := ⟨a.toArray⟩) (b := ⟨b.toArray⟩) (by
    show ((a.toArray.size + b.toArray.size : Nat) : Int) ≤ 9223372036854775807
    simp only [List.size_toArray]
    omega)
  rw [strs_app] at this
  exact this
theorem toList_str (a : List UInt8) : (⟨a.toArray⟩ : ByteArray).toList = a := by
  rw [Lib.toList_data]
theorem eqD {α : Type} [BEq α] [LawfulBEq α] [DecidableEq α] (a b : α) : (a == b) = decide (a = b) := by
  by_cases h : a = b <;> simp [h]
theorem bin_seq {P : Program} {t : TypeId} {x y : Operand} {a b : List UInt8} {r : Bool} (h : decide (a = b) = r) : BinIs P .eql t x y (str a) (str b) (.bool r) := by
  refine sbin_is ?_
  show some (Value.bool (a == b)) = _
  rw [← h, eqD a b]
theorem bin_sne {P : Program} {t : TypeId} {x y : Operand} {a b : List UInt8} {r : Bool} (h : decide (a = b) = !r) : BinIs P .neq t x y (str a) (str b) (.bool r) := by
  refine sbin_is ?_
  show some (Value.bool !(a == b)) = _
  rw [eqD a b, h, Bool.not_not]
theorem bin_ieq {P : Program} {t : TypeId} {x y : Operand} {k : IntKind} {a b : Int} {r : Bool} (h : decide (a = b) = r) : BinIs P .eql t x y (.int k a) (.int k b) (.bool r) := by
  refine sbin_is ?_
  simp only [sbin, decide_true]
  rw [eqD a b, h]
theorem bin_ilt {P : Program} {t : TypeId} {x y : Operand} {k : IntKind} {a b : Int} {r : Bool} (h : decide (a < b) = r) : BinIs P .lss t x y (.int k a) (.int k b) (.bool r) := by
  refine sbin_is ?_
  simp only [sbin, decide_true]
  rw [h]
theorem bin_igt {P : Program} {t : TypeId} {x y : Operand} {k : IntKind} {a b : Int} {r : Bool} (h : decide (b < a) = r) : BinIs P .gtr t x y (.int k a) (.int k b) (.bool r) := by
  refine sbin_is ?_
  simp only [sbin, decide_true, gt_iff_lt]
  rw [h]
theorem bin_ige {P : Program} {t : TypeId} {x y : Operand} {k : IntKind} {a b : Int} {r : Bool} (h : decide (b ≤ a) = r) : BinIs P .geq t x y (.int k a) (.int k b) (.bool r) := by
  refine sbin_is ?_
  simp only [sbin, decide_true, ge_iff_le]
  rw [h]
theorem bin_iadd {P : Program} {t : TypeId} {x y : Operand} {a b c : Int} (h : a + b = c) (h0 : -9223372036854775808 ≤ c) (h1 : c ≤ 9223372036854775807) : BinIs P .add t x y (.int .i64 a) (.int .i64 b) (.int .i64 c) := by
  refine sbin_is ?_
  simp only [sbin, decide_true]
  rw [h, show IntKind.i64.wrap c = c by rw [IntKind.wrap_i64]; omega]
theorem bin_isub {P : Program} {t : TypeId} {x y : Operand} {a b c : Int} (h : a - b = c) (h0 : -9223372036854775808 ≤ c) (h1 : c ≤ 9223372036854775807) : BinIs P .sub t x y (.int .i64 a) (.int .i64 b) (.int .i64 c) := by
  refine sbin_is ?_
  simp only [sbin, decide_true]
  rw [h, show IntKind.i64.wrap c = c by rw [IntKind.wrap_i64]; omega]
theorem run_equal_bool {P : Program} {t : TypeId} (hu : P.underlying t = some .bool) (a b : Bool) (w : World) : (Op.equal t (.bool a) (.bool b)).run P w = .ok (a == b) w := by
  show (Op.equalIn (9999 + 1) t (.bool a) (.bool b)).run P w = _
  rw [Op.equalIn]
  simp only [Sem.run_bind, run_underlying hu, Result.andThen, Sem.run_pure]
theorem bin_beq {P : Program} {t : TypeId} {x y : Operand} {a b r : Bool} (hu : P.underlying t = some .bool) (h : (a == b) = r) : BinIs P .eql t x y (.bool a) (.bool b) (.bool r) := by
  intro w
  rw [← h]
  have e : (Op.equal t (.bool a) (.bool b)).run P w = .ok (a == b) w := run_equal_bool hu a b w
  simp only [eqGuard, binOp, Sem.run_bind, Result.andThen, Bool.not_true, Bool.false_eq_true, if_false, Sem.run_pure]
  rw [e]
  all_goals rfl
end Go.Proofs.YtendgffijciehaaGreatDoor
/- Terms as plain values.  -/
namespace Go.Proofs.YtendgffijciehaaGreatDoor
open Go.RowKit

namespace Ob
mutual
def eqb : Ob → Ob → Bool
  | ⟨k, n, d, p, s, t, l⟩, ⟨k', n', d', p', s', t', l'⟩ => decide (k = k') && decide (n = n') && decide (d = d') && decide (p = p') && decide (s = s') && decide (t = t') && eqbs l l'
def eqbs : List Ob → List Ob → Bool
  | [], [] => true
  | a :: l, b :: l' => eqb a b && eqbs l l'
  | [], _ :: _ => false
  | _ :: _, [] => false
end
mutual
theorem eqb_iff : ∀ a b : Ob, eqb a b = true ↔ a = b
  | ⟨k, n, d, p, s, t, l⟩, ⟨k', n', d', p', s', t', l'⟩ => by
    rw [eqb]
    simp only [Bool.and_eq_true, decide_eq_true_eq, eqbs_iff l l', Ob.mk.injEq, and_assoc]
theorem eqbs_iff : ∀ a b : List Ob, eqbs a b = true ↔ a = b
  | [], [] => by simp [eqbs]
  | a :: l, b :: l' => by
    rw [eqbs]
    simp only [Bool.and_eq_true, eqb_iff a b, eqbs_iff l l', List.cons.injEq]
  | [], _ :: _ => by simp [eqbs]
  | _ :: _, [] => by simp [eqbs]
end
end Ob
instance : DecidableEq Ob := fun a b => decidable_of_iff _ (Ob.eqb_iff a b)
/-- whether two things are the same -/
abbrev sameD {α : Type} [DecidableEq α] (a b : α) : Bool := decide (a = b)
structure Te where
  kind : Int
  np : List UInt8
  nn : List UInt8
  val : Ob
  args : List Te
namespace Te
mutual
def enc : Te → List Dt
  | ⟨k, p, n, o, l⟩ => [.val (.int .i64 k), .val (str p), .val (str n), .val (.int .i64 o.kind), .val (str o.num), .val (str o.den), .val (str o.sp), .val (str o.sn), .val (str o.text), .row (o.pair.map Ob.enc), .row (encA l)]
def encA : List Te → List (List Dt)
  | [] => []
  | t :: r => enc t :: encA r
end
mutual
def size : Te → Nat
  | ⟨_, _, _, _, l⟩ => sizeA l + 1
def sizeA : List Te → Nat
  | [] => 0
  | t :: r => size t + sizeA r
end
mutual
def eqb : Te → Te → Bool
  | ⟨k, p, n, o, l⟩, ⟨k', p', n', o', l'⟩ => decide (k = k') && decide (p = p') && decide (n = n') && decide (o = o') && eqbs l l'
def eqbs : List Te → List Te → Bool
  | [], [] => true
  | a :: l, b :: l' => eqb a b && eqbs l l'
  | [], _ :: _ => false
  | _ :: _, [] => false
end
mutual
theorem eqb_iff : ∀ a b : Te, eqb a b = true ↔ a = b
  | ⟨k, p, n, o, l⟩, ⟨k', p', n', o', l'⟩ => by
    rw [eqb]
    simp only [Bool.and_eq_true, decide_eq_true_eq, eqbs_iff l l', Te.mk.injEq, and_assoc]
theorem eqbs_iff : ∀ a b : List Te, eqbs a b = true ↔ a = b
  | [], [] => by simp [eqbs]
  | a :: l, b :: l' => by
    rw [eqbs]
    simp only [Bool.and_eq_true, eqb_iff a b, eqbs_iff l l', List.cons.injEq]
  | [], _ :: _ => by simp [eqbs]
  | _ :: _, [] => by simp [eqbs]
end
instance : DecidableEq Te := fun a b => decidable_of_iff _ (eqb_iff a b)
theorem encA_map (l : List Te) : encA l = l.map enc := by
  induction l with
  | nil => rfl
  | cons t r ih => rw [encA, ih]; rfl
theorem size_pos (t : Te) : 0 < t.size := by cases t; rw [size]; omega
theorem sizeA_mem {l : List Te} {t : Te} (h : t ∈ l) : t.size ≤ sizeA l := by
  induction l with
  | nil => cases h
  | cons x r ih =>
    rw [sizeA]
    rcases List.mem_cons.1 h with rfl | h
    · omega
    · have := ih h; omega
theorem size_args {t x : Te} (h : x ∈ t.args) : x.size < t.size := by
  obtain ⟨k, p, n, o, l⟩ := t
  rw [size]
  have := sizeA_mem (l := l) h
  omega
/-- numbers and lengths within Go's bounds, all the way down -/
inductive Wf : Te → Prop
  | mk (t : Te) (hv : t.val.Wf) (hl : t.args.length ≤ 9223372036854775807) (h : ∀ x ∈ t.args, Wf x) : Wf t
end Te
abbrev encT (t : Te) : List Dt := [.val (.int .i64 t.kind), .val (str t.np), .val (str t.nn), .val (.int .i64 t.val.kind), .val (str t.val.num), .val (str t.val.den), .val (str t.val.sp), .val (str t.val.sn), .val (str t.val.text), .row (t.val.pair.map Ob.enc), .row (t.args.map Te.enc)]
theorem enc_T (t : Te) : t.enc = encT t := by
  obtain ⟨k, p, n, o, l⟩ := t
  rw [Te.enc, Te.encA_map]
/-- a term -/
abbrev teA (t : Te) : AV := .agg [inA t.kind, stA t.np, stA t.nn, inA t.val.kind, stA t.val.num, stA t.val.den, stA t.val.sp, stA t.val.sn, stA t.val.text, .dt (.row (t.val.pair.map Ob.enc)), .dt (.row (t.args.map Te.enc))]
abbrev tesA (l : List Te) : AV := .dt (.row (l.map Te.enc))
theorem ix_te {l : List Te} {i : Nat} {t : Te} (h : l[i]? = some t) : IxAt (l.map Te.enc) (i : Int) 11 (encT t) := ⟨Int.natCast_nonneg _, by
  rw [Int.toNat_natCast, List.getElem?_map, h]
  exact congrArg some (enc_T t), rfl⟩
theorem lenEncT (l : List Te) : Value.int .i64 (l.length : Int) = Value.int .i64 ((l.map Te.enc).length : Int) := by rw [List.length_map]
/-- clauses -/
abbrev encC (c : List Te) : List Dt := [.row (c.map Te.enc)]
abbrev clsA (l : List (List Te)) : AV := .dt (.row (l.map encC))
end Go.Proofs.YtendgffijciehaaGreatDoor
/- Normal forms of formulas on plain terms: the code's clauses are the reference's. -/
namespace Go.Proofs.YtendgffijciehaaGreatDoor
open Go.RowKit

namespace Te
abbrev zOb : Ob := ⟨0, [], [], [], [], [], []⟩
abbrev zTe : Te := ⟨0, [], [], zOb, []⟩
/-- a call of a function of the package lisp -/
def ap (n : List UInt8) (l : List Te) : Te := ⟨3, lispB, n, zOb, l⟩
abbrev is (t : Te) (n : List UInt8) (k : Nat) : Prop := t.kind = 3 ∧ t.np = lispB ∧ t.nn = n ∧ t.args.length = k
abbrev notB : List UInt8 := [110, 111, 116]
abbrev ifB : List UInt8 := [105, 102]
abbrev impB : List UInt8 := [105, 109, 112, 108, 105, 101, 115]
abbrev iffB : List UInt8 := [105, 102, 102]
def con (o : Ob) : Te := ⟨2, [], [], o, []⟩
abbrev yesT : Te := con tO
abbrev noT : Te := con nilO
abbrev arg (t : Te) (i : Nat) : Te := t.args.getD i zTe
def neg (t : Te) : Te := if is t notB 1 then t.arg 0 else ap notB [t]
/-- the if that a call of a propositional function stands for -/
def opened (t : Te) : Option Te :=
  if is t notB 1 then some (ap ifB [t.arg 0, noT, yesT])
  else if is t impB 2 then some (ap ifB [t.arg 0, ap ifB [t.arg 1, yesT, noT], yesT])
  else if is t iffB 2 then some (ap ifB [t.arg 0, ap ifB [t.arg 1, yesT, noT], ap ifB [t.arg 1, noT, yesT]])
  else none
end Te
open Te
/-- what a normalizer holds -/
structure NS where
  out : List (List Te)
  ex : Int
  er : Int
def NS.fail (D : List Te → List Te) (s : NS) (c : List Te) : NS := if 60 < (D c).length ∨ 400 ≤ s.out.length then { s with er := 2 } else { s with out := s.out ++ [D c] }
/-- one examination more -/
def NS.tick (s : NS) : NS := ⟨s.out, s.ex + 1, if 20000 < s.ex + 1 then 2 else s.er⟩
/-- 'examine', with so much fuel; D is what is done to a clause -/
def exm (D : List Te → List Te) : Nat → Te → List Te → NS → NS
  | 0, _, _, s => s
  | f + 1, t, qs, s =>
    if s.tick.er ≠ 0 then s.tick else
    if t.kind = 2 then (if t.val = nilO then s.tick.fail D (qs.map neg) else s.tick) else
    match opened t with
    | some t' => exm D f t' qs s.tick
    | none =>
      if is t ifB 3 then
        if (t.arg 0).kind = 2 ∧ (t.arg 0).val = nilO then exm D f (t.arg 2) qs s.tick
        else if (t.arg 0).kind = 2 then exm D f (t.arg 1) qs s.tick
        else if is (t.arg 0) notB 1 then exm D f (ap ifB [(t.arg 0).arg 0, t.arg 2, t.arg 1]) qs s.tick
        else if is (t.arg 0) ifB 3 then exm D f (ap ifB [(t.arg 0).arg 0, ap ifB [(t.arg 0).arg 1, t.arg 1, t.arg 2], ap ifB [(t.arg 0).arg 2, t.arg 1, t.arg 2]]) qs s.tick
        else match opened (t.arg 0) with
          | some a' => exm D f (ap ifB [a', t.arg 1, t.arg 2]) qs s.tick
          | none =>
            if t.arg 0 ∈ qs then exm D f (t.arg 1) qs s.tick
            else if ap notB [t.arg 0] ∈ qs then exm D f (t.arg 2) qs s.tick
            else exm D f (t.arg 2) (qs ++ [ap notB [t.arg 0]]) (exm D f (t.arg 1) (qs ++ [t.arg 0]) s.tick)
      else if t ∈ qs then s.tick
      else if ap notB [t] ∈ qs then s.tick.fail D (qs.map neg)
      else s.tick.fail D (qs.map neg ++ [t])
/-- 'Add' to the empty clause -/
def addN (out : List Te) : List Te → List Te
  | [] => out
  | t :: r => addN (if t ∈ out then out else out ++ [t]) r
theorem is_ap (n : List UInt8) (l : List Te) : is (ap n l) n l.length := ⟨rfl, rfl, rfl, rfl⟩
theorem neg_not (t : Te) : neg (ap notB [t]) = t := if_pos (is_ap notB [t])
end Go.Proofs.YtendgffijciehaaGreatDoor
/- Which terms are valid: the plain law. -/
namespace Go.Proofs.YtendgffijciehaaGreatDoor
open Go.RowKit

namespace Te
/- nodes and depth -/
mutual
def nods : Te → Nat
  | ⟨k, _, _, o, l⟩ => if k = 2 then o.nodes else if k = 3 then nodsL l + 1 else 1
def nodsL : List Te → Nat
  | [] => 0
  | x :: r => nods x + nodsL r
end
mutual
def dep : Te → Nat
  | ⟨k, _, _, _, l⟩ => if k = 3 then depL l + 1 else 1
def depL : List Te → Nat
  | [] => 0
  | x :: r => max (dep x) (depL r)
end
/- the code's rest and depth -/
/- the reference's count and deep -/
mutual
def cnt : Te → Int → Int
  | ⟨k, _, _, o, l⟩, m => if k = 2 then min m (nodesP o) else if k = 3 then cntL l m 1 else 1
def cntL : List Te → Int → Int → Int
  | [], _, n => n
  | x :: r, m, n => if n < m then cntL r m (n + cnt x (m - n)) else n
end
mutual
def dee : Te → Int → Int
  | ⟨k, _, _, _, l⟩, m => if k = 3 then deeL l m 0 + 1 else 1
def deeL : List Te → Int → Int → Int
  | [], _, d => d
  | x :: r, m, d => if 1 < m then deeL r m (max d (dee x (m - 1))) else d
end
theorem nodesP_min (o : Ob) : nodesP o = ((min o.nodes 3001 : Nat) : Int) := by unfold nodesP; split <;> omega
theorem dep_pos (t : Te) : 1 ≤ t.dep := by obtain ⟨k, p, n, o, l⟩ := t; rw [dep]; split <;> omega
mutual
theorem cnt_law : ∀ (t : Te) (m : Int), 1 ≤ m → m ≤ 3001 → cnt t m = min m (nods t)
  | ⟨k, p, n, o, l⟩, m, h1, h2 => by
    rw [cnt, nods, nodesP_min]
    by_cases h : k = 2
    · rw [if_pos h, if_pos h]; omega
    rw [if_neg h, if_neg h]
    by_cases h : k = 3
    · rw [if_pos h, if_pos h]
      have := cntL_law l m 1 (by omega) (by omega) (by omega)
      omega
    · rw [if_neg h, if_neg h]; omega
theorem cntL_law : ∀ (l : List Te) (m n : Int), 1 ≤ n → n ≤ m → m ≤ 3001 → cntL l m n = min m (n + nodsL l)
  | [], m, n, h1, h2, h3 => by rw [cntL, nodsL]; omega
  | x :: r, m, n, h1, h2, h3 => by
    rw [cntL, nodsL]
    by_cases h : n < m
    · rw [if_pos h]
      have a := cnt_law x (m - n) (by omega) (by omega)
      have b := cntL_law r m (n + cnt x (m - n)) (by omega) (by omega) h3
      omega
    · rw [if_neg h]; omega
end
mutual
theorem dee_law : ∀ (t : Te) (m : Int), 1 ≤ m → dee t m = min m (dep t)
  | ⟨k, p, n, o, l⟩, m, h1 => by
    rw [dee, dep]
    by_cases h : k = 3
    · rw [if_pos h, if_pos h]
      have := deeL_law l m 0 h1 (by omega) (by omega)
      omega
    · rw [if_neg h, if_neg h]; omega
theorem deeL_law : ∀ (l : List Te) (m d : Int), 1 ≤ m → 0 ≤ d → d ≤ m - 1 → deeL l m d = min (m - 1) (max d (depL l))
  | [], m, d, h1, h2, h3 => by rw [deeL, depL]; omega
  | x :: r, m, d, h1, h2, h3 => by
    rw [deeL, depL]
    by_cases h : 1 < m
    · rw [if_pos h]
      have a := dee_law x (m - 1) (by omega)
      have b := deeL_law r m (max d (dee x (m - 1))) h1 (by omega) (by omega)
      omega
    · rw [if_neg h]
      omega
end
/-- a symbol that can be a variable -/
def varB (p n : List UInt8) : Bool := symOk ⟨p, n⟩ && !(decide (p = lispB) && decide (n = nilB)) && !(decide (p = lispB) && decide (n = [116]))
mutual
def frm : Te → Bool
  | ⟨k, p, n, o, l⟩ =>
    if k = 1 then varB p n && decide (o = zOb) && decide (l.length = 0)
    else if k = 2 then (decide (p = []) && decide (n = [])) && o.validB && decide (l.length = 0)
    else if k = 3 then symOk ⟨p, n⟩ && decide (o = zOb) && decide (l.length ≤ 8) && frmL l
    else false
def frmL : List Te → Bool
  | [] => true
  | x :: r => frm x && frmL r
end
/-- a valid term -/
def valid (t : Te) : Bool := decide (t.nods ≤ 3000) && decide (t.dep ≤ 200) && t.frm
/-- lengths within Go's bounds, numerals within the bulk's, all the way down -/
inductive Bd : Te → Prop
  | mk (t : Te) (hv : t.val.Wf) (hs : t.val.Sm) (hp : t.np.length ≤ 9223372036854775807) (hn : t.nn.length ≤ 9223372036854775807) (hl : t.args.length ≤ 9223372036854775807) (h : ∀ x ∈ t.args, Bd x) : Bd t
theorem Bd.parts {t : Te} (h : t.Bd) : t.val.Wf ∧ t.val.Sm ∧ t.np.length ≤ 9223372036854775807 ∧ t.nn.length ≤ 9223372036854775807 ∧ t.args.length ≤ 9223372036854775807 := by cases h with | mk _ hv hs hp hn hl hh => exact ⟨hv, hs, hp, hn, hl⟩
theorem Bd.kids {t x : Te} (h : t.Bd) (hx : x ∈ t.args) : x.Bd := by cases h with | mk _ hv hs hp hn hl hh => exact hh x hx
end Te
end Go.Proofs.YtendgffijciehaaGreatDoor
/- Reading and translating, as plain functions: the words, tokens, objects and terms of a text, for the texts that use few letters. -/
namespace Go.Proofs.YtendgffijciehaaGreatDoor
open Go.RowKit

namespace Rdr
/- letters -/
def blk (c : UInt8) : Bool := c == 32 || c == 9 || c == 10 || c == 13
def cst (c : UInt8) : Bool := decide (33 ≤ c.toNat) && decide (c.toNat ≤ 126) && !(c == 40) && !(c == 41) && !(c == 39) && !(c == 34) && !(c == 59) && !(c == 124) && !(c == 58)
def dig (c : UInt8) : Bool := decide (48 ≤ c.toNat) && decide (c.toNat ≤ 57)
/-- a letter of the built-in text: a blank, a parenthesis, or part of a word, and none of those that begin something else -/
def few (c : UInt8) : Bool := blk c || c == 40 || c == 41 || (cst c && !(c == 35) && !(c == 46) && !(c == 47))
/-- a word that has the form of a number -/
def isNum (w : List UInt8) : Bool :=
  let r := if w.head? = some 45 then w.drop 1 else w
  !(r.takeWhile dig).isEmpty && (r.takeWhile dig).length == r.length
structure Tok where
  kind : Int
  pos : Nat
  text : List UInt8
  den : List UInt8
/-- the tokens of what is left of a text, from the offset i on: blanks, parentheses and words -/
def toks : Nat → Nat → List UInt8 → List Tok
  | 0, _, _ => []
  | _ + 1, i, [] => [⟨0, i, [], []⟩]
  | f + 1, i, c :: r =>
    if blk c then toks f (i + 1) r
    else if c == 40 then ⟨1, i, [], []⟩ :: toks f (i + 1) r
    else if c == 41 then ⟨2, i, [], []⟩ :: toks f (i + 1) r
    else (if isNum (c :: r.takeWhile cst) then ⟨5, i, c :: r.takeWhile cst, [49]⟩ else ⟨6, i, c :: r.takeWhile cst, []⟩) :: toks f (i + ((r.takeWhile cst).length + 1)) (r.dropWhile cst)
/-- a word that this reader takes: one of three numbers, or a name of at most 40 letters -/
def wOK (w : List UInt8) : Bool := if isNum w then w == [48] || w == [49] || w == [45, 49] else decide (w.length ≤ 40) && (match w with | [] => false | c :: _ => !(c == 45) && !dig c) && !(w == [46])
def toksOK (l : List Tok) : Bool := l.all fun t => if t.kind = 5 ∨ t.kind = 6 then wOK t.text else true
def numOf (w : List UInt8) : Rat := if w = [49] then 1 else if w = [45, 49] then -1 else 0
/- objects -/
mutual
def prO : Nat → Nat → List Tok → Option (Tr × List Tok)
  | 0, _, _ => none
  | f + 1, d, ts => match ts with
    | [] => none
    | t :: r =>
      if t.kind = 5 then some (.num (numOf t.text), r)
      else if t.kind = 6 then some (.sym lispB t.text, r)
      else if t.kind = 1 ∧ d ≤ 200 then match prL f (d + 1) r with
        | some (l, r') => some (Tr.list l, r')
        | none => none
      else none
def prL : Nat → Nat → List Tok → Option (List Tr × List Tok)
  | 0, _, _ => none
  | f + 1, d, ts => match ts with
    | [] => none
    | t :: r =>
      if t.kind = 2 then some ([], r)
      else match prO f d (t :: r) with
        | some (x, r1) => match prL f d r1 with
          | some (l, r2) => some (x :: l, r2)
          | none => none
        | none => none
end
def prs : Nat → List Tok → Option (List Tr)
  | 0, _ => none
  | f + 1, ts => match ts with
    | [] => none
    | t :: r =>
      if t.kind = 0 then some []
      else match prO f 0 (t :: r) with
        | some (x, r1) => match prs f r1 with
          | some l => some (x :: l)
          | none => none
        | none => none
/- terms -/
def items : Tr → Option (List Tr)
  | .cons a d => match items d with
    | some l => some (a :: l)
    | none => none
  | .sym p n => if p = lispB ∧ n = nilB then some [] else none
  | _ => none
def call (n : List UInt8) (l : List Tr) : Tr := .cons (.sym lispB n) (Tr.list l)
def nilX : Tr := .sym lispB nilB
def tX : Tr := .sym lispB [116]
def expand (n : List UInt8) (l : List Tr) : Option Tr :=
  if n = [108, 105, 115, 116] then match l with
    | [] => some nilX
    | x :: r => some (call [99, 111, 110, 115] [x, call n r])
  else if n = [97, 112, 112, 101, 110, 100] then match l with
    | [] => some nilX
    | [x] => some x
    | x :: r => some (call [98, 105, 110, 97, 114, 121, 45, 97, 112, 112, 101, 110, 100] [x, call n r])
  else if n = [97, 110, 100] then match l with
    | [] => some tX
    | [x] => some x
    | x :: r => some (call Te.ifB [x, call n r, nilX])
  else if n = [111, 114] then match l with
    | [] => some nilX
    | [x] => some x
    | x :: r => some (call Te.ifB [x, x, call n r])
  else if n = [99, 111, 110, 100] then match l with
    | [] => some nilX
    | x :: r => match items x with
      | some [a, b] => some (call Te.ifB [a, b, call n r])
      | _ => none
  else if n = [43] then match l with
    | [x, y] => some (call [98, 105, 110, 97, 114, 121, 45, 43] [x, y])
    | x :: y :: z :: r => some (call [98, 105, 110, 97, 114, 121, 45, 43] [x, call n (y :: z :: r)])
    | _ => none
  else none
/-- the macros of the package lisp -/
def macros : List (List UInt8) := [[108, 105, 115, 116], [108, 105, 115, 116, 42], [97, 110, 100], [111, 114], [99, 111, 110, 100], [43], [42], [45], [47], [60, 61], [62], [62, 61], [97, 112, 112, 101, 110, 100]]
def special : List (List UInt8) := [[113, 117, 111, 116, 101], [108, 101, 116], [108, 101, 116, 42]]
mutual
def trn (ar : List UInt8 → Option Nat) : Nat → Int → Tr → Option (Te × Int)
  | 0, _, _ => none
  | f + 1, m, x => match x with
    | .num q => if q = 0 ∨ q = 1 ∨ q = -1 then some (Te.con (Tr.num q).ob, m) else none
    | .txt _ => none
    | .sym p n => if p.length ≤ 1000 ∧ n.length ≤ 1000 then (if Te.varB p n then some (⟨1, p, n, Te.zOb, []⟩, m) else some (Te.con (Tr.sym p n).ob, m)) else none
    | .cons a d => match items (.cons a d) with
      | some (.sym p n :: l) =>
        if p = lispB ∧ n.length ≤ 1000 ∧ n ∉ special ∧ l.length ≤ 500 then
          if n ∈ macros then match expand n l with
            | some o => if 1 ≤ m then trn ar f (m - 1) o else none
            | none => none
          else match trnL ar f m l with
            | some (ts, m') => if ar n = some ts.length then some (⟨3, p, n, Te.zOb, ts⟩, m') else none
            | none => none
        else none
      | _ => none
def trnL (ar : List UInt8 → Option Nat) : Nat → Int → List Tr → Option (List Te × Int)
  | 0, _, _ => none
  | f + 1, m, l => match l with
    | [] => some ([], m)
    | x :: r => match trn ar f m x with
      | some (t, m1) => match trnL ar f m1 r with
        | some (ts, m2) => some (t :: ts, m2)
        | none => none
      | none => none
end
/- entries -/
structure Fnc where
  nm : List UInt8
  ps : List (List UInt8)
  guard : Te
  body : Te
  measure : Te
def pars : List Tr → Option (List (List UInt8))
  | [] => some []
  | .sym p n :: r => if p = lispB then (pars r).map (n :: ·) else none
  | _ => none
/-- the form of an option of a definition, from the third item on -/
def option (nm : List UInt8) : List Tr → Option (Option Tr)
  | x :: y :: r => match items x with
    | some [.sym p n, b] => if p = lispB ∧ n = nm then some (some b) else option nm (y :: r)
    | _ => none
  | _ => some none
def prim (prims : List (List UInt8 × Nat)) (n : List UInt8) : Option Nat := (prims.find? fun x => x.1 == n).map (·.2)
def arity (prims : List (List UInt8 × Nat)) (ws : List Fnc) (nm : List UInt8) (ps : List (List UInt8)) (n : List UInt8) : Option Nat :=
  if nm = n then some ps.length else match prim prims n with
    | some k => some k
    | none => (ws.find? fun f => f.nm == n).map (·.ps.length)
def trm (ar : List UInt8 → Option Nat) (x : Tr) : Option Te := match trn ar 100 500 x with
  | some (t, _) => if t.valid then some t else none
  | none => none
def optT (ar : List UInt8 → Option Nat) (d : Te) : Option (Option Tr) → Option Te
  | none => none
  | some none => some d
  | some (some o) => trm ar o
def guardB : List UInt8 := [103, 117, 97, 114, 100]
def measB : List UInt8 := [109, 101, 97, 115, 117, 114, 101]
def entry (prims : List (List UInt8 × Nat)) (ws : List Fnc) (form : Tr) : Option Fnc := match items form with
  | some (d :: .sym p nm :: px :: y :: r) => match items px with
    | some pl => match pars pl with
      | some ps =>
        if p = lispB ∧ nm.length ≤ 1000 ∧ ps ≠ [] ∧ ps.length ≤ 8 ∧ r.length ≤ 100 then
          match trm (arity prims ws nm ps) ((y :: r).getLast (by simp)), optT (arity prims ws nm ps) Te.yesT (option guardB (y :: r)), optT (arity prims ws nm ps) Te.zTe (option measB (y :: r)) with
          | some b, some g, some m => some ⟨nm, ps, g, b, m⟩
          | _, _, _ => none
        else none
      | none => none
    | none => none
  | _ => none
def world (prims : List (List UInt8 × Nat)) : List Tr → List Fnc → Option (List Fnc)
  | [], ws => some ws
  | x :: r, ws => match entry prims ws x with
    | some f => world prims r (ws ++ [f])
    | none => none
end Rdr
/-- the built-in text -/
def textB : List UInt8 := [40, 100, 101, 102, 117, 110, 32, 110, 111, 116, 32, 40, 112, 41, 32, 40, 105, 102, 32, 112, 32, 110, 105, 108, 32, 116, 41, 41, 10, 40, 100, 101, 102, 117, 110, 32, 105, 109, 112, 108, 105, 101, 115, 32, 40, 112, 32, 113, 41, 32, 40, 105, 102, 32, 112, 32, 40, 105, 102, 32, 113, 32, 116, 32, 110, 105, 108, 41, 32, 116, 41, 41, 10, 40, 100, 101, 102, 117, 110, 32, 105, 102, 102, 32, 40, 112, 32, 113, 41, 32, 40, 105, 102, 32, 112, 32, 40, 105, 102, 32, 113, 32, 116, 32, 110, 105, 108, 41, 32, 40, 105, 102, 32, 113, 32, 110, 105, 108, 32, 116, 41, 41, 41, 10, 40, 100, 101, 102, 117, 110, 32, 98, 111, 111, 108, 101, 97, 110, 112, 32, 40, 120, 41, 32, 40, 105, 102, 32, 40, 101, 113, 117, 97, 108, 32, 120, 32, 116, 41, 32, 116, 32, 40, 101, 113, 117, 97, 108, 32, 120, 32, 110, 105, 108, 41, 41, 41, 10, 40, 100, 101, 102, 117, 110, 32, 115, 121, 110, 116, 97, 120, 112, 32, 40, 120, 41, 32, 116, 41, 10, 40, 100, 101, 102, 117, 110, 32, 97, 116, 111, 109, 32, 40, 120, 41, 32, 40, 110, 111, 116, 32, 40, 99, 111, 110, 115, 112, 32, 120, 41, 41, 41, 10, 40, 100, 101, 102, 117, 110, 32, 101, 110, 100, 112, 32, 40, 120, 41, 32, 40, 103, 117, 97, 114, 100, 32, 40, 111, 114, 32, 40, 99, 111, 110, 115, 112, 32, 120, 41, 32, 40, 101, 113, 117, 97, 108, 32, 120, 32, 110, 105, 108, 41, 41, 41, 32, 40, 110, 111, 116, 32, 40, 99, 111, 110, 115, 112, 32, 120, 41, 41, 41, 10, 40, 100, 101, 102, 117, 110, 32, 102, 105, 120, 32, 40, 120, 41, 32, 40, 105, 102, 32, 40, 114, 97, 116, 105, 111, 110, 97, 108, 112, 32, 120, 41, 32, 120, 32, 48, 41, 41, 10, 40, 100, 101, 102, 117, 110, 32, 105, 102, 105, 120, 32, 40, 120, 41, 32, 40, 105, 102, 32, 40, 105, 110, 116, 101, 103, 101, 114, 112, 32, 120, 41, 32, 120, 32, 48, 41, 41, 10, 40, 100, 101, 102, 117, 110, 32, 110, 97, 116, 112, 32, 40, 120, 41, 32, 40, 105, 102, 32, 40, 105, 110, 116, 101, 103, 101, 114, 112, 32, 120, 41, 32, 40, 110, 111, 116, 32, 40, 60, 32, 120, 32, 48, 41, 41, 32, 110, 105, 108, 41, 41, 10, 40, 100, 101, 102, 117, 110, 32, 112, 111, 115, 112, 32, 40, 120, 41, 32, 40, 105, 102, 32, 40, 105, 110, 116, 101, 103, 101, 114, 112, 32, 120, 41, 32, 40, 60, 32, 48, 32, 120, 41, 32, 110, 105, 108, 41, 41, 10, 40, 100, 101, 102, 117, 110, 32, 110, 102, 105, 120, 32, 40, 120, 41, 32, 40, 105, 102, 32, 40, 110, 97, 116, 112, 32, 120, 41, 32, 120, 32, 48, 41, 41, 10, 40, 100, 101, 102, 117, 110, 32, 122, 112, 32, 40, 120, 41, 32, 40, 103, 117, 97, 114, 100, 32, 40, 110, 97, 116, 112, 32, 120, 41, 41, 32, 40, 105, 102, 32, 40, 105, 110, 116, 101, 103, 101, 114, 112, 32, 120, 41, 32, 40, 110, 111, 116, 32, 40, 60, 32, 48, 32, 120, 41, 41, 32, 116, 41, 41, 10, 40, 100, 101, 102, 117, 110, 32, 99, 111, 117, 110, 116, 32, 40, 120, 41, 32, 40, 109, 101, 97, 115, 117, 114, 101, 32, 40, 99, 111, 117, 110, 116, 32, 120, 41, 41, 32, 40, 105, 102, 32, 40, 99, 111, 110, 115, 112, 32, 120, 41, 32, 40, 43, 32, 49, 32, 40, 99, 111, 117, 110, 116, 32, 40, 99, 97, 114, 32, 120, 41, 41, 32, 40, 99, 111, 117, 110, 116, 32, 40, 99, 100, 114, 32, 120, 41, 41, 41, 32, 48, 41, 41, 10, 40, 100, 101, 102, 117, 110, 32, 111, 45, 102, 105, 110, 112, 32, 40, 120, 41, 32, 40, 110, 111, 116, 32, 40, 99, 111, 110, 115, 112, 32, 120, 41, 41, 41, 10, 40, 100, 101, 102, 117, 110, 32, 111, 45, 102, 105, 114, 115, 116, 45, 101, 120, 112, 111, 110, 101, 110, 116, 32, 40, 120, 41, 32, 40, 105, 102, 32, 40, 99, 111, 110, 115, 112, 32, 120, 41, 32, 40, 99, 97, 114, 32, 40, 99, 97, 114, 32, 120, 41, 41, 32, 48, 41, 41, 10, 40, 100, 101, 102, 117, 110, 32, 111, 45, 102, 105, 114, 115, 116, 45, 99, 111, 101, 102, 102, 105, 99, 105, 101, 110, 116, 32, 40, 120, 41, 32, 40, 105, 102, 32, 40, 99, 111, 110, 115, 112, 32, 120, 41, 32, 40, 99, 100, 114, 32, 40, 99, 97, 114, 32, 120, 41, 41, 32, 120, 41, 41, 10, 40, 100, 101, 102, 117, 110, 32, 111, 45, 114, 101, 115, 116, 32, 40, 120, 41, 32, 40, 105, 102, 32, 40, 99, 111, 110, 115, 112, 32, 120, 41, 32, 40, 99, 100, 114, 32, 120, 41, 32, 48, 41, 41, 10, 40, 100, 101, 102, 117, 110, 32, 111, 60, 32, 40, 120, 32, 121, 41, 32, 40, 109, 101, 97, 115, 117, 114, 101, 32, 40, 99, 111, 117, 110, 116, 32, 120, 41, 41, 10, 32, 32, 40, 99, 111, 110, 100, 32, 40, 40, 111, 45, 102, 105, 110, 112, 32, 120, 41, 32, 40, 105, 102, 32, 40, 99, 111, 110, 115, 112, 32, 121, 41, 32, 116, 32, 40, 60, 32, 120, 32, 121, 41, 41, 41, 10, 32, 32, 32, 32, 32, 32, 32, 32, 40, 40, 111, 45, 102, 105, 110, 112, 32, 121, 41, 32, 110, 105, 108, 41, 10, 32, 32, 32, 32, 32, 32, 32, 32, 40, 40, 110, 111, 116, 32, 40, 101, 113, 117, 97, 108, 32, 40, 111, 45, 102, 105, 114, 115, 116, 45, 101, 120, 112, 111, 110, 101, 110, 116, 32, 120, 41, 32, 40, 111, 45, 102, 105, 114, 115, 116, 45, 101, 120, 112, 111, 110, 101, 110, 116, 32, 121, 41, 41, 41, 10, 32, 32, 32, 32, 32, 32, 32, 32, 32, 40, 111, 60, 32, 40, 111, 45, 102, 105, 114, 115, 116, 45, 101, 120, 112, 111, 110, 101, 110, 116, 32, 120, 41, 32, 40, 111, 45, 102, 105, 114, 115, 116, 45, 101, 120, 112, 111, 110, 101, 110, 116, 32, 121, 41, 41, 41, 10, 32, 32, 32, 32, 32, 32, 32, 32, 40, 40, 110, 111, 116, 32, 40, 101, 113, 117, 97, 108, 32, 40, 111, 45, 102, 105, 114, 115, 116, 45, 99, 111, 101, 102, 102, 105, 99, 105, 101, 110, 116, 32, 120, 41, 32, 40, 111, 45, 102, 105, 114, 115, 116, 45, 99, 111, 101, 102, 102, 105, 99, 105, 101, 110, 116, 32, 121, 41, 41, 41, 10, 32, 32, 32, 32, 32, 32, 32, 32, 32, 40, 60, 32, 40, 111, 45, 102, 105, 114, 115, 116, 45, 99, 111, 101, 102, 102, 105, 99, 105, 101, 110, 116, 32, 120, 41, 32, 40, 111, 45, 102, 105, 114, 115, 116, 45, 99, 111, 101, 102, 102, 105, 99, 105, 101, 110, 116, 32, 121, 41, 41, 41, 10, 32, 32, 32, 32, 32, 32, 32, 32, 40, 116, 32, 40, 111, 60, 32, 40, 111, 45, 114, 101, 115, 116, 32, 120, 41, 32, 40, 111, 45, 114, 101, 115, 116, 32, 121, 41, 41, 41, 41, 41, 10, 40, 100, 101, 102, 117, 110, 32, 111, 45, 112, 32, 40, 120, 41, 32, 40, 109, 101, 97, 115, 117, 114, 101, 32, 40, 99, 111, 117, 110, 116, 32, 120, 41, 41, 10, 32, 32, 40, 105, 102, 32, 40, 111, 45, 102, 105, 110, 112, 32, 120, 41, 10, 32, 32, 32, 32, 32, 32, 40, 110, 97, 116, 112, 32, 120, 41, 10, 32, 32, 32, 32, 40, 97, 110, 100, 32, 40, 99, 111, 110, 115, 112, 32, 40, 99, 97, 114, 32, 120, 41, 41, 10, 32, 32, 32, 32, 32, 32, 32, 32, 32, 40, 111, 45, 112, 32, 40, 111, 45, 102, 105, 114, 115, 116, 45, 101, 120, 112, 111, 110, 101, 110, 116, 32, 120, 41, 41, 10, 32, 32, 32, 32, 32, 32, 32, 32, 32, 40, 110, 111, 116, 32, 40, 101, 113, 117, 97, 108, 32, 40, 111, 45, 102, 105, 114, 115, 116, 45, 101, 120, 112, 111, 110, 101, 110, 116, 32, 120, 41, 32, 48, 41, 41, 10, 32, 32, 32, 32, 32, 32, 32, 32, 32, 40, 112, 111, 115, 112, 32, 40, 111, 45, 102, 105, 114, 115, 116, 45, 99, 111, 101, 102, 102, 105, 99, 105, 101, 110, 116, 32, 120, 41, 41, 10, 32, 32, 32, 32, 32, 32, 32, 32, 32, 40, 111, 45, 112, 32, 40, 111, 45, 114, 101, 115, 116, 32, 120, 41, 41, 10, 32, 32, 32, 32, 32, 32, 32, 32, 32, 40, 111, 60, 32, 40, 111, 45, 102, 105, 114, 115, 116, 45, 101, 120, 112, 111, 110, 101, 110, 116, 32, 40, 111, 45, 114, 101, 115, 116, 32, 120, 41, 41, 32, 40, 111, 45, 102, 105, 114, 115, 116, 45, 101, 120, 112, 111, 110, 101, 110, 116, 32, 120, 41, 41, 41, 41, 41, 10, 40, 100, 101, 102, 117, 110, 32, 108, 101, 110, 32, 40, 120, 41, 32, 40, 109, 101, 97, 115, 117, 114, 101, 32, 40, 99, 111, 117, 110, 116, 32, 120, 41, 41, 32, 40, 105, 102, 32, 40, 99, 111, 110, 115, 112, 32, 120, 41, 32, 40, 43, 32, 49, 32, 40, 108, 101, 110, 32, 40, 99, 100, 114, 32, 120, 41, 41, 41, 32, 48, 41, 41, 10, 40, 100, 101, 102, 117, 110, 32, 116, 114, 117, 101, 45, 108, 105, 115, 116, 112, 32, 40, 120, 41, 32, 40, 109, 101, 97, 115, 117, 114, 101, 32, 40, 99, 111, 117, 110, 116, 32, 120, 41, 41, 32, 40, 105, 102, 32, 40, 99, 111, 110, 115, 112, 32, 120, 41, 32, 40, 116, 114, 117, 101, 45, 108, 105, 115, 116, 112, 32, 40, 99, 100, 114, 32, 120, 41, 41, 32, 40, 101, 113, 117, 97, 108, 32, 120, 32, 110, 105, 108, 41, 41, 41, 10, 40, 100, 101, 102, 117, 110, 32, 98, 105, 110, 97, 114, 121, 45, 97, 112, 112, 101, 110, 100, 32, 40, 120, 32, 121, 41, 32, 40, 103, 117, 97, 114, 100, 32, 40, 116, 114, 117, 101, 45, 108, 105, 115, 116, 112, 32, 120, 41, 41, 32, 40, 109, 101, 97, 115, 117, 114, 101, 32, 40, 99, 111, 117, 110, 116, 32, 120, 41, 41, 10, 32, 32, 40, 105, 102, 32, 40, 99, 111, 110, 115, 112, 32, 120, 41, 32, 40, 99, 111, 110, 115, 32, 40, 99, 97, 114, 32, 120, 41, 32, 40, 98, 105, 110, 97, 114, 121, 45, 97, 112, 112, 101, 110, 100, 32, 40, 99, 100, 114, 32, 120, 41, 32, 121, 41, 41, 32, 121, 41, 41, 10, 40, 100, 101, 102, 117, 110, 32, 114, 101, 118, 32, 40, 120, 41, 32, 40, 109, 101, 97, 115, 117, 114, 101, 32, 40, 99, 111, 117, 110, 116, 32, 120, 41, 41, 10, 32, 32, 40, 105, 102, 32, 40, 99, 111, 110, 115, 112, 32, 120, 41, 32, 40, 97, 112, 112, 101, 110, 100, 32, 40, 114, 101, 118, 32, 40, 99, 100, 114, 32, 120, 41, 41, 32, 40, 108, 105, 115, 116, 32, 40, 99, 97, 114, 32, 120, 41, 41, 41, 32, 110, 105, 108, 41, 41, 10, 40, 100, 101, 102, 117, 110, 32, 109, 101, 109, 98, 101, 114, 45, 101, 113, 117, 97, 108, 32, 40, 101, 32, 120, 41, 32, 40, 103, 117, 97, 114, 100, 32, 40, 116, 114, 117, 101, 45, 108, 105, 115, 116, 112, 32, 120, 41, 41, 32, 40, 109, 101, 97, 115, 117, 114, 101, 32, 40, 99, 111, 117, 110, 116, 32, 120, 41, 41, 10, 32, 32, 40, 105, 102, 32, 40, 99, 111, 110, 115, 112, 32, 120, 41, 32, 40, 105, 102, 32, 40, 101, 113, 117, 97, 108, 32, 101, 32, 40, 99, 97, 114, 32, 120, 41, 41, 32, 120, 32, 40, 109, 101, 109, 98, 101, 114, 45, 101, 113, 117, 97, 108, 32, 101, 32, 40, 99, 100, 114, 32, 120, 41, 41, 41, 32, 110, 105, 108, 41, 41, 10, 40, 100, 101, 102, 117, 110, 32, 97, 115, 115, 111, 99, 45, 101, 113, 117, 97, 108, 32, 40, 107, 32, 97, 41, 32, 40, 109, 101, 97, 115, 117, 114, 101, 32, 40, 99, 111, 117, 110, 116, 32, 97, 41, 41, 10, 32, 32, 40, 99, 111, 110, 100, 32, 40, 40, 110, 111, 116, 32, 40, 99, 111, 110, 115, 112, 32, 97, 41, 41, 32, 110, 105, 108, 41, 10, 32, 32, 32, 32, 32, 32, 32, 32, 40, 40, 97, 110, 100, 32, 40, 99, 111, 110, 115, 112, 32, 40, 99, 97, 114, 32, 97, 41, 41, 32, 40, 101, 113, 117, 97, 108, 32, 107, 32, 40, 99, 97, 114, 32, 40, 99, 97, 114, 32, 97, 41, 41, 41, 41, 32, 40, 99, 97, 114, 32, 97, 41, 41, 10, 32, 32, 32, 32, 32, 32, 32, 32, 40, 116, 32, 40, 97, 115, 115, 111, 99, 45, 101, 113, 117, 97, 108, 32, 107, 32, 40, 99, 100, 114, 32, 97, 41, 41, 41, 41, 41, 10, 40, 100, 101, 102, 117, 110, 32, 110, 116, 104, 32, 40, 110, 32, 120, 41, 32, 40, 103, 117, 97, 114, 100, 32, 40, 97, 110, 100, 32, 40, 110, 97, 116, 112, 32, 110, 41, 32, 40, 116, 114, 117, 101, 45, 108, 105, 115, 116, 112, 32, 120, 41, 41, 41, 32, 40, 109, 101, 97, 115, 117, 114, 101, 32, 40, 110, 102, 105, 120, 32, 110, 41, 41, 10, 32, 32, 40, 105, 102, 32, 40, 122, 112, 32, 110, 41, 32, 40, 99, 97, 114, 32, 120, 41, 32, 40, 110, 116, 104, 32, 40, 43, 32, 45, 49, 32, 110, 41, 32, 40, 99, 100, 114, 32, 120, 41, 41, 41, 41, 10, 40, 100, 101, 102, 117, 110, 32, 117, 112, 100, 97, 116, 101, 45, 110, 116, 104, 32, 40, 110, 32, 118, 32, 120, 41, 32, 40, 103, 117, 97, 114, 100, 32, 40, 97, 110, 100, 32, 40, 110, 97, 116, 112, 32, 110, 41, 32, 40, 116, 114, 117, 101, 45, 108, 105, 115, 116, 112, 32, 120, 41, 41, 41, 32, 40, 109, 101, 97, 115, 117, 114, 101, 32, 40, 110, 102, 105, 120, 32, 110, 41, 41, 10, 32, 32, 40, 105, 102, 32, 40, 122, 112, 32, 110, 41, 32, 40, 99, 111, 110, 115, 32, 118, 32, 40, 99, 100, 114, 32, 120, 41, 41, 32, 40, 99, 111, 110, 115, 32, 40, 99, 97, 114, 32, 120, 41, 32, 40, 117, 112, 100, 97, 116, 101, 45, 110, 116, 104, 32, 40, 43, 32, 45, 49, 32, 110, 41, 32, 118, 32, 40, 99, 100, 114, 32, 120, 41, 41, 41, 41, 41, 10]
end Go.Proofs.YtendgffijciehaaGreatDoor
/- Reading, as plain functions: the tokens of what is left of a text. -/
namespace Go.Proofs.YtendgffijciehaaGreatDoor
open Go.RowKit

namespace Rdr
theorem len_take_drop {α : Type} (p : α → Bool) (l : List α) : (l.takeWhile p).length + (l.dropWhile p).length = l.length := by
  rw [← List.length_append, List.takeWhile_append_dropWhile]
theorem drop_tw {α : Type} (p : α → Bool) (l : List α) : l.drop (l.takeWhile p).length = l.dropWhile p := by
  have h := List.takeWhile_append_dropWhile (p := p) (l := l)
  have e : (l.takeWhile p ++ l.dropWhile p).drop (l.takeWhile p).length = l.dropWhile p := List.drop_left
  rwa [h] at e
theorem toks_fuel : ∀ (f g i : Nat) (r : List UInt8), r.length < f → r.length < g → toks f i r = toks g i r := by
  intro f
  induction f with
  | zero => intro g i r h; omega
  | succ f ih =>
    intro g i r h1 h2
    cases g with
    | zero => omega
    | succ g =>
      cases r with
      | nil => rw [toks, toks]
      | cons c r =>
        rw [List.length_cons] at h1 h2
        rw [toks, toks]
        rw [ih g (i + 1) r (by omega) (by omega)]
        by_cases hb : blk c = true
        · rw [if_pos hb, if_pos hb]
        rw [if_neg hb, if_neg hb]
        by_cases h40 : (c == 40) = true
        · rw [if_pos h40, if_pos h40]
        rw [if_neg h40, if_neg h40]
        by_cases h41 : (c == 41) = true
        · rw [if_pos h41, if_pos h41]
        rw [if_neg h41, if_neg h41]
        have hl := len_take_drop cst r
        rw [ih g _ _ (by omega) (by omega)]
/-- the tokens of what is left of a text -/
def tk (i : Nat) (r : List UInt8) : List Tok := toks (r.length + 1) i r
theorem tk_nil (i : Nat) : tk i [] = [⟨0, i, [], []⟩] := by rw [tk, toks]
theorem tk_blk {i : Nat} {c : UInt8} {r : List UInt8} (h : blk c = true) : tk i (c :: r) = tk (i + 1) r := by
  rw [tk, toks, if_pos h]
  rfl
theorem tk_open {i : Nat} {r : List UInt8} : tk i (40 :: r) = ⟨1, i, [], []⟩ :: tk (i + 1) r := by
  rw [tk, toks, if_neg (by decide), if_pos (by decide)]
  rfl
theorem tk_close {i : Nat} {r : List UInt8} : tk i (41 :: r) = ⟨2, i, [], []⟩ :: tk (i + 1) r := by
  rw [tk, toks, if_neg (by decide), if_neg (by decide), if_pos (by decide)]
  rfl
/-- the token of a word -/
def wTok (i : Nat) (w : List UInt8) : Tok := if isNum w then ⟨5, i, w, [49]⟩ else ⟨6, i, w, []⟩
theorem cst_not {c : UInt8} (h : cst c = true) : blk c = false ∧ (c == 40) = false ∧ (c == 41) = false := by
  unfold cst at h
  simp only [Bool.and_eq_true, decide_eq_true_eq, Bool.not_eq_true'] at h
  obtain ⟨⟨⟨⟨⟨⟨⟨⟨h1, h2⟩, h3⟩, h4⟩, _⟩, _⟩, _⟩, _⟩, _⟩ := h
  refine ⟨?_, h3, h4⟩
  have ne : ∀ k : UInt8, k.toNat < 33 → (c == k) = false := fun k hk => by
    rw [beq_eq_false_iff_ne]
    intro e
    rw [e] at h1
    omega
  unfold blk
  rw [ne 32 (by decide), ne 9 (by decide), ne 10 (by decide), ne 13 (by decide)]
  rfl
theorem tk_word {i : Nat} {c : UInt8} {r : List UInt8} (h : cst c = true) : tk i (c :: r) = wTok i ((c :: r).takeWhile cst) :: tk (i + ((c :: r).takeWhile cst).length) ((c :: r).drop ((c :: r).takeWhile cst).length) := by
  obtain ⟨h1, h2, h3⟩ := cst_not h
  rw [drop_tw, List.takeWhile_cons, if_pos h, List.dropWhile_cons, if_pos h]
  rw [tk, toks, if_neg (by rw [h1]; decide), if_neg (by rw [h2]; decide), if_neg (by rw [h3]; decide)]
  simp only [List.length_cons]
  rw [tk, toks_fuel _ ((r.dropWhile cst).length + 1) _ _ (by have := len_take_drop cst r; omega) (by omega)]
  rfl
/-- blanks are passed over -/
theorem tk_skip : ∀ (i : Nat) (r : List UInt8), tk i r = tk (i + (r.takeWhile blk).length) (r.drop (r.takeWhile blk).length)
  | i, [] => rfl
  | i, c :: r => by
    cases h : blk c with
    | false => rw [List.takeWhile_cons, if_neg (by rw [h]; decide)]; rfl
    | true =>
      rw [tk_blk h, tk_skip (i + 1) r, List.takeWhile_cons, if_pos h, List.length_cons, List.drop_succ_cons]
      congr 1
      omega
end Rdr
end Go.Proofs.YtendgffijciehaaGreatDoor
