/- lispproverlaw3.Seed: trees of numbers; how one lies in memory; arguments opened; the ordinals made of them. -/
import Derived.Test.YtgphkgmhcmffnaaGreatDoorOrdD
import Derived.Test.YtgphkgmhcmffnaaGreatDoorMkP
namespace Go.Proofs.YtgphkgmhcmffnaaGreatDoor
open Go.RowKit Go.ChangeShapes Go.WideShapes Go.Deep

structure Sd where
  n : Int
  l : List Sd
namespace Sd
mutual
def enc : Sd → List Dt
  | ⟨n, l⟩ => [.val (.int .i64 n), .row (encL l)]
def encL : List Sd → List (List Dt)
  | [] => []
  | o :: r => enc o :: encL r
end
mutual
def size : Sd → Nat
  | ⟨_, l⟩ => sizeL l + 1
def sizeL : List Sd → Nat
  | [] => 0
  | o :: r => size o + sizeL r
end
theorem encL_map (l : List Sd) : encL l = l.map enc := by
  induction l with
  | nil => rfl
  | cons o r ih => rw [encL, ih]; rfl
theorem enc_eq (o : Sd) : o.enc = [.val (.int .i64 o.n), .row (o.l.map enc)] := by
  cases o; rw [enc, encL_map]
theorem enc_len (o : Sd) : o.enc.length = 2 := by rw [enc_eq]; rfl
theorem size_pos (o : Sd) : 0 < o.size := by cases o; rw [size]; omega
theorem sizeL_mem {l : List Sd} {o : Sd} (h : o ∈ l) : o.size ≤ sizeL l := by
  induction l with
  | nil => cases h
  | cons x r ih =>
    rw [sizeL]
    rcases List.mem_cons.1 h with rfl | h
    · omega
    · have := ih h; omega
theorem size_eq (o : Sd) : o.size = sizeL o.l + 1 := by obtain ⟨n, l⟩ := o; rfl
theorem size_l {o x : Sd} (h : x ∈ o.l) : x.size < o.size := by
  have := sizeL_mem h
  rw [size_eq o]
  omega
theorem ind {motive : Sd → Prop} (step : ∀ o, (∀ x ∈ o.l, motive x) → motive o) (o : Sd) : motive o := by
  have : ∀ n (o : Sd), o.size ≤ n → motive o := by
    intro n
    induction n with
    | zero => intro o h; have := size_pos o; omega
    | succ n ih => intro o h; exact step o fun x hx => ih x (by have := size_l hx; omega)
  exact this o.size o (Nat.le_refl _)
inductive Wf : Sd → Prop
  | mk (o : Sd) (n0 : -9223372036854775808 ≤ o.n) (n1 : o.n ≤ 9223372036854775807) (hl : o.l.length ≤ 9223372036854775807) (h : ∀ x ∈ o.l, Wf x) : Wf o
theorem Wf.kids {o x : Sd} (h : o.Wf) (hx : x ∈ o.l) : x.Wf := by
  cases h with
  | mk _ _ _ _ h => exact h x hx
theorem Wf.len {o : Sd} (h : o.Wf) : o.l.length ≤ 9223372036854775807 := by cases h; assumption
/-- at most three sons, all the way down -/
inductive Fit : Sd → Prop
  | mk (o : Sd) (hl : o.l.length ≤ 3) (h : ∀ x ∈ o.l, Fit x) : Fit o
theorem Fit.kids {o x : Sd} (h : o.Fit) (hx : x ∈ o.l) : x.Fit := by
  cases h with
  | mk _ _ h => exact h x hx
theorem Fit.len {o : Sd} (h : o.Fit) : o.l.length ≤ 3 := by cases h; assumption
end Sd
abbrev sdV (o : Sd) (P : Value) : Value := .agg #[.int .i64 o.n, P]
abbrev sdCells (o : Sd) (P : Value) : Array Value := #[.int .i64 o.n, P]
theorem Rd.seeds {ok : Nat → Prop} {w wr : World} {A : Option Addr} {n c : Nat} {l : List Sd} (h : Rd ok w (.slice A n c) (.row (l.map Sd.enc))) (hbr : Below w.heap.size w wr) {i : Nat} (hi : i < n) :
    ∃ (b o : Nat) (hl : i < l.length) (A' : Option Addr) (n' c' : Nat), A = some ⟨b, o, none⟩ ∧ b < w.heap.size ∧ ok b ∧
      wr.cell? ⟨b, o + i * 2, none⟩ = some (.int .i64 (l[i]).n) ∧ wr.cell? ⟨b, o + i * 2 + 1, none⟩ = some (.slice A' n' c') ∧ Rd ok w (.slice A' n' c') (.row ((l[i]).l.map Sd.enc)) := by
  have hlen := h.len
  rw [List.length_map] at hlen
  obtain ⟨b, o, k, rfl, hb, hok, hk, hf⟩ := h.cells (by omega)
  have e : (l.map Sd.enc)[i]'(by rw [List.length_map]; omega) = (l[i]'(by omega)).enc := List.getElem_map _
  have hk' := hk i (by rw [List.length_map]; omega)
  rw [e, Sd.enc_len] at hk'
  subst hk'
  have hf' : ∀ j (hj : j < 2), ∃ u, w.cell? ⟨b, o + i * 2 + j, none⟩ = some u ∧ Rd ok w u ((l[i]'(by omega)).enc[j]'(by rw [Sd.enc_len]; exact hj)) := fun j hj => by
    obtain ⟨u, h1, h2⟩ := hf i j (by rw [List.length_map]; omega) (by rw [e, Sd.enc_len]; exact hj)
    simp only [e] at h2
    exact ⟨u, h1, h2⟩
  simp only [Sd.enc_eq] at hf'
  obtain ⟨u0, h0, r0⟩ := hf' 0 (by omega)
  obtain ⟨u1, h1, r1⟩ := hf' 1 (by omega)
  simp only [List.getElem_cons_zero, List.getElem_cons_succ] at r0 r1
  rw [r0.val_eq] at h0
  obtain ⟨A', n', c', rfl, _⟩ := r1.slice
  exact ⟨b, o, by omega, A', n', c', rfl, hb, hok, (hbr.cell (p := ⟨b, o + i * 2, none⟩) hb).trans h0, (hbr.cell (p := ⟨b, o + i * 2 + 1, none⟩) hb).trans h1, r1⟩
section
variable {H : Type} {enc : TypeId × Value → H} {w : World} {base : Nat} {spare : Nat → Bool} {held : Bool}
theorem cellsSd : Tryz.prog.cellsOf 24 = 2 := by kernel_rfl
theorem cellsIs : Tryz.prog.cellsOf 3 = 1 := by kernel_rfl
theorem cellsSds : Tryz.prog.cellsOf 22 = 1 := by kernel_rfl
set_option maxRecDepth 100000 in
theorem read_seed : ∀ (fuel : Nat) (cs : List Value) (x : DataW H × List MemPlace), DataW.trod enc Tryz.prog w base spare held fuel 24 cs = some x → ∃ r : Sd, r.Wf ∧ Reads w cs r.enc := by
  intro fuel
  induction fuel using Nat.strongRecOn with
  | _ fuel ih =>
    intro cs x h
    obtain ⟨xs, n, hfu, _, hlen, hxl, hf⟩ := DataW.trod_struct Tryz.underlying24 h
    rw [cellsSd] at hlen
    match cs, hlen with
    | [c0, c1], _ =>
      have f0 : DataW.trod enc Tryz.prog w base spare held n 3 (List.take (Tryz.prog.cellsOf 3) (List.drop 0 [c0, c1])) = xs[0]? := hf 0 _ rfl
      have f1 : DataW.trod enc Tryz.prog w base spare held n 22 (List.take (Tryz.prog.cellsOf 22) (List.drop 1 [c0, c1])) = xs[1]? := hf 1 _ rfl
      rw [cellsIs] at f0
      rw [cellsSds] at f1
      match xs, hxl with
      | [y0, y1], _ =>
        replace f0 : DataW.trod enc Tryz.prog w base spare held n 3 [c0] = some y0 := f0
        replace f1 : DataW.trod enc Tryz.prog w base spare held n 22 [c1] = some y1 := f1
        obtain ⟨m, e0, _, w0⟩ := DataW.trod_int Tryz.underlying3 f0
        obtain ⟨A, n', c', l, e1, hr, hn, hg⟩ := read_rows Sd.enc Sd.Wf 2 (by omega) Sd.enc_len Tryz.underlying22 cellsSd f1 (fun n'' hn'' cs' y hy => ih n'' (by omega) cs' y hy)
        injection e0 with e0
        injection e1 with e1
        have b0 := bounds_i64 w0
        have hll : l.length = n' := by have := hr.len; rwa [List.length_map] at this
        refine ⟨⟨m, l⟩, .mk _ b0.1 b0.2 (by show l.length ≤ _; rw [hll]; unfold maxLen at hn; exact hn) hg, by rw [Sd.enc_len]; rfl, fun j hj => ?_⟩
        simp only [Sd.enc_eq]
        rw [Sd.enc_len] at hj
        rcases j with _ | _ | j
        · exact ⟨c0, rfl, by rw [e0]; exact .val _⟩
        · exact ⟨c1, rfl, by rw [e1]; exact hr⟩
        · omega
set_option maxRecDepth 100000 in
theorem open_seed {r : Reach} {b0 : Nat} {v : Value} {d : DataW H} {p : List MemPlace} (hv : Value.okWide Tryz.prog w r b0 24 v) (h : DataW.Trod enc Tryz.prog w base spare held 24 v d p) :
    ∃ (s : Sd) (A : Option Addr) (n c : Nat), v = sdV s (.slice A n c) ∧ s.Wf ∧ Rd (fun _ => True) w (.slice A n c) (.row (s.l.map Sd.enc)) := by
  obtain ⟨cs, rfl, _⟩ := okWide_struct Tryz.underlying24 hv
  obtain ⟨fuel, hf⟩ := h
  have hf' : DataW.trod enc Tryz.prog w base spare held fuel 24 cs.toList = some (d, p) := hf
  obtain ⟨s, hw, hl, hr⟩ := read_seed fuel _ _ hf'
  rw [Sd.enc_len] at hl
  obtain ⟨l⟩ := cs
  match l, hl with
  | [x0, x1], _ =>
    simp only [Sd.enc_eq] at hr
    obtain ⟨u0, e0, r0⟩ := hr 0 (by simp)
    obtain ⟨u1, e1, r1⟩ := hr 1 (by simp)
    obtain rfl : x0 = u0 := Option.some.inj e0
    obtain rfl : x1 = u1 := Option.some.inj e1
    obtain rfl := r0.val_eq
    obtain ⟨A, n, c, rfl, _⟩ := Rd.slice r1
    exact ⟨s, A, n, c, rfl, hw, r1⟩
end

/-! ### the ordinals made of seeds -/
namespace Tr
abbrev nat (n : Int) : Tr := .num (n : Rat)
/-- the term that a son stands for -/
def sonT (o : Tr) (n : Int) : Tr := .cons (.cons (add o (nat 1)) (nat (1 + n % 3))) zero
end Tr
mutual
def madeT : Sd → Tr
  | ⟨n, l⟩ => madeF l (Tr.nat (n % 5))
def madeF : List Sd → Tr → Tr
  | [], b => b
  | ⟨n, l⟩ :: r, b => Tr.add (Tr.sonT (madeF l (Tr.nat (n % 5))) n) (madeF r b)
end
theorem madeT_eq (s : Sd) : madeT s = madeF s.l (Tr.nat (s.n % 5)) := by cases s; rw [madeT]
theorem madeF_cons (x : Sd) (r : List Sd) (b : Tr) : madeF (x :: r) b = Tr.add (Tr.sonT (madeT x) x.n) (madeF r b) := by
  obtain ⟨n, l⟩ := x
  rw [madeF, madeT]
namespace Tr
/-- all numbers are integers from 0 to B -/
def Le (B : Nat) : Tr → Prop
  | .num q => ∃ n : Nat, q = ((n : Int) : Rat) ∧ n ≤ B
  | .txt _ => False
  | .sym _ _ => False
  | .cons a d => a.Le B ∧ d.Le B
theorem Le.mono {B C : Nat} (h : B ≤ C) : ∀ {t : Tr}, t.Le B → t.Le C
  | .num q, ⟨n, h1, h2⟩ => ⟨n, h1, by omega⟩
  | .cons a d, hh => ⟨Le.mono h hh.1, Le.mono h hh.2⟩
theorem Le.exp {B : Nat} {t : Tr} (h : t.Le B) : t.exp.Le B := by
  rcases fin_or t with f | ⟨e, c, r, rfl⟩
  · rw [exp_fin f]; exact ⟨0, rfl, Nat.zero_le _⟩
  · exact h.1.1
theorem Le.val {B : Nat} {t : Tr} (h : t.Le B) (f : t.inf = false ∨ t.isNat = true) : t.isNat = true → ∃ n : Nat, t.val = ((n : Int) : Rat) ∧ n ≤ B := by
  intro hn
  obtain ⟨_, m, rfl⟩ := isNat_fin hn
  obtain ⟨n, h1, h2⟩ := h
  exact ⟨n, h1, h2⟩
theorem Le.add : ∀ {a b : Tr} {B C : Nat}, nf a = true → nf b = true → a.Le B → b.Le C → (Tr.add a b).Le (B + C) := by
  intro a
  induction a using sizeInd with
  | step a ih =>
    intro b B C ha hb h1 h2
    rcases fin_or a with f | ⟨e, k, r, rfl⟩
    · rw [add_fin f]
      split
      · exact h1.mono (by omega)
      · split
        · exact h2.mono (by omega)
        · rename_i h
          have fb : b.inf = false := by simpa using h
          rw [nf_fin f] at ha
          rw [nf_fin fb] at hb
          obtain ⟨n, e1, g1⟩ := h1.val (.inl f) ha
          obtain ⟨m, e2, g2⟩ := h2.val (.inl fb) hb
          refine ⟨n + m, ?_, by omega⟩
          rw [e1, e2, ← Rat.intCast_add]
          rfl
    · have p := nf_parts ha
      have hs := size_e e k r
      rw [add_inf]
      split
      · exact h1.mono (by omega)
      · split
        · exact h2.mono (by omega)
        · split
          · rename_i h3
            have hbi : b.inf = true := exp_pos (by rw [← h3]; exact p.hez)
            obtain ⟨e', k', r', rfl⟩ := inf_iff.1 hbi
            have p' := nf_parts hb
            obtain ⟨n, e1, g1⟩ := Le.val h1.1.2 (.inr p.hc) p.hc
            obtain ⟨m, e2, g2⟩ := Le.val h2.1.2 (.inr p'.hc) p'.hc
            refine ⟨⟨h1.1.1.mono (by omega), n + m, ?_, by omega⟩, h2.2.mono (by omega)⟩
            show k.val + k'.val = _
            rw [e1, e2, ← Rat.intCast_add]
            rfl
          · exact ⟨⟨h1.1.1.mono (by omega), h1.1.2.mono (by omega)⟩, ih r hs.2.2 p.hr hb h1.2 h2⟩
theorem size_add : ∀ a b : Tr, (Tr.add a b).size ≤ a.size + b.size := by
  intro a
  induction a using sizeInd with
  | step a ih =>
    intro b
    rcases fin_or a with f | ⟨e, k, r, rfl⟩
    · rw [add_fin f]
      split
      · omega
      · split
        · omega
        · have := size_pos a
          show 1 ≤ _
          omega
    · have hs := size_e e k r
      rw [add_inf]
      split
      · omega
      · split
        · omega
        · split
          · rcases fin_or b with fb | ⟨e', k', r', rfl⟩
            · have : b.rest = zero := by
                unfold rest
                split
                · cases fb
                · rfl
              rw [this]
              have h1 := size_pos k
              have h2 := size_pos r
              have h3 := size_pos b
              show e.size + 1 + 1 + 1 + 1 ≤ e.size + k.size + 1 + r.size + 1 + b.size
              omega
            · have h1 := size_pos k
              have h2 := size_pos k'
              show e.size + 1 + 1 + r'.size + 1 ≤ e.size + k.size + 1 + r.size + 1 + (e'.size + k'.size + 1 + r'.size + 1)
              omega
          · have := ih r hs.2.2 b
            show e.size + k.size + 1 + (Tr.add r b).size + 1 ≤ e.size + k.size + 1 + r.size + 1 + b.size
            omega
theorem nf_nat {n : Int} (h : 0 ≤ n) : nf (nat n) = true := by
  rw [nf_fin rfl]
  obtain ⟨m, rfl⟩ := Int.eq_ofNat_of_zero_le h
  exact isNat_num m
theorem le_nat {n : Int} {B : Nat} (h : 0 ≤ n) (hB : n ≤ B) : (nat n).Le B := by
  obtain ⟨m, rfl⟩ := Int.eq_ofNat_of_zero_le h
  exact ⟨m, rfl, by omega⟩
theorem Le.good {B : Nat} (hB : B < 10 ^ 50) : ∀ {t : Tr}, t.Le B → t.good = true
  | .num q, ⟨n, h1, h2⟩ => by
    subst h1
    have key : ∀ z : Int, z.natAbs < 10 ^ 50 → dg (Lib.itoa z) ≤ 100 := fun z hz => by
      have e : norm (Lib.itoa z) = Lib.itoa z := by rw [norm_eq, Dec.dval_itoa]
      have h3 := itoa_length_any z (k := 50) (by omega) hz
      have h4 := Dec.mag_length_le (norm (Lib.itoa z))
      show (Dec.mag (norm (Lib.itoa z))).length ≤ 100
      rw [e] at h4 ⊢
      omega
    refine decide_eq_true ⟨key _ ?_, key _ ?_⟩
    · rw [Rat.num_intCast, Int.natAbs_natCast]; omega
    · rw [Rat.den_intCast]; decide
  | .cons a d, h => by
    show (a.good && d.good) = true
    rw [Le.good hB h.1, Le.good hB h.2]; rfl
theorem ov_of {B : Nat} {t : Tr} (hB : B < 10 ^ 50) (h1 : t.Le B) (h2 : t.size ≤ 3000) (h3 : nf t = true) : ov t = true := by
  unfold ov valid
  rw [h1.good hB, h3, decide_eq_true h2]; rfl
/-- small: an ordinal with few nodes and small numbers -/
structure Sml (S B : Nat) (t : Tr) : Prop where
  nf : nf t = true
  sz : t.size ≤ S
  le : t.Le B
theorem Sml.ov {S B : Nat} {t : Tr} (h : Sml S B t) (hS : S ≤ 3000) (hB : B ≤ 1000000) : ov t = true := ov_of (B := B) (Nat.lt_of_le_of_lt hB (by decide)) h.le (Nat.le_trans h.sz hS) h.nf
theorem Sml.add {S B S' B' : Nat} {a b : Tr} (h : Sml S B a) (h' : Sml S' B' b) : Sml (S + S') (B + B') (Tr.add a b) :=
  ⟨nf_add _ _ h.nf h'.nf, Nat.le_trans (size_add a b) (by have := h.sz; have := h'.sz; omega), Le.add h.nf h'.nf h.le h'.le⟩
theorem Sml.mono {S B S' B' : Nat} {a : Tr} (h : Sml S B a) (h1 : S ≤ S') (h2 : B ≤ B') : Sml S' B' a := ⟨h.nf, Nat.le_trans h.sz h1, h.le.mono h2⟩
theorem Sml.nat {n : Int} {B : Nat} (h : 0 ≤ n) (hB : n ≤ B) : Sml 1 B (nat n) := ⟨nf_nat h, Nat.le_refl _, le_nat h hB⟩
theorem Sml.son {S B : Nat} {o : Tr} {n : Int} (h : Sml S B o) (hB : 2 ≤ B) : Sml (S + 5) (B + 1) (sonT o n) := by
  have h1 := h.add (Sml.nat (n := 1) (B := 1) (by omega) (by omega))
  have hc := Sml.nat (n := 1 + n % 3) (B := 3) (by omega) (by omega)
  have hez : (Tr.add o (Tr.nat 1)).isZ = false := add_nz h.nf (nf_nat (by omega)) (by rw [isZ_num]; decide)
  refine ⟨nf_cons ⟨h1.nf, hez, ?_, ?_, zero_nf, zero_less h1.nf hez⟩, ?_, ?_⟩
  · have := hc.nf
    rwa [nf_fin rfl] at this
  · rw [isZ_num]
    exact decide_eq_false (by omega)
  · have := h1.sz
    show (Tr.add o (Tr.nat 1)).size + 1 + 1 + 1 + 1 ≤ S + 5
    omega
  · exact ⟨⟨h1.le, hc.le.mono (by omega)⟩, 0, rfl, Nat.zero_le _⟩
end Tr
theorem madeF_sml : ∀ (l : List Sd), (∀ x ∈ l, Tr.Sml (6 * x.size - 5) (8 * x.size - 4) (madeT x)) → ∀ (b : Tr) (S B : Nat), Tr.Sml S B b → Tr.Sml (S + 6 * Sd.sizeL l) (B + 8 * Sd.sizeL l) (madeF l b)
  | [], _, b, S, B, hb => by rw [madeF]; exact hb.mono (by omega) (by omega)
  | x :: r, h, b, S, B, hb => by
    rw [madeF_cons]
    have hx := h x (List.mem_cons_self ..)
    have hr := madeF_sml r (fun y hy => h y (List.mem_cons_of_mem _ hy)) b S B hb
    have hp := x.size_pos
    refine (((hx.son (n := x.n) (by omega)).add hr)).mono ?_ ?_
    · simp only [Sd.sizeL]; omega
    · simp only [Sd.sizeL]; omega
theorem madeT_sml (s : Sd) : Tr.Sml (6 * s.size - 5) (8 * s.size - 4) (madeT s) := by
  induction s using Sd.ind with
  | step s ih =>
    rw [madeT_eq]
    have := madeF_sml s.l ih (Tr.nat (s.n % 5)) 1 4 (Tr.Sml.nat (by omega) (by omega))
    have hs := s.size_eq
    exact this.mono (by omega) (by omega)
/-- what the steps of 'made' give -/
theorem made_steps {x : Sd} {r : List Sd} {b : Tr} (hx : x.size ≤ 12) (hb : Tr.Sml 100 200 (madeF r b)) :
    Tr.addO (madeT x) (Tr.nat 1) = some (Tr.add (madeT x) (Tr.nat 1)) ∧ Tr.powO (Tr.add (madeT x) (Tr.nat 1)) (Tr.nat (1 + x.n % 3)) Tr.zero = some (Tr.sonT (madeT x) x.n) ∧ Tr.addO (Tr.sonT (madeT x) x.n) (madeF r b) = some (madeF (x :: r) b) := by
  have h1 := madeT_sml x
  have hp := x.size_pos
  have h2 := Tr.Sml.nat (n := 1) (B := 1) (by omega) (by omega)
  have h3 := h1.add h2
  have h4 := h1.son (n := x.n) (by omega)
  have h5 := h4.add hb
  refine ⟨?_, ?_, ?_⟩
  · unfold Tr.addO Tr.kept
    rw [h1.ov (by omega) (by omega), h2.ov (by omega) (by omega), Tr.ov_valid (h3.ov (by omega) (by omega))]
    rfl
  · unfold Tr.powO
    rw [show Tr.ov (.cons (.cons (Tr.add (madeT x) (Tr.nat 1)) (Tr.nat (1 + x.n % 3))) Tr.zero) = true from h4.ov (by omega) (by omega)]
    rfl
  · rw [madeF_cons]
    unfold Tr.addO Tr.kept
    rw [h4.ov (by omega) (by omega), hb.ov (by omega) (by omega), Tr.ov_valid (h5.ov (by omega) (by omega))]
    rfl
end Go.Proofs.YtgphkgmhcmffnaaGreatDoor
