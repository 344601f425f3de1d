/- Entries of the built-in world, of the reference. -/
import Derived.Test.YtendgffijciehaaGreatDoorEL
import Derived.Test.YtendgffijciehaaGreatDoorEK
namespace Go.Proofs.YtendgffijciehaaGreatDoor
open Go.RowKit
open Te

abbrev zT : List AV := [inA 0, stA [], stA [], inA 0, stA [], stA [], stA [], stA [], stA [], .nil, .nil]
abbrev enZ : List AV := inA 0 :: stA [] :: stA [] :: stA [] :: .nil :: stA [] :: stA [] :: .nil :: boA false :: (zT ++ [.nil, .nil, .nil, .nil, stA [], stA [], .nil, .nil, .nil, .nil, stA [], .dt (.val (.int .u64 0))])
abbrev enF (nm : List UInt8) (p : AV) : List AV := stA lispB :: stA nm :: p :: inA 1 :: ((encT yesT).map .dt ++ (zT ++ zT))
/-- an entry, as it is returned -/
abbrev entA (f : Rdr.Fnc) : AV := .agg (inA 3 :: stA lispB :: stA f.nm :: stA [] :: .nil :: stA [] :: stA [] :: .nil :: boA false :: (zT ++ [.dt (.row [encF f]), .nil, .nil, .nil, stA [], stA [], .nil, .nil, .nil, .nil, stA [], .dt (.val (.int .u64 0))]))
abbrev en0 (es os : List (List Dt)) (form : Ob) (nm : List UInt8) (qs : List (List Dt)) : AS := ⟨stt 99 [(0, .own 0 es.length), (3, .ptr 1 0), (4, .ptr 2 0), (5, .dt (.row os)), (7, .ptr 3 0), (8, .dt (.row qs)), (10, inA 0)], [wB es, some (.cells ((encL form).map .dt)), some (.cells enZ), some (.cells (enF nm .nil))]⟩
abbrev enS (es os : List (List Dt)) (form : Ob) (nm : List UInt8) (qs rs : List (List Dt)) (i : Int) : AS := ⟨stt 99 [(0, .own 0 es.length), (3, .ptr 1 0), (4, .ptr 2 0), (5, .dt (.row os)), (7, .ptr 3 0), (8, .dt (.row qs)), (10, inA i)], [wB es, some (.cells ((encL form).map .dt)), some (.cells enZ), some (.cells (enF nm (.own 4 rs.length))), some (.buf 32 2 rs)]⟩
theorem src_lrow (n : List UInt8) : SrcOK 2 [lrow n] := by
  intro x hx
  rw [List.mem_singleton] at hx
  subst hx
  exact ⟨rfl, fun d hd => by simp only [List.mem_cons, List.not_mem_nil, or_false] at hd; rcases hd with rfl | rfl <;> rfl⟩
noncomputable abbrev enB : Code := subC (bodyOf Tryz.f73) [1,1,1,1,0,1,0,0]
theorem enB0 {es os qs : List (List Dt)} {form : Ob} {nm n : List UInt8} (hi : 0 < qs.length) (hx : IxAt qs 0 7 (encL (symB n))) : Tri (EXn 1) enB (en0 es os form nm qs) .nxt (enS es os form nm qs [lrow n] 1) :=
  tw (E := EXn 1) (c := subC (bodyOf Tryz.f73) [1,1,1,1,0,1,0,0]) (s := en0 es os form nm qs) (an := [.av (inA qs.length), yT, .av (.pin ((encL (symB n)).map .dt)), .av (.un), .no]) (ls := []) (ft := [0,3,4,5,7,8,10]) (nb := 5) (e := .nxt) (s' := enS es os form nm qs [lrow n] 1) (ps := [(vi ↑qs.length) = (vi ↑qs.length), Bn .lss 3 (.tmp 35) (.tmp 37) (vi 0) (vi ↑qs.length) bT, IxAt qs 0 7 (encL (symB n)), FitB 32 (([[Dt.val (str (symB n).sp), Dt.val (str (symB n).sn)]]).length), SrcOK 2 [[(.val (str (symB n).sp)), (.val (str (symB n).sn))]]]) (by kernel_rfl) ⟨rfl, bin_ilt (decide_eq_true (by omega)), hx, fit_of (by omega) (by simp), src_lrow n, trivial⟩
theorem enB1 {es os qs rs : List (List Dt)} {form : Ob} {nm n : List UInt8} {i : Nat} (hi : i < qs.length) (hl : qs.length ≤ 1000) (hr : rs.length ≤ 1000) (hx : IxAt qs (i : Int) 7 (encL (symB n))) : Tri (EXn 1) enB (enS es os form nm qs rs i) .nxt (enS es os form nm qs (rs ++ [lrow n]) ((i + 1 : Nat) : Int)) :=
  tw (E := EXn 1) (c := subC (bodyOf Tryz.f73) [1,1,1,1,0,1,0,0]) (s := enS es os form nm qs rs i) (an := [.av (inA qs.length), yT, .av (.pin ((encL (symB n)).map .dt)), .av (.un), .av (inA ((i + 1 : Nat) : Int))]) (ls := []) (ft := [0,3,4,5,7,8,10]) (nb := 5) (e := .nxt) (s' := enS es os form nm qs (rs ++ [lrow n]) ((i + 1 : Nat) : Int)) (ps := [(vi ↑qs.length) = (vi ↑qs.length), Bn .lss 3 (.tmp 35) (.tmp 37) (vi ↑i) (vi ↑qs.length) bT, IxAt qs ↑i 7 (encL (symB n)), (rs.length) = (rs.length), FitB 32 ((rs ++ [[Dt.val (str (symB n).sp), Dt.val (str (symB n).sn)]]).length), SrcOK 2 [[(.val (str (symB n).sp)), (.val (str (symB n).sn))]], Bn .add 3 (.tmp 39) (.const (vi 1)) (vi ↑i) (vi 1) (vi (↑(i + 1)))]) (by kernel_rfl) ⟨rfl, bin_ilt (decide_eq_true (by omega)), hx, rfl, fit_of (by omega) (by simp; omega), src_lrow n, bin_iadd (by omega) (by omega) (by omega), trivial⟩
theorem enB2 {es os qs rs : List (List Dt)} {form : Ob} {nm : List UInt8} {i : Nat} (hi : i = qs.length) : Tri (EXn 1) enB (enS es os form nm qs rs i) (.out 0) (enS es os form nm qs rs i) :=
  tw (E := EXn 1) (c := subC (bodyOf Tryz.f73) [1,1,1,1,0,1,0,0]) (s := enS es os form nm qs rs i) (an := [.av (inA qs.length), yF]) (ls := []) (ft := [0,3,4,5,7,8,10]) (nb := 5) (e := .out 0) (s' := enS es os form nm qs rs i) (ps := [(vi ↑qs.length) = (vi ↑qs.length), Bn .lss 3 (.tmp 35) (.tmp 37) (vi ↑i) (vi ↑qs.length) bF]) (by kernel_rfl) ⟨rfl, bin_ilt (decide_eq_false (by omega)), trivial⟩
theorem w_ent00 {es os qs : List (List Dt)} {ps : List (List UInt8)} {nm : List UInt8} {form px b : Ob} {bt : Te} {k : Int} (h1 : Puk 98 [obA form] (.tup [.dt (.row os), boA true])) (hx1 : IxAt os 1 7 (encL (symB nm))) (hx2 : IxAt os 2 7 (encL px)) (h2 : Puk 98 [obA px] (.tup [.dt (.row qs), boA true])) (hlp : Tri (EXn 1) (.loop enB) (en0 es os form nm qs) (.out 0) (enS es os form nm qs (ps.map lrow) k)) (hz : IxAt os (os.length - 1) 7 (encL b)) (hl : os.length ≤ 1000) (hb : Suk 100 [.own 0 es.length, .dt (.row [encF ⟨nm, ps, yesT, zTe, zTe⟩]), obA b] [wB es] (.tup [teA bt, inA 0]) [wB es]) (hg : Puk 101 [.dt (.row os), stA Rdr.guardB] (.tup [obA zOb, boA false])) (hm : Puk 101 [.dt (.row os), stA Rdr.measB] (.tup [obA zOb, boA false])) : Suk 73 [.own 0 es.length, obA form] [wB es] (entA ⟨nm, ps, yesT, bt, zTe⟩) [wB es] :=
  psw (n := 1) (ks := [0]) (an := [.av (.tup [.dt (.row os), boA true]), .av (.pin ((encL (symB nm)).map .dt)), .av (obA tO), .av (teA yesT), .av (.pin ((encL px).map .dt)), .av (.tup [.dt (.row qs), boA true]), .av (inA os.length), .av (inA (os.length - 1)), .av (.pin ((encL b).map .dt)), .av (.tup [obA zOb, boA false]), .av (.tup [obA zOb, boA false])]) (ls := [.inv [0,3,4,5,7,8,10] 4 (.out 0) (enS es os form nm qs (ps.map lrow) k), .scl 9 8 [0] (.tup [teA bt, inA 0]) [some (.buf 109 32 es)]]) (ps := [Puk 98 [(obA form)] (.tup [(.dt (.row os)), (boA true)]), IxAt os 1 7 (encL (symB nm)), Puk 99 [] (obA tO), Puk 16 [(obA tO)] (.agg [(inA 2), (stA yesT.np), (stA yesT.nn), (inA 2), (stA yesT.val.num), (stA yesT.val.den), (stA yesT.val.sp), (stA yesT.val.sn), (stA yesT.val.text), (.dt (.row (List.map Ob.enc yesT.val.pair))), (.dt (.row (List.map Te.enc yesT.args)))]), IxAt os 2 7 (encL px), Puk 98 [(obA px)] (.tup [(.dt (.row qs)), (boA true)]), Tri (EXn 1) (.loop (subC (bodyOf Tryz.f73) [1,1,1,1,0,1,0,0])) (en0 es os form nm qs) (.out 0) (enS es os form nm qs (ps.map lrow) k), ((List.map lrow ps).length) = ((List.map lrow ps).length), (vi ↑os.length) = (vi ↑os.length), Bn .sub 3 (.tmp 58) (.const (vi 1)) (vi ↑os.length) (vi 1) (vi (↑os.length - 1)), IxAt os (↑os.length - 1) 7 (encL b), Suk 100 [AV.own 0 es.length, AV.dt (Dt.row ([(Dt.val (str lispB) :: Dt.val (str nm) :: Dt.row (List.map lrow ps) :: Dt.val (vi 1) :: Dt.val (vi yesT.kind) :: Dt.val (str yesT.np) :: Dt.val (str yesT.nn) :: Dt.val (vi yesT.val.kind) :: Dt.val (str yesT.val.num) :: Dt.val (str yesT.val.den) :: Dt.val (str yesT.val.sp) :: Dt.val (str yesT.val.sn) :: Dt.val (str yesT.val.text) :: Dt.row (List.map Ob.enc yesT.val.pair) :: Dt.row (List.map Te.enc yesT.args) :: Dt.val (vi 0) :: Dt.val (str []) :: Dt.val (str []) :: Dt.val (vi 0) :: Dt.val (str []) :: Dt.val (str []) :: Dt.val (str []) :: Dt.val (str []) :: Dt.val (str []) :: Dt.row [] :: Dt.row [] :: Dt.val (vi 0) :: Dt.val (str []) :: Dt.val (str []) :: Dt.val (vi 0) :: Dt.val (str []) :: Dt.val (str []) :: Dt.val (str []) :: Dt.val (str []) :: Dt.val (str []) :: Dt.row [] :: Dt.row [] :: [])])), AV.agg [AV.dt (Dt.val (vi b.kind)), AV.dt (Dt.val (str b.num)), AV.dt (Dt.val (str b.den)), AV.dt (Dt.val (str b.sp)), AV.dt (Dt.val (str b.sn)), AV.dt (Dt.val (str b.text)), AV.dt (Dt.row (List.map Ob.enc b.pair))]] [some (Bx.buf 109 32 es)] (AV.tup [teA bt, inA 0]) [some (Bx.buf 109 32 es)], Puk 101 [(.dt (.row os)), (stA [103, 117, 97, 114, 100])] (.tup [(obA zOb), (boA false)]), Puk 101 [(.dt (.row os)), (stA [109, 101, 97, 115, 117, 114, 101])] (.tup [(obA zOb), (boA false)]), ((List.map lrow ps).length) = ((List.map lrow ps).length)]) Tryz.func73 (by kernel_rfl) (by kernel_rfl) ⟨h1, hx1, p_rT, p_rConst _, hx2, h2, hlp, rfl, rfl, bin_isub rfl (by omega) (by omega), hz, hb, hg, hm, rfl, trivial⟩
theorem w_ent01 {es os qs : List (List Dt)} {ps : List (List UInt8)} {nm : List UInt8} {form px b mo : Ob} {bt mt : Te} {k : Int} (h1 : Puk 98 [obA form] (.tup [.dt (.row os), boA true])) (hx1 : IxAt os 1 7 (encL (symB nm))) (hx2 : IxAt os 2 7 (encL px)) (h2 : Puk 98 [obA px] (.tup [.dt (.row qs), boA true])) (hlp : Tri (EXn 1) (.loop enB) (en0 es os form nm qs) (.out 0) (enS es os form nm qs (ps.map lrow) k)) (hz : IxAt os (os.length - 1) 7 (encL b)) (hl : os.length ≤ 1000) (hb : Suk 100 [.own 0 es.length, .dt (.row [encF ⟨nm, ps, yesT, zTe, zTe⟩]), obA b] [wB es] (.tup [teA bt, inA 0]) [wB es]) (hg : Puk 101 [.dt (.row os), stA Rdr.guardB] (.tup [obA zOb, boA false])) (hm : Puk 101 [.dt (.row os), stA Rdr.measB] (.tup [obA mo, boA true])) (hmt : Suk 100 [.own 0 es.length, .dt (.row [encF ⟨nm, ps, yesT, zTe, zTe⟩]), obA mo] [wB es] (.tup [teA mt, inA 0]) [wB es]) : Suk 73 [.own 0 es.length, obA form] [wB es] (entA ⟨nm, ps, yesT, bt, mt⟩) [wB es] :=
  psw (n := 1) (ks := [0]) (an := [.av (.tup [.dt (.row os), boA true]), .av (.pin ((encL (symB nm)).map .dt)), .av (obA tO), .av (teA yesT), .av (.pin ((encL px).map .dt)), .av (.tup [.dt (.row qs), boA true]), .av (inA os.length), .av (inA (os.length - 1)), .av (.pin ((encL b).map .dt)), .av (.tup [obA zOb, boA false]), .av (.tup [obA mo, boA true])]) (ls := [.inv [0,3,4,5,7,8,10] 4 (.out 0) (enS es os form nm qs (ps.map lrow) k), .scl 9 8 [0] (.tup [teA bt, inA 0]) [some (.buf 109 32 es)], .scl 15 3 [0] (.tup [teA mt, inA 0]) [some (.buf 109 32 es)]]) (ps := [Puk 98 [(obA form)] (.tup [(.dt (.row os)), (boA true)]), IxAt os 1 7 (encL (symB nm)), Puk 99 [] (obA tO), Puk 16 [(obA tO)] (.agg [(inA 2), (stA yesT.np), (stA yesT.nn), (inA 2), (stA yesT.val.num), (stA yesT.val.den), (stA yesT.val.sp), (stA yesT.val.sn), (stA yesT.val.text), (.dt (.row (List.map Ob.enc yesT.val.pair))), (.dt (.row (List.map Te.enc yesT.args)))]), IxAt os 2 7 (encL px), Puk 98 [(obA px)] (.tup [(.dt (.row qs)), (boA true)]), Tri (EXn 1) (.loop (subC (bodyOf Tryz.f73) [1,1,1,1,0,1,0,0])) (en0 es os form nm qs) (.out 0) (enS es os form nm qs (ps.map lrow) k), ((List.map lrow ps).length) = ((List.map lrow ps).length), (vi ↑os.length) = (vi ↑os.length), Bn .sub 3 (.tmp 58) (.const (vi 1)) (vi ↑os.length) (vi 1) (vi (↑os.length - 1)), IxAt os (↑os.length - 1) 7 (encL b), Suk 100 [AV.own 0 es.length, AV.dt (Dt.row ([(Dt.val (str lispB) :: Dt.val (str nm) :: Dt.row (List.map lrow ps) :: Dt.val (vi 1) :: Dt.val (vi yesT.kind) :: Dt.val (str yesT.np) :: Dt.val (str yesT.nn) :: Dt.val (vi yesT.val.kind) :: Dt.val (str yesT.val.num) :: Dt.val (str yesT.val.den) :: Dt.val (str yesT.val.sp) :: Dt.val (str yesT.val.sn) :: Dt.val (str yesT.val.text) :: Dt.row (List.map Ob.enc yesT.val.pair) :: Dt.row (List.map Te.enc yesT.args) :: Dt.val (vi 0) :: Dt.val (str []) :: Dt.val (str []) :: Dt.val (vi 0) :: Dt.val (str []) :: Dt.val (str []) :: Dt.val (str []) :: Dt.val (str []) :: Dt.val (str []) :: Dt.row [] :: Dt.row [] :: Dt.val (vi 0) :: Dt.val (str []) :: Dt.val (str []) :: Dt.val (vi 0) :: Dt.val (str []) :: Dt.val (str []) :: Dt.val (str []) :: Dt.val (str []) :: Dt.val (str []) :: Dt.row [] :: Dt.row [] :: [])])), AV.agg [AV.dt (Dt.val (vi b.kind)), AV.dt (Dt.val (str b.num)), AV.dt (Dt.val (str b.den)), AV.dt (Dt.val (str b.sp)), AV.dt (Dt.val (str b.sn)), AV.dt (Dt.val (str b.text)), AV.dt (Dt.row (List.map Ob.enc b.pair))]] [some (Bx.buf 109 32 es)] (AV.tup [teA bt, inA 0]) [some (Bx.buf 109 32 es)], Puk 101 [(.dt (.row os)), (stA [103, 117, 97, 114, 100])] (.tup [(obA zOb), (boA false)]), Puk 101 [(.dt (.row os)), (stA [109, 101, 97, 115, 117, 114, 101])] (.tup [(obA mo), (boA true)]), Suk 100 [AV.own 0 es.length, AV.dt (Dt.row ([(Dt.val (str lispB) :: Dt.val (str nm) :: Dt.row (List.map lrow ps) :: Dt.val (vi 1) :: Dt.val (vi yesT.kind) :: Dt.val (str yesT.np) :: Dt.val (str yesT.nn) :: Dt.val (vi yesT.val.kind) :: Dt.val (str yesT.val.num) :: Dt.val (str yesT.val.den) :: Dt.val (str yesT.val.sp) :: Dt.val (str yesT.val.sn) :: Dt.val (str yesT.val.text) :: Dt.row (List.map Ob.enc yesT.val.pair) :: Dt.row (List.map Te.enc yesT.args) :: Dt.val (vi 0) :: Dt.val (str []) :: Dt.val (str []) :: Dt.val (vi 0) :: Dt.val (str []) :: Dt.val (str []) :: Dt.val (str []) :: Dt.val (str []) :: Dt.val (str []) :: Dt.row [] :: Dt.row [] :: Dt.val (vi 0) :: Dt.val (str []) :: Dt.val (str []) :: Dt.val (vi 0) :: Dt.val (str []) :: Dt.val (str []) :: Dt.val (str []) :: Dt.val (str []) :: Dt.val (str []) :: Dt.row [] :: Dt.row [] :: [])])), AV.agg [AV.dt (Dt.val (vi mo.kind)), AV.dt (Dt.val (str mo.num)), AV.dt (Dt.val (str mo.den)), AV.dt (Dt.val (str mo.sp)), AV.dt (Dt.val (str mo.sn)), AV.dt (Dt.val (str mo.text)), AV.dt (Dt.row (List.map Ob.enc mo.pair))]] [some (Bx.buf 109 32 es)] (AV.tup [teA mt, inA 0]) [some (Bx.buf 109 32 es)], ((List.map lrow ps).length) = ((List.map lrow ps).length)]) Tryz.func73 (by kernel_rfl) (by kernel_rfl) ⟨h1, hx1, p_rT, p_rConst _, hx2, h2, hlp, rfl, rfl, bin_isub rfl (by omega) (by omega), hz, hb, hg, hm, hmt, rfl, trivial⟩
theorem w_ent10 {es os qs : List (List Dt)} {ps : List (List UInt8)} {nm : List UInt8} {form px b go : Ob} {bt gt : Te} {k : Int} (h1 : Puk 98 [obA form] (.tup [.dt (.row os), boA true])) (hx1 : IxAt os 1 7 (encL (symB nm))) (hx2 : IxAt os 2 7 (encL px)) (h2 : Puk 98 [obA px] (.tup [.dt (.row qs), boA true])) (hlp : Tri (EXn 1) (.loop enB) (en0 es os form nm qs) (.out 0) (enS es os form nm qs (ps.map lrow) k)) (hz : IxAt os (os.length - 1) 7 (encL b)) (hl : os.length ≤ 1000) (hb : Suk 100 [.own 0 es.length, .dt (.row [encF ⟨nm, ps, yesT, zTe, zTe⟩]), obA b] [wB es] (.tup [teA bt, inA 0]) [wB es]) (hg : Puk 101 [.dt (.row os), stA Rdr.guardB] (.tup [obA go, boA true])) (hgt : Suk 100 [.own 0 es.length, .dt (.row [encF ⟨nm, ps, yesT, zTe, zTe⟩]), obA go] [wB es] (.tup [teA gt, inA 0]) [wB es]) (hm : Puk 101 [.dt (.row os), stA Rdr.measB] (.tup [obA zOb, boA false])) : Suk 73 [.own 0 es.length, obA form] [wB es] (entA ⟨nm, ps, gt, bt, zTe⟩) [wB es] :=
  psw (n := 1) (ks := [0]) (an := [.av (.tup [.dt (.row os), boA true]), .av (.pin ((encL (symB nm)).map .dt)), .av (obA tO), .av (teA yesT), .av (.pin ((encL px).map .dt)), .av (.tup [.dt (.row qs), boA true]), .av (inA os.length), .av (inA (os.length - 1)), .av (.pin ((encL b).map .dt)), .av (.tup [obA go, boA true]), .av (.tup [obA zOb, boA false])]) (ls := [.inv [0,3,4,5,7,8,10] 4 (.out 0) (enS es os form nm qs (ps.map lrow) k), .scl 9 8 [0] (.tup [teA bt, inA 0]) [some (.buf 109 32 es)], .scl 12 3 [0] (.tup [teA gt, inA 0]) [some (.buf 109 32 es)]]) (ps := [Puk 98 [(obA form)] (.tup [(.dt (.row os)), (boA true)]), IxAt os 1 7 (encL (symB nm)), Puk 99 [] (obA tO), Puk 16 [(obA tO)] (.agg [(inA 2), (stA yesT.np), (stA yesT.nn), (inA 2), (stA yesT.val.num), (stA yesT.val.den), (stA yesT.val.sp), (stA yesT.val.sn), (stA yesT.val.text), (.dt (.row (List.map Ob.enc yesT.val.pair))), (.dt (.row (List.map Te.enc yesT.args)))]), IxAt os 2 7 (encL px), Puk 98 [(obA px)] (.tup [(.dt (.row qs)), (boA true)]), Tri (EXn 1) (.loop (subC (bodyOf Tryz.f73) [1,1,1,1,0,1,0,0])) (en0 es os form nm qs) (.out 0) (enS es os form nm qs (ps.map lrow) k), ((List.map lrow ps).length) = ((List.map lrow ps).length), (vi ↑os.length) = (vi ↑os.length), Bn .sub 3 (.tmp 58) (.const (vi 1)) (vi ↑os.length) (vi 1) (vi (↑os.length - 1)), IxAt os (↑os.length - 1) 7 (encL b), Suk 100 [AV.own 0 es.length, AV.dt (Dt.row ([(Dt.val (str lispB) :: Dt.val (str nm) :: Dt.row (List.map lrow ps) :: Dt.val (vi 1) :: Dt.val (vi yesT.kind) :: Dt.val (str yesT.np) :: Dt.val (str yesT.nn) :: Dt.val (vi yesT.val.kind) :: Dt.val (str yesT.val.num) :: Dt.val (str yesT.val.den) :: Dt.val (str yesT.val.sp) :: Dt.val (str yesT.val.sn) :: Dt.val (str yesT.val.text) :: Dt.row (List.map Ob.enc yesT.val.pair) :: Dt.row (List.map Te.enc yesT.args) :: Dt.val (vi 0) :: Dt.val (str []) :: Dt.val (str []) :: Dt.val (vi 0) :: Dt.val (str []) :: Dt.val (str []) :: Dt.val (str []) :: Dt.val (str []) :: Dt.val (str []) :: Dt.row [] :: Dt.row [] :: Dt.val (vi 0) :: Dt.val (str []) :: Dt.val (str []) :: Dt.val (vi 0) :: Dt.val (str []) :: Dt.val (str []) :: Dt.val (str []) :: Dt.val (str []) :: Dt.val (str []) :: Dt.row [] :: Dt.row [] :: [])])), AV.agg [AV.dt (Dt.val (vi b.kind)), AV.dt (Dt.val (str b.num)), AV.dt (Dt.val (str b.den)), AV.dt (Dt.val (str b.sp)), AV.dt (Dt.val (str b.sn)), AV.dt (Dt.val (str b.text)), AV.dt (Dt.row (List.map Ob.enc b.pair))]] [some (Bx.buf 109 32 es)] (AV.tup [teA bt, inA 0]) [some (Bx.buf 109 32 es)], Puk 101 [(.dt (.row os)), (stA [103, 117, 97, 114, 100])] (.tup [(obA go), (boA true)]), Suk 100 [AV.own 0 es.length, AV.dt (Dt.row ([(Dt.val (str lispB) :: Dt.val (str nm) :: Dt.row (List.map lrow ps) :: Dt.val (vi 1) :: Dt.val (vi yesT.kind) :: Dt.val (str yesT.np) :: Dt.val (str yesT.nn) :: Dt.val (vi yesT.val.kind) :: Dt.val (str yesT.val.num) :: Dt.val (str yesT.val.den) :: Dt.val (str yesT.val.sp) :: Dt.val (str yesT.val.sn) :: Dt.val (str yesT.val.text) :: Dt.row (List.map Ob.enc yesT.val.pair) :: Dt.row (List.map Te.enc yesT.args) :: Dt.val (vi 0) :: Dt.val (str []) :: Dt.val (str []) :: Dt.val (vi 0) :: Dt.val (str []) :: Dt.val (str []) :: Dt.val (str []) :: Dt.val (str []) :: Dt.val (str []) :: Dt.row [] :: Dt.row [] :: Dt.val (vi 0) :: Dt.val (str []) :: Dt.val (str []) :: Dt.val (vi 0) :: Dt.val (str []) :: Dt.val (str []) :: Dt.val (str []) :: Dt.val (str []) :: Dt.val (str []) :: Dt.row [] :: Dt.row [] :: [])])), AV.agg [AV.dt (Dt.val (vi go.kind)), AV.dt (Dt.val (str go.num)), AV.dt (Dt.val (str go.den)), AV.dt (Dt.val (str go.sp)), AV.dt (Dt.val (str go.sn)), AV.dt (Dt.val (str go.text)), AV.dt (Dt.row (List.map Ob.enc go.pair))]] [some (Bx.buf 109 32 es)] (AV.tup [teA gt, inA 0]) [some (Bx.buf 109 32 es)], Puk 101 [(.dt (.row os)), (stA [109, 101, 97, 115, 117, 114, 101])] (.tup [(obA zOb), (boA false)]), ((List.map lrow ps).length) = ((List.map lrow ps).length)]) Tryz.func73 (by kernel_rfl) (by kernel_rfl) ⟨h1, hx1, p_rT, p_rConst _, hx2, h2, hlp, rfl, rfl, bin_isub rfl (by omega) (by omega), hz, hb, hg, hgt, hm, rfl, trivial⟩
theorem w_ent11 {es os qs : List (List Dt)} {ps : List (List UInt8)} {nm : List UInt8} {form px b go mo : Ob} {bt gt mt : Te} {k : Int} (h1 : Puk 98 [obA form] (.tup [.dt (.row os), boA true])) (hx1 : IxAt os 1 7 (encL (symB nm))) (hx2 : IxAt os 2 7 (encL px)) (h2 : Puk 98 [obA px] (.tup [.dt (.row qs), boA true])) (hlp : Tri (EXn 1) (.loop enB) (en0 es os form nm qs) (.out 0) (enS es os form nm qs (ps.map lrow) k)) (hz : IxAt os (os.length - 1) 7 (encL b)) (hl : os.length ≤ 1000) (hb : Suk 100 [.own 0 es.length, .dt (.row [encF ⟨nm, ps, yesT, zTe, zTe⟩]), obA b] [wB es] (.tup [teA bt, inA 0]) [wB es]) (hg : Puk 101 [.dt (.row os), stA Rdr.guardB] (.tup [obA go, boA true])) (hgt : Suk 100 [.own 0 es.length, .dt (.row [encF ⟨nm, ps, yesT, zTe, zTe⟩]), obA go] [wB es] (.tup [teA gt, inA 0]) [wB es]) (hm : Puk 101 [.dt (.row os), stA Rdr.measB] (.tup [obA mo, boA true])) (hmt : Suk 100 [.own 0 es.length, .dt (.row [encF ⟨nm, ps, yesT, zTe, zTe⟩]), obA mo] [wB es] (.tup [teA mt, inA 0]) [wB es]) : Suk 73 [.own 0 es.length, obA form] [wB es] (entA ⟨nm, ps, gt, bt, mt⟩) [wB es] :=
  psw (n := 1) (ks := [0]) (an := [.av (.tup [.dt (.row os), boA true]), .av (.pin ((encL (symB nm)).map .dt)), .av (obA tO), .av (teA yesT), .av (.pin ((encL px).map .dt)), .av (.tup [.dt (.row qs), boA true]), .av (inA os.length), .av (inA (os.length - 1)), .av (.pin ((encL b).map .dt)), .av (.tup [obA go, boA true]), .av (.tup [obA mo, boA true])]) (ls := [.inv [0,3,4,5,7,8,10] 4 (.out 0) (enS es os form nm qs (ps.map lrow) k), .scl 9 8 [0] (.tup [teA bt, inA 0]) [some (.buf 109 32 es)], .scl 12 3 [0] (.tup [teA gt, inA 0]) [some (.buf 109 32 es)], .scl 15 3 [0] (.tup [teA mt, inA 0]) [some (.buf 109 32 es)]]) (ps := [Puk 98 [(obA form)] (.tup [(.dt (.row os)), (boA true)]), IxAt os 1 7 (encL (symB nm)), Puk 99 [] (obA tO), Puk 16 [(obA tO)] (.agg [(inA 2), (stA yesT.np), (stA yesT.nn), (inA 2), (stA yesT.val.num), (stA yesT.val.den), (stA yesT.val.sp), (stA yesT.val.sn), (stA yesT.val.text), (.dt (.row (List.map Ob.enc yesT.val.pair))), (.dt (.row (List.map Te.enc yesT.args)))]), IxAt os 2 7 (encL px), Puk 98 [(obA px)] (.tup [(.dt (.row qs)), (boA true)]), Tri (EXn 1) (.loop (subC (bodyOf Tryz.f73) [1,1,1,1,0,1,0,0])) (en0 es os form nm qs) (.out 0) (enS es os form nm qs (ps.map lrow) k), ((List.map lrow ps).length) = ((List.map lrow ps).length), (vi ↑os.length) = (vi ↑os.length), Bn .sub 3 (.tmp 58) (.const (vi 1)) (vi ↑os.length) (vi 1) (vi (↑os.length - 1)), IxAt os (↑os.length - 1) 7 (encL b), Suk 100 [AV.own 0 es.length, AV.dt (Dt.row ([(Dt.val (str lispB) :: Dt.val (str nm) :: Dt.row (List.map lrow ps) :: Dt.val (vi 1) :: Dt.val (vi yesT.kind) :: Dt.val (str yesT.np) :: Dt.val (str yesT.nn) :: Dt.val (vi yesT.val.kind) :: Dt.val (str yesT.val.num) :: Dt.val (str yesT.val.den) :: Dt.val (str yesT.val.sp) :: Dt.val (str yesT.val.sn) :: Dt.val (str yesT.val.text) :: Dt.row (List.map Ob.enc yesT.val.pair) :: Dt.row (List.map Te.enc yesT.args) :: Dt.val (vi 0) :: Dt.val (str []) :: Dt.val (str []) :: Dt.val (vi 0) :: Dt.val (str []) :: Dt.val (str []) :: Dt.val (str []) :: Dt.val (str []) :: Dt.val (str []) :: Dt.row [] :: Dt.row [] :: Dt.val (vi 0) :: Dt.val (str []) :: Dt.val (str []) :: Dt.val (vi 0) :: Dt.val (str []) :: Dt.val (str []) :: Dt.val (str []) :: Dt.val (str []) :: Dt.val (str []) :: Dt.row [] :: Dt.row [] :: [])])), AV.agg [AV.dt (Dt.val (vi b.kind)), AV.dt (Dt.val (str b.num)), AV.dt (Dt.val (str b.den)), AV.dt (Dt.val (str b.sp)), AV.dt (Dt.val (str b.sn)), AV.dt (Dt.val (str b.text)), AV.dt (Dt.row (List.map Ob.enc b.pair))]] [some (Bx.buf 109 32 es)] (AV.tup [teA bt, inA 0]) [some (Bx.buf 109 32 es)], Puk 101 [(.dt (.row os)), (stA [103, 117, 97, 114, 100])] (.tup [(obA go), (boA true)]), Suk 100 [AV.own 0 es.length, AV.dt (Dt.row ([(Dt.val (str lispB) :: Dt.val (str nm) :: Dt.row (List.map lrow ps) :: Dt.val (vi 1) :: Dt.val (vi yesT.kind) :: Dt.val (str yesT.np) :: Dt.val (str yesT.nn) :: Dt.val (vi yesT.val.kind) :: Dt.val (str yesT.val.num) :: Dt.val (str yesT.val.den) :: Dt.val (str yesT.val.sp) :: Dt.val (str yesT.val.sn) :: Dt.val (str yesT.val.text) :: Dt.row (List.map Ob.enc yesT.val.pair) :: Dt.row (List.map Te.enc yesT.args) :: Dt.val (vi 0) :: Dt.val (str []) :: Dt.val (str []) :: Dt.val (vi 0) :: Dt.val (str []) :: Dt.val (str []) :: Dt.val (str []) :: Dt.val (str []) :: Dt.val (str []) :: Dt.row [] :: Dt.row [] :: Dt.val (vi 0) :: Dt.val (str []) :: Dt.val (str []) :: Dt.val (vi 0) :: Dt.val (str []) :: Dt.val (str []) :: Dt.val (str []) :: Dt.val (str []) :: Dt.val (str []) :: Dt.row [] :: Dt.row [] :: [])])), AV.agg [AV.dt (Dt.val (vi go.kind)), AV.dt (Dt.val (str go.num)), AV.dt (Dt.val (str go.den)), AV.dt (Dt.val (str go.sp)), AV.dt (Dt.val (str go.sn)), AV.dt (Dt.val (str go.text)), AV.dt (Dt.row (List.map Ob.enc go.pair))]] [some (Bx.buf 109 32 es)] (AV.tup [teA gt, inA 0]) [some (Bx.buf 109 32 es)], Puk 101 [(.dt (.row os)), (stA [109, 101, 97, 115, 117, 114, 101])] (.tup [(obA mo), (boA true)]), Suk 100 [AV.own 0 es.length, AV.dt (Dt.row ([(Dt.val (str lispB) :: Dt.val (str nm) :: Dt.row (List.map lrow ps) :: Dt.val (vi 1) :: Dt.val (vi yesT.kind) :: Dt.val (str yesT.np) :: Dt.val (str yesT.nn) :: Dt.val (vi yesT.val.kind) :: Dt.val (str yesT.val.num) :: Dt.val (str yesT.val.den) :: Dt.val (str yesT.val.sp) :: Dt.val (str yesT.val.sn) :: Dt.val (str yesT.val.text) :: Dt.row (List.map Ob.enc yesT.val.pair) :: Dt.row (List.map Te.enc yesT.args) :: Dt.val (vi 0) :: Dt.val (str []) :: Dt.val (str []) :: Dt.val (vi 0) :: Dt.val (str []) :: Dt.val (str []) :: Dt.val (str []) :: Dt.val (str []) :: Dt.val (str []) :: Dt.row [] :: Dt.row [] :: Dt.val (vi 0) :: Dt.val (str []) :: Dt.val (str []) :: Dt.val (vi 0) :: Dt.val (str []) :: Dt.val (str []) :: Dt.val (str []) :: Dt.val (str []) :: Dt.val (str []) :: Dt.row [] :: Dt.row [] :: [])])), AV.agg [AV.dt (Dt.val (vi mo.kind)), AV.dt (Dt.val (str mo.num)), AV.dt (Dt.val (str mo.den)), AV.dt (Dt.val (str mo.sp)), AV.dt (Dt.val (str mo.sn)), AV.dt (Dt.val (str mo.text)), AV.dt (Dt.row (List.map Ob.enc mo.pair))]] [some (Bx.buf 109 32 es)] (AV.tup [teA mt, inA 0]) [some (Bx.buf 109 32 es)], ((List.map lrow ps).length) = ((List.map lrow ps).length)]) Tryz.func73 (by kernel_rfl) (by kernel_rfl) ⟨h1, hx1, p_rT, p_rConst _, hx2, h2, hlp, rfl, rfl, bin_isub rfl (by omega) (by omega), hz, hb, hg, hgt, hm, hmt, rfl, trivial⟩
theorem pars_map : ∀ {l : List Tr} {ps : List (List UInt8)}, Rdr.pars l = some ps → l = ps.map (Tr.sym lispB ·)
  | [], ps, h => by cases h; rfl
  | .sym p n :: r, ps, h => by
    rw [Rdr.pars] at h
    split at h
    · rename_i e
      subst e
      rw [Option.map_eq_some_iff] at h
      obtain ⟨qs, h1, rfl⟩ := h
      rw [List.map_cons, ← pars_map h1]
    · cases h
  | .num _ :: _, _, h => by cases h
  | .txt _ :: _, _, h => by cases h
  | .cons _ _ :: _, _, h => by cases h
theorem ix_par {ps : List (List UInt8)} {i : Nat} {n : List UInt8} (h : ps[i]? = some n) : IxAt (encOs (ps.map (Tr.sym lispB ·))) (i : Int) 7 (encL (symB n)) := ⟨Int.natCast_nonneg _, by rw [Int.toNat_natCast]; unfold encOs; rw [List.getElem?_map, List.getElem?_map, h]; rfl, rfl⟩
theorem en_loop {es os : List (List Dt)} {form : Ob} {nm : List UInt8} {ps : List (List UInt8)} (hl : ps.length ≤ 8) : ∀ (s : List (List UInt8)) (i : Nat), ps.drop i = s → i ≤ ps.length → Lps (EXn 1) enB (enS es os form nm (encOs (ps.map (Tr.sym lispB ·))) ((ps.take i).map lrow) i) (.out 0) (enS es os form nm (encOs (ps.map (Tr.sym lispB ·))) (ps.map lrow) ps.length) := by
  have hlo : (encOs (ps.map (Tr.sym lispB ·))).length = ps.length := by unfold encOs; rw [List.length_map, List.length_map]
  intro s
  induction s with
  | nil =>
    intro i hd hi
    have e1 := congrArg List.length hd
    rw [List.length_drop, List.length_nil] at e1
    obtain rfl : i = ps.length := by omega
    rw [List.take_length]
    exact .stop (enB2 hlo.symm) (fun h => by cases h)
  | cons x s ih =>
    intro i hd hi
    have hx : ps[i]? = some x := by rw [← List.head?_drop, hd]; rfl
    have hlt := (List.getElem?_eq_some_iff.1 hx).1
    have hs := enB1 (es := es) (os := os) (form := form) (nm := nm) (rs := (ps.take i).map lrow) (by omega) (by omega) (by rw [List.length_map, List.length_take]; omega) (ix_par hx)
    have e : (ps.take i).map lrow ++ [lrow x] = (ps.take (i + 1)).map lrow := by rw [List.take_add_one, hx, List.map_append]; rfl
    rw [e] at hs
    exact .more hs (ih (i + 1) (by rw [← List.drop_drop, hd]; rfl) (by omega))
theorem p_entry {ws : List Rdr.Fnc} (hw : ws.length ≤ 900) {x : Tr} {f : Rdr.Fnc} (h : Rdr.entry primL ws x = some f) : Suk 73 [.own 0 (ws.map encE).length, trA x] [wB (ws.map encE)] (entA f) [wB (ws.map encE)] := by
  unfold Rdr.entry at h
  split at h
  case h_2 => cases h
  rename_i d p nm px y r hi
  split at h
  case h_2 => cases h
  rename_i pl hpx
  split at h
  case h_2 => cases h
  rename_i ps hps
  split at h
  case isFalse => cases h
  rename_i hc
  obtain ⟨rfl, hnm, hpn, hpl, hr⟩ := hc
  split at h
  case h_2 => cases h
  rename_i bt gt mt hb hg hm
  cases h
  have hx := items_list hi
  have hpx := items_list hpx
  have hpl2 := pars_map hps
  subst hpl2
  subst hx
  subst hpx
  have hI := p_rItems (l := d :: Tr.sym lispB nm :: Tr.list (ps.map (Tr.sym lispB ·)) :: y :: r) (by simp only [List.length_cons]; omega)
  have hP := p_rItems (l := ps.map (Tr.sym lispB ·)) (by rw [List.length_map]; omega)
  have hL3 : (d :: Tr.sym lispB nm :: Tr.list (ps.map (Tr.sym lispB ·)) :: y :: r).drop 3 = y :: r := rfl
  have hLl : (d :: Tr.sym lispB nm :: Tr.list (ps.map (Tr.sym lispB ·)) :: y :: r).length = r.length + 4 := rfl
  have hlast : (d :: Tr.sym lispB nm :: Tr.list (ps.map (Tr.sym lispB ·)) :: y :: r)[r.length + 3]? = some ((y :: r).getLast (by simp)) := by
    show (y :: r)[r.length]? = _
    rw [List.getLast_eq_getElem, List.getElem?_eq_getElem (by simp)]
    rfl
  generalize hLe : (d :: Tr.sym lispB nm :: Tr.list (ps.map (Tr.sym lispB ·)) :: y :: r) = L at *
  have hlo : (encOs L).length = r.length + 4 := by unfold encOs; rw [List.length_map, hLl]
  have hx1 : IxAt (encOs L) 1 7 (encL (symB nm)) := by subst hLe; exact ⟨by decide, rfl, rfl⟩
  have hx2 : IxAt (encOs L) 2 7 (encL (Tr.list (ps.map (Tr.sym lispB ·))).ob) := by subst hLe; exact ⟨by decide, rfl, rfl⟩
  have hz : IxAt (encOs L) ((encOs L).length - 1) 7 (encL ((y :: r).getLast (by simp)).ob) := ⟨by omega, by
    rw [hlo]
    have : ((((r.length + 4 : Nat) : Int) - 1)).toNat = r.length + 3 := by omega
    rw [this]
    unfold encOs
    rw [List.getElem?_map, hlast]
    rfl, rfl⟩
  have hlp : Tri (EXn 1) (.loop enB) (en0 (ws.map encE) (encOs L) (Tr.list L).ob nm (encOs (ps.map (Tr.sym lispB ·)))) (.out 0) (enS (ws.map encE) (encOs L) (Tr.list L).ob nm (encOs (ps.map (Tr.sym lispB ·))) (ps.map lrow) ps.length) := by
    cases ps with
    | nil => exact absurd rfl hpn
    | cons n0 ps' =>
      have hs := enB0 (es := ws.map encE) (os := encOs L) (form := (Tr.list L).ob) (nm := nm) (n := n0) (qs := encOs ((n0 :: ps').map (Tr.sym lispB ·))) (by simp [encOs]) (ix_par (i := 0) rfl)
      have hn := en_loop (es := ws.map encE) (os := encOs L) (form := (Tr.list L).ob) (nm := nm) hpl _ 1 rfl (by simp)
      exact (Lps.more hs hn).tri
  have hT : ∀ {o : Tr} {t : Te}, Rdr.trm (Rdr.arity primL ws nm ps) o = some t → Suk 100 [.own 0 (ws.map encE).length, .dt (.row [encF ⟨nm, ps, yesT, zTe, zTe⟩]), trA o] [wB (ws.map encE)] (.tup [teA t, inA 0]) [wB (ws.map encE)] := fun h => p_Term12 (f := ⟨nm, ps, yesT, zTe, zTe⟩) (by omega) h
  have hbS := hT hb
  have hll : (encOs L).length ≤ 1000 := by omega
  cases hgo : Rdr.option Rdr.guardB (y :: r) with
  | none => rw [hgo] at hg; cases hg
  | some go =>
    rw [hgo] at hg
    cases hmo : Rdr.option Rdr.measB (y :: r) with
    | none => rw [hmo] at hm; cases hm
    | some mo =>
      rw [hmo] at hm
      rw [← hL3] at hgo hmo
      cases go with
      | none =>
        cases hg
        have kg := p_option0 (by omega) (by omega) hgo
        cases mo with
        | none =>
          cases hm
          exact w_ent00 hI hx1 hx2 hP hlp hz hll hbS kg (p_option0 (by omega) (by omega) hmo)
        | some mo => exact w_ent01 hI hx1 hx2 hP hlp hz hll hbS kg (p_option1 (by omega) (by omega) hmo) (hT hm)
      | some go =>
        have kg := p_option1 (by omega) (by omega) hgo
        cases mo with
        | none =>
          cases hm
          exact w_ent10 hI hx1 hx2 hP hlp hz hll hbS kg (hT hg) (p_option0 (by omega) (by omega) hmo)
        | some mo => exact w_ent11 hI hx1 hx2 hP hlp hz hll hbS kg (hT hg) (p_option1 (by omega) (by omega) hmo) (hT hm)
end Go.Proofs.YtendgffijciehaaGreatDoor
/- The built-in world, of the reference. -/
namespace Go.Proofs.YtendgffijciehaaGreatDoor
open Go.RowKit
open Te

theorem s_Names7 : Suk 102 [] [] (.own 0 25) [some (.buf 32 2 (primL.map prow))] :=
  psw (n := 0) (ks := [0]) (an := [.av (.dt (.row (primL.map rrow))), .no, .no, .no, .av (syA lispB [105, 102]), .no, .no, .no, .no, .no, .av (syA lispB [101, 113, 117, 97, 108]), .no, .no, .no, .no, .no, .av (syA lispB [99, 111, 110, 115]), .no, .no, .no, .no, .no, .av (syA lispB [99, 97, 114]), .no, .no, .no, .no, .no, .av (syA lispB [99, 100, 114]), .no, .no, .no, .no, .no, .av (syA lispB [99, 111, 110, 115, 112]), .no, .no, .no, .no, .no, .av (syA lispB [115, 121, 109, 98, 111, 108, 112]), .no, .no, .no, .no, .no, .av (syA lispB [115, 116, 114, 105, 110, 103, 112]), .no, .no, .no, .no, .no, .av (syA lispB [114, 97, 116, 105, 111, 110, 97, 108, 112]), .no, .no, .no, .no, .no, .av (syA lispB [105, 110, 116, 101, 103, 101, 114, 112]), .no, .no, .no, .no, .no, .av (syA lispB [98, 105, 110, 97, 114, 121, 45, 43]), .no, .no, .no, .no, .no, .av (syA lispB [98, 105, 110, 97, 114, 121, 45, 42]), .no, .no, .no, .no, .no, .av (syA lispB [117, 110, 97, 114, 121, 45, 45]), .no, .no, .no, .no, .no, .av (syA lispB [117, 110, 97, 114, 121, 45, 47]), .no, .no, .no, .no, .no, .av (syA lispB [60]), .no, .no, .no, .no, .no, .av (syA lispB [110, 117, 109, 101, 114, 97, 116, 111, 114]), .no, .no, .no, .no, .no, .av (syA lispB [100, 101, 110, 111, 109, 105, 110, 97, 116, 111, 114]), .no, .no, .no, .no, .no, .av (syA lispB [102, 108, 111, 111, 114]), .no, .no, .no, .no, .no, .av (syA lispB [115, 121, 109, 98, 111, 108, 45, 110, 97, 109, 101]), .no, .no, .no, .no, .no, .av (syA lispB [115, 121, 109, 98, 111, 108, 45, 112, 97, 99, 107, 97, 103, 101, 45, 110, 97, 109, 101]), .no, .no, .no, .no, .no, .av (syA lispB [105, 110, 116, 101, 114, 110]), .no, .no, .no, .no, .no, .av (syA lispB [115, 116, 114, 105, 110, 103, 45, 97, 112, 112, 101, 110, 100]), .no, .no, .no, .no, .no, .av (syA lispB [115, 116, 114, 105, 110, 103, 45, 108, 101, 110, 103, 116, 104]), .no, .no, .no, .no, .no, .av (syA lispB [115, 116, 114, 105, 110, 103, 45, 98, 121, 116, 101]), .no, .no, .no, .no, .no, .av (syA lispB [98, 121, 116, 101, 45, 115, 116, 114, 105, 110, 103]), .no, .no]) (ls := [.run 26]) (ps := [Puk 122 [] (.dt (.row (List.map rrow primL))), Puk 51 [(stA ([105, 102], 3).fst)] (syA lispB [105, 102]), Puk 51 [(stA ([101, 113, 117, 97, 108], 2).fst)] (syA lispB [101, 113, 117, 97, 108]), Puk 51 [(stA ([99, 111, 110, 115], 2).fst)] (syA lispB [99, 111, 110, 115]), Puk 51 [(stA ([99, 97, 114], 1).fst)] (syA lispB [99, 97, 114]), Puk 51 [(stA ([99, 100, 114], 1).fst)] (syA lispB [99, 100, 114]), Puk 51 [(stA ([99, 111, 110, 115, 112], 1).fst)] (syA lispB [99, 111, 110, 115, 112]), Puk 51 [(stA ([115, 121, 109, 98, 111, 108, 112], 1).fst)] (syA lispB [115, 121, 109, 98, 111, 108, 112]), Puk 51 [(stA ([115, 116, 114, 105, 110, 103, 112], 1).fst)] (syA lispB [115, 116, 114, 105, 110, 103, 112]), Puk 51 [(stA ([114, 97, 116, 105, 111, 110, 97, 108, 112], 1).fst)] (syA lispB [114, 97, 116, 105, 111, 110, 97, 108, 112]), Puk 51 [(stA ([105, 110, 116, 101, 103, 101, 114, 112], 1).fst)] (syA lispB [105, 110, 116, 101, 103, 101, 114, 112]), Puk 51 [(stA ([98, 105, 110, 97, 114, 121, 45, 43], 2).fst)] (syA lispB [98, 105, 110, 97, 114, 121, 45, 43]), Puk 51 [(stA ([98, 105, 110, 97, 114, 121, 45, 42], 2).fst)] (syA lispB [98, 105, 110, 97, 114, 121, 45, 42]), Puk 51 [(stA ([117, 110, 97, 114, 121, 45, 45], 1).fst)] (syA lispB [117, 110, 97, 114, 121, 45, 45]), Puk 51 [(stA ([117, 110, 97, 114, 121, 45, 47], 1).fst)] (syA lispB [117, 110, 97, 114, 121, 45, 47]), Puk 51 [(stA ([60], 2).fst)] (syA lispB [60]), Puk 51 [(stA ([110, 117, 109, 101, 114, 97, 116, 111, 114], 1).fst)] (syA lispB [110, 117, 109, 101, 114, 97, 116, 111, 114]), Puk 51 [(stA ([100, 101, 110, 111, 109, 105, 110, 97, 116, 111, 114], 1).fst)] (syA lispB [100, 101, 110, 111, 109, 105, 110, 97, 116, 111, 114]), Puk 51 [(stA ([102, 108, 111, 111, 114], 1).fst)] (syA lispB [102, 108, 111, 111, 114]), Puk 51 [(stA ([115, 121, 109, 98, 111, 108, 45, 110, 97, 109, 101], 1).fst)] (syA lispB [115, 121, 109, 98, 111, 108, 45, 110, 97, 109, 101]), Puk 51 [(stA ([115, 121, 109, 98, 111, 108, 45, 112, 97, 99, 107, 97, 103, 101, 45, 110, 97, 109, 101], 1).fst)] (syA lispB [115, 121, 109, 98, 111, 108, 45, 112, 97, 99, 107, 97, 103, 101, 45, 110, 97, 109, 101]), Puk 51 [(stA ([105, 110, 116, 101, 114, 110], 2).fst)] (syA lispB [105, 110, 116, 101, 114, 110]), Puk 51 [(stA ([115, 116, 114, 105, 110, 103, 45, 97, 112, 112, 101, 110, 100], 2).fst)] (syA lispB [115, 116, 114, 105, 110, 103, 45, 97, 112, 112, 101, 110, 100]), Puk 51 [(stA ([115, 116, 114, 105, 110, 103, 45, 108, 101, 110, 103, 116, 104], 1).fst)] (syA lispB [115, 116, 114, 105, 110, 103, 45, 108, 101, 110, 103, 116, 104]), Puk 51 [(stA ([115, 116, 114, 105, 110, 103, 45, 98, 121, 116, 101], 2).fst)] (syA lispB [115, 116, 114, 105, 110, 103, 45, 98, 121, 116, 101]), Puk 51 [(stA ([98, 121, 116, 101, 45, 115, 116, 114, 105, 110, 103], 1).fst)] (syA lispB [98, 121, 116, 101, 45, 115, 116, 114, 105, 110, 103])]) Tryz.func102 (by kernel_rfl) (by kernel_rfl) ⟨p_rows, p_lisp _, p_lisp _, p_lisp _, p_lisp _, p_lisp _, p_lisp _, p_lisp _, p_lisp _, p_lisp _, p_lisp _, p_lisp _, p_lisp _, p_lisp _, p_lisp _, p_lisp _, p_lisp _, p_lisp _, p_lisp _, p_lisp _, p_lisp _, p_lisp _, p_lisp _, p_lisp _, p_lisp _, p_lisp _, trivial⟩
def wordsL : List (List UInt8) := [[110, 105, 108], [116], [113, 117, 111, 116, 101], [108, 101, 116], [108, 101, 116, 42], [99, 111, 110, 100], [97, 110, 100], [111, 114], [108, 105, 115, 116], [108, 105, 115, 116, 42], [43], [42], [45], [47], [60, 61], [62], [62, 61], [97, 112, 112, 101, 110, 100], [100, 101, 102, 112, 107, 103], [100, 101, 102, 109, 97, 99, 114, 111], [100, 101, 102, 117, 110], [109, 117, 116, 117, 97, 108, 45, 114, 101, 99, 117, 114, 115, 105, 111, 110], [100, 101, 102, 116, 104, 109], [101, 110, 99, 97, 112, 115, 117, 108, 97, 116, 101], [100, 101, 102, 99, 104, 111, 111, 115, 101], [100, 101, 102, 115, 116, 111, 98, 106], [105, 110, 45, 116, 104, 101, 111, 114, 121], [105, 110, 99, 108, 117, 100, 101, 45, 98, 111, 111, 107], [100, 101, 102, 108, 97, 98, 101, 108], [117, 110, 100, 111]] ++ ([[100, 101, 102, 105, 110, 115, 116, 97, 110, 99, 101], [100, 101, 102, 101, 113, 117, 105, 118], [100, 101, 102, 112, 114, 111, 99, 101, 115, 115, 111, 114], [108, 111, 99, 97, 108], [100, 101, 99, 108, 97, 114, 101], [103, 117, 97, 114, 100], [109, 101, 97, 115, 117, 114, 101], [115, 105, 103, 110, 97, 116, 117, 114, 101], [114, 101, 115, 116], [101, 110, 97, 98, 108, 101], [100, 105, 115, 97, 98, 108, 101], [104, 105, 110, 116, 115], [117, 115, 101], [105, 110, 100, 117, 99, 116], [119, 105, 116, 104, 111, 117, 116], [114, 117, 108, 101, 45, 99, 108, 97, 115, 115, 101, 115], [114, 101, 119, 114, 105, 116, 101], [116, 121, 112, 101, 45, 112, 114, 101, 115, 99, 114, 105, 112, 116, 105, 111, 110], [102, 111, 114, 119, 97, 114, 100, 45, 99, 104, 97, 105, 110, 105, 110, 103], [108, 105, 110, 101, 97, 114], [101, 108, 105, 109], [101, 113, 117, 105, 118, 97, 108, 101, 110, 99, 101], [99, 111, 110, 103, 114, 117, 101, 110, 99, 101], [103, 101, 110, 101, 114, 97, 108, 105, 122, 101], [112, 114, 111, 99, 101, 115, 115, 111, 114], [115, 105, 109, 112, 108, 105, 102, 121], [100, 101, 115, 116, 114, 117, 99, 116, 111, 114, 115], [102, 101, 114, 116, 105, 108, 105, 122, 101], [103, 101, 110, 101, 114, 97, 108, 105, 122, 97, 116, 105, 111, 110], [105, 114, 114, 101, 108, 101, 118, 97, 110, 99, 101], [105, 110, 100, 117, 99, 116, 105, 111, 110]] : List (List UInt8))
theorem fit_big {b n : Nat} (hb : b ≤ 100000) (h : n ≤ 1000000) : FitB b n := ⟨by show n ≤ 2 ^ 63 - 1; omega, by
  have := Nat.mul_le_mul h hb
  omega⟩
/- Names -/
abbrev nmS (fs rs : List (List Dt)) (i : Int) : AS := ⟨stt 47 [(1, .own 0 rs.length), (2, .dt (.row fs)), (3, inA i)], [some (.buf 32 2 rs)]⟩
noncomputable abbrev nmB : Code := subC (bodyOf Tryz.f74) [1,1,1,0,1,0,0]
theorem nmB1 {fs os rs : List (List Dt)} {n : List UInt8} {x : Ob} {i : Nat} (hi : i < fs.length) (hl : fs.length ≤ 1000) (hr : rs.length ≤ 1000) (hx : IxAt fs (i : Int) 7 (encL x)) (h : Puk 98 [obA x] (.tup [.dt (.row os), boA true])) (hn : IxAt os 1 7 (encL (symB n))) : Tri EX nmB (nmS fs rs i) .nxt (nmS fs (rs ++ [lrow n]) ((i + 1 : Nat) : Int)) :=
  twalk (c := subC (bodyOf Tryz.f74) [1,1,1,0,1,0,0]) (s := nmS fs rs i) (an := [.av (inA fs.length), yT, .av (.pin ((encL x).map .dt)), .av (.tup [.dt (.row os), boA true]), .av (.pin ((encL (symB n)).map .dt)), .av (.un), .av (inA ((i + 1 : Nat) : Int))]) (ls := []) (ft := [1,2,3]) (nb := 1) (e := .nxt) (s' := nmS fs (rs ++ [lrow n]) ((i + 1 : Nat) : Int)) (ps := [(vi ↑fs.length) = (vi ↑fs.length), Bn .lss 3 (.tmp 10) (.tmp 12) (vi ↑i) (vi ↑fs.length) bT, IxAt fs ↑i 7 (encL x), Puk 98 [(obA x)] (.tup [(.dt (.row os)), (boA true)]), IxAt os 1 7 (encL (symB n)), (rs.length) = (rs.length), FitB 32 ((rs ++ [[Dt.val (str (symB n).sp), Dt.val (str (symB n).sn)]]).length), SrcOK 2 [[(.val (str (symB n).sp)), (.val (str (symB n).sn))]], Bn .add 3 (.tmp 14) (.const (vi 1)) (vi ↑i) (vi 1) (vi (↑(i + 1)))]) (by kernel_rfl) ⟨rfl, bin_ilt (decide_eq_true (by omega)), hx, h, hn, rfl, fit_of (by omega) (by simp; omega), src_lrow n, bin_iadd (by omega) (by omega) (by omega), trivial⟩
theorem nmB2 {fs rs : List (List Dt)} {i : Nat} (hi : i = fs.length) : Tri EX nmB (nmS fs rs i) (.out 0) (nmS fs rs i) :=
  twalk (c := subC (bodyOf Tryz.f74) [1,1,1,0,1,0,0]) (s := nmS fs rs i) (an := [.av (inA fs.length), yF]) (ls := []) (ft := [1,2,3]) (nb := 1) (e := .out 0) (s' := nmS fs rs i) (ps := [(vi ↑fs.length) = (vi ↑fs.length), Bn .lss 3 (.tmp 10) (.tmp 12) (vi ↑i) (vi ↑fs.length) bF]) (by kernel_rfl) ⟨rfl, bin_ilt (decide_eq_false (by omega)), trivial⟩
abbrev wdrow (w : List UInt8) : List Dt := [.val (str w)]
abbrev nwS (ws : List (List UInt8)) (rs : List (List Dt)) (i : Int) : AS := ⟨stt 47 [(1, .own 0 rs.length), (6, .ful (ws.map wdrow)), (7, inA i)], [some (.buf 32 2 rs)]⟩
noncomputable abbrev nwB : Code := subC (bodyOf Tryz.f74) [1,1,1,1,1,0,1,0,0]
theorem lenW (l : List (List UInt8)) : Value.int .i64 (l.length : Int) = Value.int .i64 ((l.map wdrow).length : Int) := by rw [List.length_map]
theorem ix_w {ws : List (List UInt8)} {i : Nat} {w : List UInt8} (h : ws[i]? = some w) : IxAt (ws.map wdrow) (i : Int) 1 (wdrow w) := ⟨Int.natCast_nonneg _, by rw [Int.toNat_natCast, List.getElem?_map, h]; rfl, rfl⟩
theorem nwB1 {ws : List (List UInt8)} {rs : List (List Dt)} {w : List UInt8} {i : Nat} (hl : ws.length ≤ 1000) (hr : rs.length ≤ 1000) (hx : ws[i]? = some w) : Tri EX nwB (nwS ws rs i) .nxt (nwS ws (rs ++ [lrow w]) ((i + 1 : Nat) : Int)) :=
  have hi := (List.getElem?_eq_some_iff.1 hx).1
  twalk (c := subC (bodyOf Tryz.f74) [1,1,1,1,1,0,1,0,0]) (s := nwS ws rs i) (an := [.av (inA ws.length), yT, .av (.pin [stA w]), .av (syA lispB w), .av (.un), .av (inA ((i + 1 : Nat) : Int))]) (ls := []) (ft := [1,6,7]) (nb := 1) (e := .nxt) (s' := nwS ws (rs ++ [lrow w]) ((i + 1 : Nat) : Int)) (ps := [(vi ↑ws.length) = (vi (↑(List.map wdrow ws).length)), Bn .lss 3 (.tmp 32) (.tmp 34) (vi ↑i) (vi ↑ws.length) bT, IxAt (List.map wdrow ws) ↑i 1 ([(.val (str w))]), Puk 51 [(stA w)] (syA lispB w), (rs.length) = (rs.length), FitB 32 ((rs ++ [[Dt.val (str lispB), Dt.val (str w)]]).length), SrcOK 2 [[(.val (str lispB)), (.val (str w))]], Bn .add 3 (.tmp 36) (.const (vi 1)) (vi ↑i) (vi 1) (vi (↑(i + 1)))]) (by kernel_rfl) ⟨lenW _, bin_ilt (decide_eq_true (by omega)), ix_w hx, p_lisp _, rfl, fit_of (by omega) (by simp; omega), src_lrow w, bin_iadd (by omega) (by omega) (by omega), trivial⟩
theorem nwB2 {ws : List (List UInt8)} {rs : List (List Dt)} {i : Nat} (hi : i = ws.length) : Tri EX nwB (nwS ws rs i) (.out 2) (nwS ws rs i) :=
  twalk (c := subC (bodyOf Tryz.f74) [1,1,1,1,1,0,1,0,0]) (s := nwS ws rs i) (an := [.av (inA ws.length), yF]) (ls := []) (ft := [1,6,7]) (nb := 1) (e := .out 2) (s' := nwS ws rs i) (ps := [(vi ↑ws.length) = (vi (↑(List.map wdrow ws).length)), Bn .lss 3 (.tmp 32) (.tmp 34) (vi ↑i) (vi ↑ws.length) bF]) (by kernel_rfl) ⟨lenW _, bin_ilt (decide_eq_false (by omega)), trivial⟩
theorem nw_loop {ws : List (List UInt8)} (hl : ws.length ≤ 100) : ∀ (s : List (List UInt8)) (i : Nat) (rs : List (List Dt)), ws.drop i = s → i ≤ ws.length → rs.length ≤ 100 + i → Lps EX nwB (nwS ws rs i) (.out 2) (nwS ws (rs ++ s.map lrow) ws.length) := by
  intro s
  induction s with
  | nil =>
    intro i rs hd hi _
    have e1 := congrArg List.length hd
    rw [List.length_drop, List.length_nil] at e1
    obtain rfl : i = ws.length := by omega
    rw [List.map_nil, List.append_nil]
    exact .stop (nwB2 rfl) (fun h => by cases h)
  | cons x s ih =>
    intro i rs hd hi hr
    have hx : ws[i]? = some x := by rw [← List.head?_drop, hd]; rfl
    have hlt := (List.getElem?_eq_some_iff.1 hx).1
    have hn := ih (i + 1) (rs ++ [lrow x]) (by rw [← List.drop_drop, hd]; rfl) (by omega) (by simp; omega)
    rw [List.append_assoc, List.singleton_append, ← List.map_cons] at hn
    exact .more (nwB1 (by omega) (by omega) hx) hn
theorem w_Names {fs rs : List (List Dt)} {k : Int} (hd : Puk 72 [] (.dt (.row fs))) (h1 : Tri EX (.loop nmB) (nmS fs (primL.map prow) 0) (.out 0) (nmS fs rs k)) (h2 : Tri EX (.loop nwB) (nwS wordsL rs 0) (.out 2) (nwS wordsL (rs ++ wordsL.map lrow) wordsL.length)) : Puk 74 [] (.dt (.row (rs ++ wordsL.map lrow))) :=
  pwalk (an := [.av (.dt (.row fs))]) (ls := [.scl 1 0 [] (.own 0 25) [some (.buf 32 2 (primL.map prow))], .inv [1,2,3] 1 (.out 0) (nmS fs rs k), .inv [1,6,7] 1 (.out 2) (nwS wordsL (rs ++ wordsL.map lrow) wordsL.length)]) (ps := [Suk 102 [] [] (AV.own 0 25) [some (Bx.buf 32 2 (List.map prow primL))], Puk 72 [] (.dt (.row fs)), Tri EX (.loop (subC (bodyOf Tryz.f74) [1,1,1,0,1,0,0])) (nmS fs (primL.map prow) 0) (.out 0) (nmS fs rs k), Tri EX (.loop (subC (bodyOf Tryz.f74) [1,1,1,1,1,0,1,0,0])) (nwS wordsL rs 0) (.out 2) (nwS wordsL (rs ++ wordsL.map lrow) wordsL.length), ((rs ++ List.map lrow wordsL).length) = ((rs ++ List.map lrow wordsL).length)]) Tryz.func74 (by kernel_rfl) (by kernel_rfl) ⟨s_Names7, hd, h1, h2, rfl, trivial⟩
theorem src_encE (f : Rdr.Fnc) : SrcOK 32 [encE f] := by
  intro x hx
  rw [List.mem_singleton] at hx
  subst hx
  exact ⟨rfl, fun d hd => by
    have h : (encE f).all Dt.one = true := rfl
    exact List.all_eq_true.1 h d hd⟩
theorem src_encP (ns : List (List Dt)) : SrcOK 32 [encP ns] := by
  intro x hx
  rw [List.mem_singleton] at hx
  subst hx
  exact ⟨rfl, fun d hd => by
    have h : (encP ns).all Dt.one = true := rfl
    exact List.all_eq_true.1 h d hd⟩
/- World -/
abbrev wo0 (fs : List (List Dt)) : AS := ⟨stt 27 [(1, .nil), (2, .dt (.row fs)), (3, inA 0)], []⟩
abbrev woS (fs es : List (List Dt)) (i : Int) : AS := ⟨stt 27 [(1, .own 0 es.length), (2, .dt (.row fs)), (3, inA i)], [wB es]⟩
noncomputable abbrev woB : Code := subC (bodyOf Tryz.f45) [1,1,1,0,1,0,0]
theorem woB1 {fs es : List (List Dt)} {x : Ob} {f : Rdr.Fnc} {i : Nat} (hi : i < fs.length) (hl : fs.length ≤ 1000) (hr : es.length ≤ 1000) (hx : IxAt fs (i : Int) 7 (encL x)) (h : Suk 73 [.own 0 es.length, obA x] [wB es] (entA f) [wB es]) : Tri EX woB (woS fs es i) .nxt (woS fs (es ++ [encE f]) ((i + 1 : Nat) : Int)) :=
  twalk (c := subC (bodyOf Tryz.f45) [1,1,1,0,1,0,0]) (s := woS fs es i) (an := [.av (inA fs.length), yT, .av (.pin ((encL x).map .dt)), .av (.un), .av (inA ((i + 1 : Nat) : Int))]) (ls := [.scl 6 6 [0] (entA f) [some (.buf 109 32 es)]]) (ft := [1,2,3]) (nb := 1) (e := .nxt) (s' := woS fs (es ++ [encE f]) ((i + 1 : Nat) : Int)) (ps := [(vi ↑fs.length) = (vi ↑fs.length), Bn .lss 3 (.tmp 5) (.tmp 7) (vi ↑i) (vi ↑fs.length) bT, IxAt fs ↑i 7 (encL x), Suk 73 [AV.own 0 es.length, AV.agg [AV.dt (Dt.val (vi x.kind)), AV.dt (Dt.val (str x.num)), AV.dt (Dt.val (str x.den)), AV.dt (Dt.val (str x.sp)), AV.dt (Dt.val (str x.sn)), AV.dt (Dt.val (str x.text)), AV.dt (Dt.row (List.map Ob.enc x.pair))]] [some (Bx.buf 109 32 es)] (entA f) [some (Bx.buf 109 32 es)], (es.length) = (es.length), FitB 568 ((es ++ [[Dt.val (vi 3), Dt.val (str lispB), Dt.val (str f.nm), Dt.val (str []), Dt.row [], Dt.val (str []), Dt.val (str []), Dt.row [], Dt.val bF, Dt.val (vi 0), Dt.val (str []), Dt.val (str []), Dt.val (vi 0), Dt.val (str []), Dt.val (str []), Dt.val (str []), Dt.val (str []), Dt.val (str []), Dt.row [], Dt.row [], Dt.row [encF f], Dt.row [], Dt.row [], Dt.row [], Dt.val (str []), Dt.val (str []), Dt.row [], Dt.row [], Dt.row [], Dt.row [], Dt.val (str []), Dt.val (Value.int .u64 0)]]).length), SrcOK 32 [encE f], Bn .add 3 (.tmp 9) (.const (vi 1)) (vi ↑i) (vi 1) (vi (↑(i + 1)))]) (by kernel_rfl) ⟨rfl, bin_ilt (decide_eq_true (by omega)), hx, h, rfl, fit_big (by omega) (by simp; omega), src_encE f, bin_iadd (by omega) (by omega) (by omega), trivial⟩
theorem woB2 {fs es : List (List Dt)} {i : Nat} (hi : i = fs.length) : Tri EX woB (woS fs es i) (.out 0) (woS fs es i) :=
  twalk (c := subC (bodyOf Tryz.f45) [1,1,1,0,1,0,0]) (s := woS fs es i) (an := [.av (inA fs.length), yF]) (ls := []) (ft := [1,2,3]) (nb := 1) (e := .out 0) (s' := woS fs es i) (ps := [(vi ↑fs.length) = (vi ↑fs.length), Bn .lss 3 (.tmp 5) (.tmp 7) (vi ↑i) (vi ↑fs.length) bF]) (by kernel_rfl) ⟨rfl, bin_ilt (decide_eq_false (by omega)), trivial⟩
theorem w_World {fs es ns : List (List Dt)} {k : Int} (hd : Puk 72 [] (.dt (.row fs))) (hlp : Tri EX (.loop woB) (wo0 fs) (.out 0) (woS fs es k)) (hn : Puk 74 [] (.dt (.row ns))) (hl : es.length ≤ 1000) : Puk 45 [] (.dt (.row (es ++ [encP ns]))) :=
  pwalk (an := [.av (.dt (.row fs)), .av (syA lispB [117, 115, 101, 114, 45, 112, 97, 99, 107, 97, 103, 101]), .av (.dt (.row ns)), .av (.un)]) (ls := [.inv [1,2,3] 0 (.out 0) (woS fs es k)]) (ps := [Puk 72 [] (.dt (.row fs)), Tri EX (.loop (subC (bodyOf Tryz.f45) [1,1,1,0,1,0,0])) (wo0 fs) (.out 0) (woS fs es k), Puk 51 [(stA [117, 115, 101, 114, 45, 112, 97, 99, 107, 97, 103, 101])] (syA lispB [117, 115, 101, 114, 45, 112, 97, 99, 107, 97, 103, 101]), Puk 74 [] (.dt (.row ns)), (es.length) = (es.length), FitB 568 ((es ++ [[Dt.val (vi 1), Dt.val (str lispB), Dt.val (str [117, 115, 101, 114, 45, 112, 97, 99, 107, 97, 103, 101]), Dt.val (Value.string { data := #[117, 115, 101, 114] : ByteArray }), Dt.row ns, Dt.val (Value.string { data := #[] : ByteArray }), Dt.val (Value.string { data := #[] : ByteArray }), Dt.row [], Dt.val bF, Dt.val (vi 0), Dt.val (Value.string { data := #[] : ByteArray }), Dt.val (Value.string { data := #[] : ByteArray }), Dt.val (vi 0), Dt.val (Value.string { data := #[] : ByteArray }), Dt.val (Value.string { data := #[] : ByteArray }), Dt.val (Value.string { data := #[] : ByteArray }), Dt.val (Value.string { data := #[] : ByteArray }), Dt.val (Value.string { data := #[] : ByteArray }), Dt.row [], Dt.row [], Dt.row [], Dt.row [], Dt.row [], Dt.row [], Dt.val (Value.string { data := #[] : ByteArray }), Dt.val (Value.string { data := #[] : ByteArray }), Dt.row [], Dt.row [], Dt.row [], Dt.row [], Dt.val (Value.string { data := #[] : ByteArray }), Dt.val (Value.int .u64 0)]]).length), SrcOK 32 [[(.val (vi 1)), (.val (str lispB)), (.val (str [117, 115, 101, 114, 45, 112, 97, 99, 107, 97, 103, 101])), (.val (str [117, 115, 101, 114])), (.row ns), (.val (str [])), (.val (str [])), (.row []), (.val bF), (.val (vi 0)), (.val (str [])), (.val (str [])), (.val (vi 0)), (.val (str [])), (.val (str [])), (.val (str [])), (.val (str [])), (.val (str [])), (.row []), (.row []), (.row []), (.row []), (.row []), (.row []), (.val (str [])), (.val (str [])), (.row []), (.row []), (.row []), (.row []), (.val (str [])), (.val (Value.int .u64 0))]], ((es ++ [[Dt.val (vi 1), Dt.val (str lispB), Dt.val (str [117, 115, 101, 114, 45, 112, 97, 99, 107, 97, 103, 101]), Dt.val (Value.string { data := #[117, 115, 101, 114] : ByteArray }), Dt.row ns, Dt.val (Value.string { data := #[] : ByteArray }), Dt.val (Value.string { data := #[] : ByteArray }), Dt.row [], Dt.val bF, Dt.val (vi 0), Dt.val (Value.string { data := #[] : ByteArray }), Dt.val (Value.string { data := #[] : ByteArray }), Dt.val (vi 0), Dt.val (Value.string { data := #[] : ByteArray }), Dt.val (Value.string { data := #[] : ByteArray }), Dt.val (Value.string { data := #[] : ByteArray }), Dt.val (Value.string { data := #[] : ByteArray }), Dt.val (Value.string { data := #[] : ByteArray }), Dt.row [], Dt.row [], Dt.row [], Dt.row [], Dt.row [], Dt.row [], Dt.val (Value.string { data := #[] : ByteArray }), Dt.val (Value.string { data := #[] : ByteArray }), Dt.row [], Dt.row [], Dt.row [], Dt.row [], Dt.val (Value.string { data := #[] : ByteArray }), Dt.val (Value.int .u64 0)]]).length) = ((es ++ [[Dt.val (vi 1), Dt.val (str lispB), Dt.val (str [117, 115, 101, 114, 45, 112, 97, 99, 107, 97, 103, 101]), Dt.val (Value.string { data := #[117, 115, 101, 114] : ByteArray }), Dt.row ns, Dt.val (Value.string { data := #[] : ByteArray }), Dt.val (Value.string { data := #[] : ByteArray }), Dt.row [], Dt.val bF, Dt.val (vi 0), Dt.val (Value.string { data := #[] : ByteArray }), Dt.val (Value.string { data := #[] : ByteArray }), Dt.val (vi 0), Dt.val (Value.string { data := #[] : ByteArray }), Dt.val (Value.string { data := #[] : ByteArray }), Dt.val (Value.string { data := #[] : ByteArray }), Dt.val (Value.string { data := #[] : ByteArray }), Dt.val (Value.string { data := #[] : ByteArray }), Dt.row [], Dt.row [], Dt.row [], Dt.row [], Dt.row [], Dt.row [], Dt.val (Value.string { data := #[] : ByteArray }), Dt.val (Value.string { data := #[] : ByteArray }), Dt.row [], Dt.row [], Dt.row [], Dt.row [], Dt.val (Value.string { data := #[] : ByteArray }), Dt.val (Value.int .u64 0)]]).length)]) Tryz.func45 (by kernel_rfl) (by kernel_rfl) ⟨hd, hlp, p_lisp _, hn, rfl, fit_big (by omega) (by simp; omega), src_encP ns, rfl, trivial⟩
end Go.Proofs.YtendgffijciehaaGreatDoor
/- The built-in world: what World and Names answer. -/
namespace Go.Proofs.YtendgffijciehaaGreatDoor
open Go.RowKit
open Te

theorem entry_items {ws : List Rdr.Fnc} {x : Tr} {f : Rdr.Fnc} (h : Rdr.entry primL ws x = some f) : ∃ d r, r.length ≤ 200 ∧ x = Tr.list (d :: Tr.sym lispB f.nm :: r) := by
  unfold Rdr.entry at h
  split at h
  case h_2 => cases h
  rename_i d p nm px y r hi
  split at h
  case h_2 => cases h
  split at h
  case h_2 => cases h
  split at h
  case isFalse => cases h
  rename_i hc
  obtain ⟨rfl, hnm, hpn, hpl, hr⟩ := hc
  split at h
  case h_2 => cases h
  cases h
  exact ⟨d, px :: y :: r, by simp only [List.length_cons]; omega, items_list hi⟩
theorem ix_form {L : List Tr} {i : Nat} {x : Tr} (h : L[i]? = some x) : IxAt (encOs L) (i : Int) 7 (encL x.ob) := ⟨Int.natCast_nonneg _, by rw [Int.toNat_natCast]; unfold encOs; rw [List.getElem?_map, h]; rfl, rfl⟩
theorem wo_loop {L : List Tr} (hl : L.length ≤ 100) {wf : List Rdr.Fnc} : ∀ (s : List Tr) (i : Nat) (ws : List Rdr.Fnc), L.drop i = s → i ≤ L.length → ws.length = i → Rdr.world primL s ws = some wf → Lps EX woB (woS (encOs L) (ws.map encE) i) (.out 0) (woS (encOs L) (wf.map encE) L.length) := by
  have hlo : (encOs L).length = L.length := by unfold encOs; rw [List.length_map]
  intro s
  induction s with
  | nil =>
    intro i ws hd hi hw h
    cases h
    have e1 := congrArg List.length hd
    rw [List.length_drop, List.length_nil] at e1
    obtain rfl : i = L.length := by omega
    exact .stop (woB2 hlo.symm) (fun h => by cases h)
  | cons x s ih =>
    intro i ws hd hi hw h
    rw [Rdr.world] at h
    split at h
    case h_2 => cases h
    rename_i f hf
    have hx : L[i]? = some x := by rw [← List.head?_drop, hd]; rfl
    have hlt := (List.getElem?_eq_some_iff.1 hx).1
    have hs := woB1 (fs := encOs L) (es := ws.map encE) (i := i) (by omega) (by omega) (by rw [List.length_map]; omega) (ix_form hx) (p_entry (by omega) hf)
    have e : ws.map encE ++ [encE f] = (ws ++ [f]).map encE := by rw [List.map_append]; rfl
    rw [e] at hs
    exact .more hs (ih (i + 1) (ws ++ [f]) (by rw [← List.drop_drop, hd]; rfl) hlt (by simp [hw]) h)
theorem nm_loop {L : List Tr} (hl : L.length ≤ 100) {wf : List Rdr.Fnc} : ∀ (s : List Tr) (i : Nat) (ws : List Rdr.Fnc), L.drop i = s → i ≤ L.length → ws.length = i → Rdr.world primL s ws = some wf → Lps EX nmB (nmS (encOs L) (primL.map prow ++ ws.map fun f => lrow f.nm) i) (.out 0) (nmS (encOs L) (primL.map prow ++ wf.map fun f => lrow f.nm) L.length) := by
  have hlo : (encOs L).length = L.length := by unfold encOs; rw [List.length_map]
  have hpl : primL.length = 25 := rfl
  intro s
  induction s with
  | nil =>
    intro i ws hd hi hw h
    cases h
    have e1 := congrArg List.length hd
    rw [List.length_drop, List.length_nil] at e1
    obtain rfl : i = L.length := by omega
    exact .stop (nmB2 hlo.symm) (fun h => by cases h)
  | cons x s ih =>
    intro i ws hd hi hw h
    rw [Rdr.world] at h
    split at h
    case h_2 => cases h
    rename_i f hf
    have hx : L[i]? = some x := by rw [← List.head?_drop, hd]; rfl
    have hlt := (List.getElem?_eq_some_iff.1 hx).1
    obtain ⟨d, r, hr, hxe⟩ := entry_items hf
    have hI := p_rItems (l := d :: Tr.sym lispB f.nm :: r) (by simp only [List.length_cons]; omega)
    rw [← hxe] at hI
    have hs := nmB1 (fs := encOs L) (rs := primL.map prow ++ ws.map fun f => lrow f.nm) (i := i) (by omega) (by omega) (by rw [List.length_append, List.length_map, List.length_map]; omega) (ix_form hx) hI (ix_os1 _ _ _)
    have e : (primL.map prow ++ ws.map fun f => lrow f.nm) ++ [lrow f.nm] = primL.map prow ++ (ws ++ [f]).map fun f => lrow f.nm := by rw [List.append_assoc, List.map_append]; rfl
    rw [e] at hs
    exact .more hs (ih (i + 1) (ws ++ [f]) (by rw [← List.drop_drop, hd]; rfl) hlt (by simp [hw]) h)
/-- the functions of the built-in world -/
def worldB : List Rdr.Fnc := (Rdr.world primL forms []).getD []
theorem worldB_eq : Rdr.world primL forms [] = some worldB := by
  have h : (Rdr.world primL forms []).isSome = true := by decide +kernel
  obtain ⟨l, hl⟩ := Option.isSome_iff_exists.1 h
  unfold worldB
  rw [hl]
  rfl
theorem worldB_len : worldB.length = 28 := by decide +kernel
theorem wordsL_len : wordsL.length = 61 := by decide +kernel
/-- what Names answers -/
def namesR : List (List Dt) := (primL.map prow ++ worldB.map fun f => lrow f.nm) ++ wordsL.map lrow
theorem forms_le : forms.length ≤ 100 := by rw [forms_len]; decide
theorem p_Names13 : Puk 74 [] (.dt (.row namesR)) := by
  have h1 := (nm_loop forms_le forms 0 [] rfl (Nat.zero_le _) rfl worldB_eq).tri
  have h2 := (nw_loop (ws := wordsL) (by rw [wordsL_len]; decide) wordsL 0 (primL.map prow ++ worldB.map fun f => lrow f.nm) rfl (Nat.zero_le _) (by rw [List.length_append, List.length_map, List.length_map, worldB_len]; decide)).tri
  rw [List.map_nil, List.append_nil] at h1
  exact w_Names p_definitions h1 h2
/-- the rows of the built-in world -/
def wrows : List (List Dt) := worldB.map encE ++ [encP namesR]
theorem p_World : Puk 45 [] (.dt (.row wrows)) := by
  have h := (wo_loop forms_le forms 0 [] rfl (Nat.zero_le _) rfl worldB_eq).tri
  have ht : Tri EX (.loop woB) (wo0 (encOs forms)) (.out 0) (woS (encOs forms) (worldB.map encE) forms.length) := Tri.own0 1 109 32 (by show 1 < 27; omega) rfl h
  exact w_World p_definitions ht p_Names13 (by rw [List.length_map, worldB_len]; decide)
end Go.Proofs.YtendgffijciehaaGreatDoor
/- The maker's names, over the built-in world. -/
namespace Go.Proofs.YtendgffijciehaaGreatDoor
open Go.RowKit
open Te

abbrev mnS (es rs : List (List Dt)) (i : Int) : AS := ⟨stt 36 [(0, .dt (.row es)), (3, .own 0 rs.length), (4, inA i)], [some (.buf 32 2 rs)]⟩
noncomputable abbrev mnB : Code := subC (bodyOf Tryz.f76) [1,1,0,1,0,0]
theorem mnB1 {es rs : List (List Dt)} {f : Rdr.Fnc} {i : Nat} (hi : i < es.length) (hl : es.length ≤ 1000) (hr : rs.length ≤ 1000) (hx : IxAt es (i : Int) 32 (encE f)) : Tri EX mnB (mnS es rs i) .nxt (mnS es (rs ++ [lrow f.nm]) ((i + 1 : Nat) : Int)) :=
  twalk (c := subC (bodyOf Tryz.f76) [1,1,0,1,0,0]) (s := mnS es rs i) (an := [.av (inA es.length), yT, .av (.pin ((encE f).map .dt)), .no, .no, .av (.pin ((encE f).map .dt)), .no, .av (.un), .no, .av (.pin ((encE f).map .dt)), .no, .no, .av (inA ((i + 1 : Nat) : Int))]) (ls := [.run 2]) (ft := [0,3,4]) (nb := 1) (e := .nxt) (s' := mnS es (rs ++ [lrow f.nm]) ((i + 1 : Nat) : Int)) (ps := [(vi ↑es.length) = (vi ↑es.length), Bn .lss 3 (.tmp 7) (.tmp 9) (vi ↑i) (vi ↑es.length) bT, IxAt es ↑i 32 (encE f), IxAt es ↑i 32 (encE f), (rs.length) = (rs.length), FitB 32 ((rs ++ [[Dt.val (str lispB), Dt.val (str f.nm)]]).length), SrcOK 2 [[(.val (str lispB)), (.val (str f.nm))]], IxAt es ↑i 32 (encE f), Bn .add 3 (.tmp 11) (.const (vi 1)) (vi ↑i) (vi 1) (vi (↑(i + 1)))]) (by kernel_rfl) ⟨rfl, bin_ilt (decide_eq_true (by omega)), hx, hx, rfl, fit_of (by omega) (by simp; omega), src_lrow f.nm, hx, bin_iadd (by omega) (by omega) (by omega), trivial⟩
theorem mnB3 {es rs ns : List (List Dt)} {i : Nat} (hi : i < es.length) (hl : es.length ≤ 1000) (hx : IxAt es (i : Int) 32 (encP ns)) : Tri EX mnB (mnS es rs i) .nxt (mnS es rs ((i + 1 : Nat) : Int)) :=
  twalk (c := subC (bodyOf Tryz.f76) [1,1,0,1,0,0]) (s := mnS es rs i) (an := [.av (inA es.length), yT, .av (.pin ((encP ns).map .dt)), .no, .no, .av (inA ((i + 1 : Nat) : Int))]) (ls := [.run 1]) (ft := [0,3,4]) (nb := 1) (e := .nxt) (s' := mnS es rs ((i + 1 : Nat) : Int)) (ps := [(vi ↑es.length) = (vi ↑es.length), Bn .lss 3 (.tmp 7) (.tmp 9) (vi ↑i) (vi ↑es.length) bT, IxAt es ↑i 32 ([(.val (vi 1)), (.val (str lispB)), (.val (str [117, 115, 101, 114, 45, 112, 97, 99, 107, 97, 103, 101])), (.val (str [117, 115, 101, 114])), (.row ns), (.val (str [])), (.val (str [])), (.row []), (.val bF), (.val (vi 0)), (.val (str [])), (.val (str [])), (.val (vi 0)), (.val (str [])), (.val (str [])), (.val (str [])), (.val (str [])), (.val (str [])), (.row []), (.row []), (.row []), (.row []), (.row []), (.row []), (.val (str [])), (.val (str [])), (.row []), (.row []), (.row []), (.row []), (.val (str [])), (.val (Value.int .u64 0))]), Bn .add 3 (.tmp 11) (.const (vi 1)) (vi ↑i) (vi 1) (vi (↑(i + 1)))]) (by kernel_rfl) ⟨rfl, bin_ilt (decide_eq_true (by omega)), hx, bin_iadd (by omega) (by omega) (by omega), trivial⟩
theorem mnB2 {es rs : List (List Dt)} {i : Nat} (hi : i = es.length) : Tri EX mnB (mnS es rs i) (.out 0) (mnS es rs i) :=
  twalk (c := subC (bodyOf Tryz.f76) [1,1,0,1,0,0]) (s := mnS es rs i) (an := [.av (inA es.length), yF]) (ls := []) (ft := [0,3,4]) (nb := 1) (e := .out 0) (s' := mnS es rs i) (ps := [(vi ↑es.length) = (vi ↑es.length), Bn .lss 3 (.tmp 7) (.tmp 9) (vi ↑i) (vi ↑es.length) bF]) (by kernel_rfl) ⟨rfl, bin_ilt (decide_eq_false (by omega)), trivial⟩
theorem mn_loop {ws : List Rdr.Fnc} {ns : List (List Dt)} (hl : ws.length ≤ 100) : ∀ (s : List Rdr.Fnc) (i : Nat) (rs : List (List Dt)), ws.drop i = s → i ≤ ws.length → rs.length ≤ 100 + i → Lps EX mnB (mnS (ws.map encE ++ [encP ns]) rs i) (.out 0) (mnS (ws.map encE ++ [encP ns]) (rs ++ s.map fun f => lrow f.nm) ((ws.length + 1 : Nat) : Int)) := by
  have hlo : (ws.map encE ++ [encP ns]).length = ws.length + 1 := by rw [List.length_append, List.length_map]; rfl
  intro s
  induction s with
  | nil =>
    intro i rs hd hi _
    have e1 := congrArg List.length hd
    rw [List.length_drop, List.length_nil] at e1
    obtain rfl : i = ws.length := by omega
    rw [List.map_nil, List.append_nil]
    have hx : IxAt (ws.map encE ++ [encP ns]) (ws.length : Int) 32 (encP ns) := ⟨Int.natCast_nonneg _, by rw [Int.toNat_natCast, List.getElem?_append_right (by rw [List.length_map]; exact Nat.le_refl _), List.length_map, Nat.sub_self]; rfl, rfl⟩
    exact .more (mnB3 (by omega) (by omega) hx) (.stop (mnB2 hlo.symm) (fun h => by cases h))
  | cons x s ih =>
    intro i rs hd hi hr
    have hx : ws[i]? = some x := by rw [← List.head?_drop, hd]; rfl
    have hlt := (List.getElem?_eq_some_iff.1 hx).1
    have hn := ih (i + 1) (rs ++ [lrow x.nm]) (by rw [← List.drop_drop, hd]; rfl) (by omega) (by simp; omega)
    rw [List.append_assoc, List.singleton_append] at hn
    exact .more (mnB1 (by omega) (by omega) (by omega) (ix_E hx)) hn
theorem p_mkNames {ws : List Rdr.Fnc} {ns : List (List Dt)} (hl : ws.length ≤ 100) : Puk 76 [.dt (.row (ws.map encE ++ [encP ns]))] (.dt (.row (primL.map prow ++ ws.map fun f => lrow f.nm))) := by
  have h1 := (mn_loop (ns := ns) hl ws 0 (primL.map prow) rfl (Nat.zero_le _) (by rw [List.length_map]; decide)).tri
  generalize ws.map encE ++ [encP ns] = es at *
  generalize (((ws.length + 1 : Nat)) : Int) = k at *
  generalize hrs : (primL.map prow ++ ws.map fun f => lrow f.nm) = rs at *
  exact pwalk (an := []) (ls := [.scl 1 0 [] (.own 0 25) [some (.buf 32 2 (primL.map prow))], .inv [0,3,4] 1 (.out 0) (mnS es rs k)]) (ps := [Suk 102 [] [] (AV.own 0 25) [some (Bx.buf 32 2 (List.map prow primL))], Tri EX (.loop (subC (bodyOf Tryz.f76) [1,1,0,1,0,0])) (mnS es (primL.map prow) 0) (.out 0) (mnS es rs k), (rs.length) = (rs.length)]) Tryz.func76 (by kernel_rfl) (by kernel_rfl) ⟨s_Names7, h1, rfl, trivial⟩
end Go.Proofs.YtendgffijciehaaGreatDoor
/- The maker's terms and literals, over any world whose functions are known. -/
namespace Go.Proofs.YtendgffijciehaaGreatDoor
open Go.RowKit
open Te


abbrev namA (nl : List (List UInt8)) : AV := .dt (.row (nl.map lrow))
abbrev varA (vl : List (List UInt8)) : AV := .dt (.row (vl.map srow))

theorem lenV (l : List (List UInt8)) : Value.int .i64 (l.length : Int) = Value.int .i64 ((l.map srow).length : Int) := by rw [List.length_map]
/-- the maker's variables -/
abbrev vlM : List (List UInt8) := [[120], [121], [122], [117]]
/-- what the maker is told: a world, the names of functions and their arities, and variables -/
structure Mk (wr : List (List Dt)) (nl vl : List (List UInt8)) : Prop where
  hn : 0 < nl.length
  hn1 : nl.length ≤ 1000
  hv : 0 < vl.length
  hv1 : vl.length ≤ 4
  ar : ∀ n ∈ nl, n.length ≤ 1000 ∧ ∃ a : Nat, a ≤ 8 ∧ Puk 104 [.dt (.row wr), syA lispB n] (.tup [inA (a : Int), boA true])
  vlen : ∀ v ∈ vl, v ∈ vlM
theorem ixA {l : List (List UInt8)} (f : List UInt8 → List Dt) (hf : ∀ x, (f x).length = 2) (n : Int) (h : 0 < l.length) : ∃ x ∈ l, IxAt (l.map f) (n % l.length) 2 (f x) := by
  have h0 : 0 ≤ n % (l.length : Int) := Int.emod_nonneg _ (by omega)
  have h1 : n % (l.length : Int) < l.length := Int.emod_lt_of_pos _ (by omega)
  have hk : (n % (l.length : Int)).toNat < l.length := by omega
  exact ⟨l[(n % (l.length : Int)).toNat], List.getElem_mem hk, h0, by rw [List.getElem?_map, List.getElem?_eq_getElem hk]; rfl, hf _⟩
abbrev rwC (r : Raw) : Option Bx := some (.cells [inA r.kind, inA r.n, stA r.s, .dt (.row (r.l.map Raw.enc))])
abbrev zTc : Option Bx := some (.cells [inA 0, stA [], stA [], inA 0, stA [], stA [], stA [], stA [], stA [], .nil, .nil])
/-- a variable -/
theorem w_b0 {wr : List (List Dt)} {nl vl : List (List UInt8)} {r : Raw} {k j : Int} {nm : List UInt8} {t : Te} (h1 : Puk 19 [inA r.kind, inA 6] (inA k)) (hk : k < 2) (hv : 0 < vl.length) (h2 : Puk 19 [inA r.n, inA vl.length] (inA j)) (hx : IxAt (vl.map srow) j 2 (srow nm)) (ht : Puk 39 [syA userB nm] (teA t)) : Puk 75 [.dt (.row wr), namA nl, varA vl, rawA r] (teA t) :=
  pwalk (an := [.av (inA k), yT, .av (inA vl.length), yT, .av (inA vl.length), .av (inA j), .av (.pin [stA userB, stA nm]), .av (teA t)]) (ls := []) (ps := [Puk 19 [(inA r.kind), (inA 6)] (inA k), Bn .lss 3 (.tmp 18) (.const (vi 2)) (vi k) (vi 2) bT, (vi ↑vl.length) = (vi (↑(List.map srow vl).length)), Bn .gtr 3 (.tmp 22) (.const (vi 0)) (vi ↑vl.length) (vi 0) bT, (vi ↑vl.length) = (vi (↑(List.map srow vl).length)), Puk 19 [(inA r.n), (inA ↑vl.length)] (inA j), IxAt (List.map srow vl) j 2 ([(.val (str userB)), (.val (str nm))]), Puk 39 [(syA userB nm)] (teA t)]) Tryz.func75 (by kernel_rfl) (by kernel_rfl) ⟨h1, bin_ilt (decide_eq_true hk), lenV _, bin_igt (decide_eq_true (by omega)), lenV _, h2, hx, ht, trivial⟩
/-- a constant -/
theorem w_b1 {wr : List (List Dt)} {nl vl : List (List UInt8)} {r : Raw} {o : Ob} {t : Te} (h1 : Puk 19 [inA r.kind, inA 6] (inA 2)) (hl : r.l.length = 0) (h2 : Puk 19 [inA r.n, inA 7] (inA (r.n % 7))) (ho : Puk 40 [inA (r.n % 7 - 2)] (obA o)) (hc : Puk 16 [obA o] (teA t)) : Puk 75 [.dt (.row wr), namA nl, varA vl, rawA r] (teA t) :=
  pwalk (an := [.av (inA 2), .no, .no, .av (inA r.l.length), yT, .av (inA (r.n % 7)), .av (inA (r.n % 7 - 2)), .av (obA o), .av (teA t)]) (ls := []) (ps := [Puk 19 [(inA r.kind), (inA 6)] (inA 2), (vi ↑r.l.length) = (vi (↑(List.map Raw.enc r.l).length)), Bn .eql 3 (.tmp 38) (.const (vi 0)) (vi ↑r.l.length) (vi 0) bT, Puk 19 [(inA r.n), (inA 7)] (inA (r.n % 7)), Bn .sub 3 (.tmp 42) (.const (vi 2)) (vi (r.n % 7)) (vi 2) (vi (r.n % 7 - 2)), Puk 40 [(inA (r.n % 7 - 2))] (obA o), Puk 16 [(obA o)] (teA t)]) Tryz.func75 (by kernel_rfl) (by kernel_rfl) ⟨h1, lenEncR _, bin_ieq (decide_eq_true (by omega)), h2, bin_isub rfl (by omega) (by omega), ho, hc, trivial⟩
theorem w_b2 {wr : List (List Dt)} {nl vl : List (List UInt8)} {r x : Raw} {o : Ob} {t : Te} (h1 : Puk 19 [inA r.kind, inA 6] (inA 2)) (hx : r.l[0]? = some x) (ho : Puk 103 [rawA x] (obA o)) (hc : Puk 16 [obA o] (teA t)) : Puk 75 [.dt (.row wr), namA nl, varA vl, rawA r] (teA t) :=
  pwalk (an := [.av (inA 2), .no, .no, .av (inA r.l.length), yF, .av (.pin ((encR x).map .dt)), .av (obA o), .av (teA t)]) (ls := []) (ps := [Puk 19 [(inA r.kind), (inA 6)] (inA 2), (vi ↑r.l.length) = (vi (↑(List.map Raw.enc r.l).length)), Bn .eql 3 (.tmp 38) (.const (vi 0)) (vi ↑r.l.length) (vi 0) bF, IxAt (List.map Raw.enc r.l) 0 4 (encR x), Puk 103 [(rawA x)] (obA o), Puk 16 [(obA o)] (teA t)]) Tryz.func75 (by kernel_rfl) (by kernel_rfl) ⟨h1, lenEncR _, bin_ieq (decide_eq_false (by have := (List.getElem?_eq_some_iff.1 hx).1; omega)), ix_raw hx, ho, hc, trivial⟩
/- a call -/
abbrev bdX (r : Raw) (nm : List UInt8) : List (Option Bx) := [rwC r, zTc, some (.cells [stA lispB, stA nm])]
abbrev bdS (wr : List (List Dt)) (nl vl : List (List UInt8)) (r : Raw) (nm : List UInt8) (n : Int) (es : List (List Dt)) (i : Int) : AS := ⟨stt 84 [(0, .dt (.row wr)), (1, namA nl), (2, varA vl), (7, .ptr 0 0), (8, .ptr 1 0), (10, .ptr 2 0), (11, inA n), (13, .own 3 es.length), (14, inA i)], bdX r nm ++ [some (.buf 37 11 es)]⟩
abbrev bd0 (wr : List (List Dt)) (nl vl : List (List UInt8)) (r : Raw) (nm : List UInt8) (n : Int) : AS := ⟨stt 84 [(0, .dt (.row wr)), (1, namA nl), (2, varA vl), (7, .ptr 0 0), (8, .ptr 1 0), (10, .ptr 2 0), (11, inA n), (13, .nil), (14, inA 0)], bdX r nm⟩
noncomputable abbrev bdB : Code := subC (bodyOf Tryz.f75) [1,1,1,1,1,1,1,0,1,0,0]
theorem bdB1 {wr : List (List Dt)} {nl vl : List (List UInt8)} {r x : Raw} {nm : List UInt8} {n : Int} {es : List (List Dt)} {i : Nat} {t : Te} (hi : (i : Int) < n) (hn : n ≤ 8) (he : es.length ≤ 8) (h1 : Puk 47 [rawA r, inA (i : Int)] (rawA x)) (h2 : Puk 75 [.dt (.row wr), namA nl, varA vl, rawA x] (teA t)) : Tri EX bdB (bdS wr nl vl r nm n es i) .nxt (bdS wr nl vl r nm n (es ++ [encT t]) ((i + 1 : Nat) : Int)) :=
  twalk (c := subC (bodyOf Tryz.f75) [1,1,1,1,1,1,1,0,1,0,0]) (s := bdS wr nl vl r nm n es i) (an := [yT, .av (rawA x), .av (teA t), .av (.un), .av (inA ((i + 1 : Nat) : Int))]) (ls := []) (ft := [0,1,2,7,8,10,11,13,14]) (nb := 4) (e := .nxt) (s' := bdS wr nl vl r nm n (es ++ [encT t]) ((i + 1 : Nat) : Int)) (ps := [Bn .lss 3 (.tmp 66) (.tmp 67) (vi ↑i) (vi n) bT, Puk 47 [(rawA r), (inA ↑i)] (rawA x), Puk 75 [(.dt (.row wr)), (.dt (.row (List.map lrow nl))), (.dt (.row (List.map srow vl))), (rawA x)] (teA t), (es.length) = (es.length), FitB 176 ((es ++ [encT t]).length), SrcOK 11 [encT t], Bn .add 3 (.tmp 69) (.const (vi 1)) (vi ↑i) (vi 1) (vi (↑(i + 1)))]) (by kernel_rfl)
    ⟨bin_ilt (decide_eq_true hi), h1, h2, rfl, fit_of (by omega) (by simp; omega), src_te1 t, bin_iadd (by omega) (by omega) (by omega), trivial⟩
theorem bdB2 {wr : List (List Dt)} {nl vl : List (List UInt8)} {r : Raw} {nm : List UInt8} {n : Int} {es : List (List Dt)} {i : Nat} (hi : ¬ (i : Int) < n) : Tri EX bdB (bdS wr nl vl r nm n es i) (.out 0) (bdS wr nl vl r nm n es i) :=
  twalk (c := subC (bodyOf Tryz.f75) [1,1,1,1,1,1,1,0,1,0,0]) (s := bdS wr nl vl r nm n es i) (an := [yF]) (ls := []) (ft := [0,1,2,7,8,10,11,13,14]) (nb := 4) (e := .out 0) (s' := bdS wr nl vl r nm n es i) (ps := [Bn .lss 3 (.tmp 66) (.tmp 67) (vi ↑i) (vi n) bF]) (by kernel_rfl)
    ⟨bin_ilt (decide_eq_false hi), trivial⟩
/-- a term that the maker makes -/
inductive Te.Mkd : Te → Prop
  | var (n : List UInt8) (h : n ∈ vlM) : Mkd (varT n)
  | con (t : Tr) (h : t.Ok 10000) : Mkd (Te.con t.ob)
  | ap (n : List UInt8) (l : List Te) (hn : n.length ≤ 1000) (hl : l.length ≤ 8) (h : ∀ x ∈ l, Mkd x) : Mkd (Te.ap n l)
theorem int_okM {n : Int} (h : n.natAbs < 10 ^ 4) : (Tr.num (n : Rat)).Ok 10000 := Tr.Ok.mono (k := 4) (by decide) (rb_int h)
theorem bd_loop {wr : List (List Dt)} {nl vl : List (List UInt8)} {r : Raw} {nm : List UInt8} {n : Nat} (hn : n ≤ 8) (h : ∀ i : Nat, ∃ x t, t.Mkd ∧ Puk 47 [rawA r, inA (i : Int)] (rawA x) ∧ Puk 75 [.dt (.row wr), namA nl, varA vl, rawA x] (teA t)) : ∀ (j i : Nat) (ts : List Te), i + j = n → ts.length = i → (∀ t ∈ ts, t.Mkd) → ∃ ts', ts'.length = n ∧ (∀ t ∈ ts', t.Mkd) ∧ Lps EX bdB (bdS wr nl vl r nm n (encTs ts) i) (.out 0) (bdS wr nl vl r nm n (encTs ts') n) := by
  intro j
  induction j with
  | zero =>
    intro i ts hi hl hb
    obtain rfl : i = n := by omega
    exact ⟨ts, hl, hb, .stop (bdB2 (by omega)) (fun h => by cases h)⟩
  | succ j ih =>
    intro i ts hi hl hb
    obtain ⟨x, t, ht, h1, h2⟩ := h i
    obtain ⟨ts', k1, k2, k3⟩ := ih (i + 1) (ts ++ [t]) (by omega) (by simp [hl]) (fun y hy => by
      rcases List.mem_append.1 hy with hy | hy
      · exact hb y hy
      · rw [List.mem_singleton] at hy; subst hy; exact ht)
    have hs := bdB1 (wr := wr) (nl := nl) (vl := vl) (nm := nm) (n := (n : Int)) (es := encTs ts) (i := i) (by omega) (by omega) (by rw [List.length_map]; omega) h1 h2
    have e : encTs ts ++ [encT t] = encTs (ts ++ [t]) := by unfold encTs; rw [List.map_append, row1]
    rw [e] at hs
    exact ⟨ts', k1, k2, .more hs k3⟩
theorem w_b3 {wr : List (List Dt)} {nl vl : List (List UInt8)} {r : Raw} {k a j : Int} {nm : List UInt8} {es : List (List Dt)} {t : Te} (h1 : Puk 19 [inA r.kind, inA 6] (inA k)) (hk : 3 ≤ k) (h2 : Puk 19 [inA r.n, inA nl.length] (inA j)) (hx : IxAt (nl.map lrow) j 2 (lrow nm)) (ha : Puk 104 [.dt (.row wr), syA lispB nm] (.tup [inA a, boA true]))
    (ht : Tri EX (.loop bdB) (bd0 wr nl vl r nm a) (.out 0) (bdS wr nl vl r nm a es a)) (hp : Puk 50 [syA lispB nm, .dt (.row es)] (teA t)) : Puk 75 [.dt (.row wr), namA nl, varA vl, rawA r] (teA t) :=
  pwalk (an := [.av (inA k), yF, yF, .av (inA nl.length), .av (inA j), .av (.pin [stA lispB, stA nm]), .av (.tup [inA a, boA true]), .av (teA t)]) (ls := [.inv [0,1,2,7,8,10,11,13,14] 3 (.out 0) (bdS wr nl vl r nm a es a)]) (ps := [Puk 19 [(inA r.kind), (inA 6)] (inA k), Bn .lss 3 (.tmp 18) (.const (vi 2)) (vi k) (vi 2) bF, Bn .lss 3 (.tmp 34) (.const (vi 3)) (vi k) (vi 3) bF, (vi ↑nl.length) = (vi (↑(List.map lrow nl).length)), Puk 19 [(inA r.n), (inA ↑nl.length)] (inA j), IxAt (List.map lrow nl) j 2 ([(.val (str lispB)), (.val (str nm))]), Puk 104 [(.dt (.row wr)), (syA lispB nm)] (.tup [(inA a), (boA true)]), Tri EX (.loop (subC (bodyOf Tryz.f75) [1,1,1,1,1,1,1,0,1,0,0])) (bd0 wr nl vl r nm a) (.out 0) (bdS wr nl vl r nm a es a), Puk 50 [(syA lispB nm), (.dt (.row es))] (teA t), (es.length) = (es.length)]) Tryz.func75 (by kernel_rfl) (by kernel_rfl) ⟨h1, bin_ilt (decide_eq_false (by omega)), bin_ilt (decide_eq_false (by omega)), lenN _, h2, hx, ha, ht, hp, rfl, trivial⟩
theorem p_build0 {wr : List (List Dt)} {nl vl : List (List UInt8)} (hm : Mk wr nl vl) {r : Raw} (hk : r.kind % 6 < 2) : ∃ t : Te, t.Mkd ∧ Puk 75 [.dt (.row wr), namA nl, varA vl, rawA r] (teA t) := by
  obtain ⟨nm, h1, h2⟩ := ixA (l := vl) srow (fun _ => rfl) r.n hm.hv
  have hv := hm.hv
  have hv1 := hm.hv1
  exact ⟨_, .var nm (hm.vlen nm h1), w_b0 (p_mod _ _ (by omega) (by omega)) hk hm.hv (p_mod _ _ (by omega) (by omega)) h2 (p_rVar _)⟩
theorem p_build {wr : List (List Dt)} {nl vl : List (List UInt8)} (hm : Mk wr nl vl) : ∀ (N : Nat) (r : Raw), r.size ≤ N → Fit r → ∃ t : Te, t.Mkd ∧ Puk 75 [.dt (.row wr), namA nl, varA vl, rawA r] (teA t) := by
  intro N
  induction N with
  | zero => intro r h; have := r.size_pos; omega
  | succ N ih =>
    intro r hN hf
    by_cases h0 : r.kind % 6 < 2
    · exact p_build0 hm h0
    by_cases h2 : r.kind % 6 = 2
    · have hd := p_mod r.kind 6 (by omega) (by omega)
      rw [h2] at hd
      cases hl : r.l with
      | nil => exact ⟨_, .con (Tr.num ((r.n % 7 - 2 : Int) : Rat)) (int_okM (by omega)), w_b1 hd (by rw [hl]; rfl) (p_mod _ _ (by omega) (by omega)) (p_rInt _ (by omega) (by omega)) (p_rConst _)⟩
      | cons x s =>
        have hx : r.l[0]? = some x := by rw [hl]; rfl
        have hfx := hf.kids (List.mem_of_getElem? hx)
        exact ⟨_, .con _ (mk_ok hfx), w_b2 hd hx (p_mkOb _ x (Nat.le_refl _) hfx) (p_rConst _)⟩
    · have hkids : ∀ i : Nat, ∃ x t, t.Mkd ∧ Puk 47 [rawA r, inA (i : Int)] (rawA x) ∧ Puk 75 [.dt (.row wr), namA nl, varA vl, rawA x] (teA t) := fun i => by
        cases hx : r.l[i]? with
        | some x =>
          obtain ⟨t, k1, k2⟩ := ih x (by have := Raw.size_l (List.mem_of_getElem? hx); omega) (hf.kids (List.mem_of_getElem? hx))
          exact ⟨x, t, k1, p_part hx, k2⟩
        | none =>
          obtain ⟨t, k1, k2⟩ := p_build0 hm (r := ⟨0, 0, [], []⟩) (by decide)
          exact ⟨_, t, k1, p_part0 (List.getElem?_eq_none_iff.1 hx), k2⟩
      obtain ⟨nm, m1, m2⟩ := ixA (l := nl) lrow (fun _ => rfl) r.n hm.hn
      obtain ⟨g1, a, g2, g3⟩ := hm.ar nm m1
      have hn := hm.hn
      have hn1 := hm.hn1
      obtain ⟨ts, l1, l2, l3⟩ := bd_loop (nm := nm) (n := a) g2 hkids a 0 [] (by omega) rfl (fun t ht => by cases ht)
      have ht : Tri EX (.loop bdB) (bd0 wr nl vl r nm a) (.out 0) (bdS wr nl vl r nm a (encTs ts) a) := Tri.own0 13 37 11 (by show 13 < 84; omega) rfl l3.tri
      exact ⟨Te.ap nm ts, .ap nm ts g1 (by omega) l2, w_b3 (p_mod _ _ (by omega) (by omega)) (by omega) (p_mod _ _ (by omega) (by omega)) m2 g3 ht (p_rApp _ _ _)⟩
/-- a term, a literal -/
theorem w_term {wr : List (List Dt)} {nl vl : List (List UInt8)} {r : Raw} {t : Te} (hn : Puk 76 [.dt (.row wr)] (namA nl)) (h : Puk 75 [.dt (.row wr), namA nl, varA vl, rawA r] (teA t)) : Puk 46 [.dt (.row wr), varA vl, rawA r] (teA t) :=
  pwalk (an := [.av (namA nl), .av (teA t)]) (ls := []) (ps := [Puk 76 [(.dt (.row wr))] (.dt (.row (List.map lrow nl))), Puk 75 [(.dt (.row wr)), (.dt (.row (List.map lrow nl))), (.dt (.row (List.map srow vl))), (rawA r)] (teA t)]) Tryz.func46 (by kernel_rfl) (by kernel_rfl) ⟨hn, h, trivial⟩
theorem w_lit1 {wr : List (List Dt)} {vl : List (List UInt8)} {r x : Raw} {t u : Te} (h1 : Puk 47 [rawA r, inA 0] (rawA x)) (h2 : Puk 46 [.dt (.row wr), varA vl, rawA x] (teA t)) (h3 : Puk 19 [inA r.kind, inA 2] (inA 1)) (h4 : Puk 15 [stA notB, .dt (.row [encT t])] (teA u)) : Puk 12 [.dt (.row wr), varA vl, rawA r] (teA u) :=
  pwalk (an := [.av (rawA x), .av (teA t), .av (inA 1), .no, .av (teA u)]) (ls := []) (ps := [Puk 47 [(rawA r), (inA 0)] (rawA x), Puk 46 [(.dt (.row wr)), (.dt (.row (List.map srow vl))), (rawA x)] (teA t), Puk 19 [(inA r.kind), (inA 2)] (inA 1), Puk 15 [(stA [110, 111, 116]), (.dt (.row [encT t]))] (teA u)]) Tryz.func12 (by kernel_rfl) (by kernel_rfl) ⟨h1, h2, h3, h4, trivial⟩
theorem w_lit0 {wr : List (List Dt)} {vl : List (List UInt8)} {r x : Raw} {t : Te} (h1 : Puk 47 [rawA r, inA 0] (rawA x)) (h2 : Puk 46 [.dt (.row wr), varA vl, rawA x] (teA t)) (h3 : Puk 19 [inA r.kind, inA 2] (inA 0)) : Puk 12 [.dt (.row wr), varA vl, rawA r] (teA t) :=
  pwalk (an := [.av (rawA x), .av (teA t), .av (inA 0), .no]) (ls := []) (ps := [Puk 47 [(rawA r), (inA 0)] (rawA x), Puk 46 [(.dt (.row wr)), (.dt (.row (List.map srow vl))), (rawA x)] (teA t), Puk 19 [(inA r.kind), (inA 2)] (inA 0)]) Tryz.func12 (by kernel_rfl) (by kernel_rfl) ⟨h1, h2, h3, trivial⟩
theorem p_lit {wr : List (List Dt)} {nl vl : List (List UInt8)} (hm : Mk wr nl vl) (hn : Puk 76 [.dt (.row wr)] (namA nl)) {r : Raw} (hf : Fit r) : ∃ t : Te, t.Mkd ∧ Puk 12 [.dt (.row wr), varA vl, rawA r] (teA t) := by
  obtain ⟨x, t, hb, h1, h2⟩ : ∃ x t, Te.Mkd t ∧ Puk 47 [rawA r, inA 0] (rawA x) ∧ Puk 75 [.dt (.row wr), namA nl, varA vl, rawA x] (teA t) := by
    cases hx : r.l[0]? with
    | some x =>
      obtain ⟨t, k1, k2⟩ := p_build hm _ x (Nat.le_refl _) (hf.kids (List.mem_of_getElem? hx))
      exact ⟨x, t, k1, p_part hx, k2⟩
    | none =>
      obtain ⟨t, k1, k2⟩ := p_build0 hm (r := ⟨0, 0, [], []⟩) (by decide)
      exact ⟨_, t, k1, p_part0 (List.getElem?_eq_none_iff.1 hx), k2⟩
  have h3 := p_mod r.kind 2 (by omega) (by omega)
  have hm2 : r.kind % 2 = 0 ∨ r.kind % 2 = 1 := by omega
  rcases hm2 with hm2 | hm2
  · rw [hm2] at h3
    exact ⟨t, hb, w_lit0 h1 (w_term hn h2) h3⟩
  · rw [hm2] at h3
    exact ⟨Te.ap notB [t], .ap _ _ (by decide) (by show 1 ≤ 8; omega) (fun y hy => by rw [List.mem_singleton] at hy; subst hy; exact hb), w_lit1 h1 (w_term hn h2) h3 (p_rLisp1 _ _)⟩
end Go.Proofs.YtendgffijciehaaGreatDoor
/- Terms that the maker makes: what is known of them. -/
namespace Go.Proofs.YtendgffijciehaaGreatDoor
open Go.RowKit
open Te

namespace Te
theorem tr_nil {t : Tr} (h : t.ob.kind = 2 ∧ t.ob.sp = lispB ∧ t.ob.sn = nilB) : t.ob = nilO := by
  obtain ⟨h1, h2, h3⟩ := h
  cases t with
  | num q => cases h1
  | txt s => cases h1
  | cons a d => cases h1
  | sym p n =>
    have e1 : p = lispB := h2
    have e2 : n = nilB := h3
    subst e1 e2
    rfl
theorem Mkd.gd {t : Te} (h : t.Mkd) : t.Gd := by
  induction h with
  | var n h => exact var_gd n
  | con t h => exact .con (h.wf (by decide)) tr_nil
  | ap n l hn hl h ih => exact .ap (by omega) ih
theorem Mkd.wf {t : Te} (h : t.Mkd) : t.Wf := h.gd.wf
theorem Mkd.kids {t x : Te} (h : t.Mkd) (hx : x ∈ t.args) : x.Mkd := by
  cases h with
  | var m h => cases hx
  | con t h => cases hx
  | ap m l hn hl h => exact h x hx
theorem Mkd.arg {t : Te} (h : t.Mkd) {n : List UInt8} {k i : Nat} (hi : is t n k) (hk : i < k) : (t.arg i).Mkd := h.kids (List.mem_of_getElem? (arg_at hi hk))
theorem Mkd.ap1 {n : List UInt8} (hn : n.length ≤ 1000) {a : Te} (h : a.Mkd) : (Te.ap n [a]).Mkd := .ap n [a] hn (by show 1 ≤ 8; omega) fun x hx => by rw [List.mem_singleton] at hx; subst hx; exact h
theorem Mkd.neg {t : Te} (h : t.Mkd) : (Te.neg t).Mkd := by
  unfold Te.neg
  split
  · rename_i hi; exact h.arg hi (by omega)
  · exact h.ap1 (by decide)
end Te
theorem addN_mkd : ∀ (l out : List Te), (∀ x ∈ out, x.Mkd) → (∀ x ∈ l, x.Mkd) → ∀ x ∈ addN out l, x.Mkd
  | [], out, ho, _ => by rw [addN]; exact ho
  | x :: l, out, ho, hl => by
    rw [addN]
    split
    · exact addN_mkd l out ho fun y hy => hl y (List.mem_cons_of_mem _ hy)
    · refine addN_mkd l _ (fun y hy => ?_) fun y hy => hl y (List.mem_cons_of_mem _ hy)
      rcases List.mem_append.1 hy with hy | hy
      · exact ho y hy
      · rw [List.mem_singleton] at hy; subst hy; exact hl _ (List.mem_cons_self ..)
end Go.Proofs.YtendgffijciehaaGreatDoor
/- Clauses that the maker makes over the built-in world. -/
namespace Go.Proofs.YtendgffijciehaaGreatDoor
open Go.RowKit
open Te

section
variable {X : Nat → Prop} {n0 : Nat} {w0 : World × Mm} {ok0 : Nat → Prop} {M : Mm} {nt : Nat} {tm : Nat → AV} {bx : Nat → Option Bx} {a : Act} {w : World}
theorem Inv.nilR (h : Inv X n0 w0 ok0 M nt tm bx a w) {t : Nat} (ht : tm t = .nil) : Inv X n0 w0 ok0 M nt (fun i => if i = t then .dt (.row []) else tm i) bx a w := by
  refine ⟨h.below, h.le, h.defers, h.size, fun i => ?_, h.sto, h.src, h.anc⟩
  show RV _ _ (if i = t then _ else _) _
  by_cases hi : i = t
  · subst hi
    have hv := h.tmps i
    rw [ht] at hv
    rw [if_pos rfl]
    exact RV.nilRow hv
  · rw [if_neg hi]
    exact h.tmps i
end
/-- a piece of code that begins with an empty slice in slot t, seen as data -/
theorem Tri.nilR {E : En} {c : Code} {s s' : AS} {e : AE} (t : Nat) (hl : t < s.tm.length) (ht : s.tmf t = .nil) (h : Tri E c ⟨s.tm.set t (.dt (.row [])), s.bx⟩ e s') : Tri E c s e s' := by
  obtain ⟨h1, h2⟩ := h
  have hlen : (s.tm.set t (.dt (.row []))).length = s.tm.length := List.length_set ..
  refine ⟨h1.trans hlen, fun X n0 w0 ok0 a w hG ⟨M, hI⟩ => ?_⟩
  have hI2 := hI.nilR ht
  have e1 : (AS.mk (s.tm.set t (.dt (.row []))) s.bx).tmf = fun i => if i = t then .dt (.row []) else s.tmf i := by
    funext i
    unfold AS.tmf
    by_cases hi : i = t
    · subst hi
      simp [List.getD_eq_getElem?_getD, hl]
    · simp [List.getD_eq_getElem?_getD, Ne.symm hi, hi]
  have hL : Left X n0 w0 ok0 (AS.mk (s.tm.set t (.dt (.row []))) s.bx).tm.length (AS.mk (s.tm.set t (.dt (.row []))) s.bx).tmf (AS.mk (s.tm.set t (.dt (.row []))) s.bx).bxf a w := by
    rw [e1, show (AS.mk (s.tm.set t (.dt (.row []))) s.bx).tm.length = s.tm.length from hlen]
    exact ⟨_, hI2⟩
  have := h2 X n0 w0 ok0 a w hG hL
  rw [show (AS.mk (s.tm.set t (.dt (.row []))) s.bx).tm.length = s.tm.length from hlen] at this
  exact this
/- what the maker is told -/
def nlB : List (List UInt8) := primL.map (·.1) ++ worldB.map (·.nm)
def nl0 : List (List UInt8) := primL.map (·.1)
abbrev vl3 : List (List UInt8) := [[120], [121], [122]]
abbrev vl4 : List (List UInt8) := [[120], [121], [122], [117]]
theorem nlB_ok : ∀ n ∈ nlB, n.length ≤ 1000 ∧ ∃ k : Nat, k ≤ 8 ∧ ariW worldB n = some k := by
  have h : (nlB.all fun n => decide (n.length ≤ 1000) && (match ariW worldB n with | some k => decide (k ≤ 8) | none => false)) = true := by decide +kernel
  intro n hn
  have := List.all_eq_true.1 h n hn
  rw [Bool.and_eq_true] at this
  obtain ⟨h1, h2⟩ := this
  refine ⟨of_decide_eq_true h1, ?_⟩
  split at h2
  · rename_i k hk
    exact ⟨k, of_decide_eq_true h2, hk⟩
  · cases h2
theorem nl0_ok : ∀ n ∈ nl0, n.length ≤ 1000 ∧ ∃ k : Nat, k ≤ 8 ∧ ariW [] n = some k := by
  have h : (nl0.all fun n => decide (n.length ≤ 1000) && (match ariW [] n with | some k => decide (k ≤ 8) | none => false)) = true := by decide +kernel
  intro n hn
  have := List.all_eq_true.1 h n hn
  rw [Bool.and_eq_true] at this
  obtain ⟨h1, h2⟩ := this
  refine ⟨of_decide_eq_true h1, ?_⟩
  split at h2
  · rename_i k hk
    exact ⟨k, of_decide_eq_true h2, hk⟩
  · cases h2
theorem nlB_len : nlB.length = 53 := by decide +kernel
theorem mkB (vl : List (List UInt8)) (h1 : 0 < vl.length) (h2 : vl.length ≤ 4) (h3 : ∀ v ∈ vl, v ∈ vlM) : Mk wrows nlB vl := ⟨by rw [nlB_len]; decide, by rw [nlB_len]; decide, h1, h2, fun n hn => by
  obtain ⟨k1, k, k2, k3⟩ := nlB_ok n hn
  refine ⟨k1, k, k2, ?_⟩
  have hwl := worldB_len
  exact p_AriW (ws := worldB) (r := [encP namesR]) (by rw [List.length_append, List.length_map, hwl]; decide) k3, h3⟩
theorem mk0 (vl : List (List UInt8)) (h1 : 0 < vl.length) (h2 : vl.length ≤ 4) (h3 : ∀ v ∈ vl, v ∈ vlM) : Mk [] nl0 vl := ⟨by decide, by decide, h1, h2, fun n hn => by
  obtain ⟨k1, k, k2, k3⟩ := nl0_ok n hn
  exact ⟨k1, k, k2, p_AriW (ws := []) (r := []) (by decide) k3⟩, h3⟩
theorem vl3_ok : ∀ v ∈ vl3, v ∈ vlM := by decide
theorem vl4_ok : ∀ v ∈ vl4, v ∈ vlM := by decide
theorem p_NamesB : Puk 76 [.dt (.row wrows)] (namA nlB) := by
  have h := p_mkNames (ws := worldB) (ns := namesR) (by rw [worldB_len]; decide)
  have e : (primL.map prow ++ worldB.map fun f => lrow f.nm) = nlB.map lrow := by
    unfold nlB
    rw [List.map_append, List.map_map, List.map_map]
    rfl
  rw [e] at h
  exact h
theorem p_Names0 : Puk 76 [.dt (.row [])] (namA nl0) :=
  pwalk (an := [.av (.dt (.row (primL.map prow))), .no, .no]) (ls := [.run 1]) (ps := [Puk 102 [] (.dt (.row (List.map prow primL)))]) Tryz.func76 (by kernel_rfl) (by kernel_rfl) ⟨p_rNames, trivial⟩
/-- a literal over the built-in world, one over no world -/
theorem p_litB {r : Raw} (hf : Fit r) : ∃ t : Te, t.Mkd ∧ Puk 12 [.dt (.row wrows), varA vl4, rawA r] (teA t) := p_lit (mkB vl4 (by decide) (by decide) vl4_ok) p_NamesB hf
theorem p_lit0 {r : Raw} (hf : Fit r) : ∃ t : Te, t.Mkd ∧ Puk 12 [.dt (.row []), varA vl3, rawA r] (teA t) := p_lit (mk0 vl3 (by decide) (by decide) vl3_ok) p_Names0 hf
/- clauses -/
abbrev rwsA (l : List Raw) : AV := .dt (.row (l.map Raw.enc))
abbrev ckS (wr : List (List Dt)) (vl : List (List UInt8)) (l : List Raw) (c : List Te) (i : Int) : AS := ⟨stt 26 [(0, .dt (.row wr)), (1, varA vl), (2, rwsA l), (7, tesA c), (8, inA i)], []⟩
abbrev ck0 (wr : List (List Dt)) (vl : List (List UInt8)) (l : List Raw) : AS := ⟨stt 26 [(0, .dt (.row wr)), (1, varA vl), (2, rwsA l), (7, .nil), (8, inA 0)], []⟩
noncomputable abbrev ckB : Code := subC (bodyOf Tryz.f44) [1,1,0,1,0,0]
theorem ckB1 {wr : List (List Dt)} {vl : List (List UInt8)} {l : List Raw} {c c' : List Te} {x : Raw} {t : Te} {i : Nat} (hx : l[i]? = some x) (hl : l.length ≤ 1000) (h : Puk 12 [.dt (.row wr), varA vl, rawA x] (teA t)) (ha : Puk 18 [tesA c, .dt (.row [encT t])] (tesA c')) : Tri EX ckB (ckS wr vl l c i) .nxt (ckS wr vl l c' ((i + 1 : Nat) : Int)) :=
  have hi := (List.getElem?_eq_some_iff.1 hx).1
  twalk (c := subC (bodyOf Tryz.f44) [1,1,0,1,0,0]) (s := ckS wr vl l c i) (an := [.av (inA l.length), yT, .av (.pin ((encR x).map .dt)), .av (teA t), .av (tesA c'), .av (inA ((i + 1 : Nat) : Int))]) (ls := []) (ft := [0,1,2,7,8]) (nb := 0) (e := .nxt) (s' := ckS wr vl l c' ((i + 1 : Nat) : Int)) (ps := [(vi ↑l.length) = (vi (↑(List.map Raw.enc l).length)), Bn .lss 3 (.tmp 9) (.tmp 11) (vi ↑i) (vi ↑l.length) bT, IxAt (List.map Raw.enc l) ↑i 4 (encR x), Puk 12 [(.dt (.row wr)), (.dt (.row (List.map srow vl))), (rawA x)] (teA t), Puk 18 [(.dt (.row (List.map Te.enc c))), (.dt (.row [encT t]))] (.dt (.row (List.map Te.enc c'))), Bn .add 3 (.tmp 13) (.const (vi 1)) (vi ↑i) (vi 1) (vi (↑(i + 1)))]) (by kernel_rfl) ⟨lenEncR _, bin_ilt (decide_eq_true (by omega)), ix_raw hx, h, ha, bin_iadd (by omega) (by omega) (by omega), trivial⟩
theorem ckB2 {wr : List (List Dt)} {vl : List (List UInt8)} {l : List Raw} {c : List Te} {i : Nat} (hi : i = l.length) : Tri EX ckB (ckS wr vl l c i) (.out 0) (ckS wr vl l c i) :=
  twalk (c := subC (bodyOf Tryz.f44) [1,1,0,1,0,0]) (s := ckS wr vl l c i) (an := [.av (inA l.length), yF]) (ls := []) (ft := [0,1,2,7,8]) (nb := 0) (e := .out 0) (s' := ckS wr vl l c i) (ps := [(vi ↑l.length) = (vi (↑(List.map Raw.enc l).length)), Bn .lss 3 (.tmp 9) (.tmp 11) (vi ↑i) (vi ↑l.length) bF]) (by kernel_rfl) ⟨lenEncR _, bin_ilt (decide_eq_false (by omega)), trivial⟩
theorem ck_loop {wr : List (List Dt)} {vl : List (List UInt8)} {l : List Raw} (hl : l.length ≤ 1000) (h : ∀ x ∈ l, ∃ t : Te, t.Mkd ∧ Puk 12 [.dt (.row wr), varA vl, rawA x] (teA t)) : ∀ (s : List Raw) (i : Nat) (c : List Te), l.drop i = s → i ≤ l.length → c.length ≤ i → (∀ x ∈ c, x.Mkd) → ∃ c', (∀ x ∈ c', Te.Mkd x) ∧ c'.length ≤ l.length ∧ Lps EX ckB (ckS wr vl l c i) (.out 0) (ckS wr vl l c' l.length) := by
  intro s
  induction s with
  | nil =>
    intro i c hd hi hc hm
    have e1 := congrArg List.length hd
    rw [List.length_drop, List.length_nil] at e1
    obtain rfl : i = l.length := by omega
    exact ⟨c, hm, hc, .stop (ckB2 rfl) (fun h => by cases h)⟩
  | cons x s ih =>
    intro i c hd hi hc hm
    have hx : l[i]? = some x := by rw [← List.head?_drop, hd]; rfl
    have hlt := (List.getElem?_eq_some_iff.1 hx).1
    obtain ⟨t, h1, h2⟩ := h x (List.mem_of_getElem? hx)
    have ht1 : ∀ y ∈ [t], Te.Mkd y := fun y hy => by rw [List.mem_singleton] at hy; subst hy; exact h1
    have ha := p_rAdd (c := c) (l := [t]) (by omega) (by show 1 ≤ 100000; decide) (fun y hy => (hm y hy).wf) (fun y hy => (ht1 y hy).wf)
    rw [show tesA [t] = .dt (.row [encT t]) by unfold tesA; rw [row1]] at ha
    have hlen : (addN c [t]).length ≤ i + 1 := by
      simp only [addN]
      split
      · omega
      · simp; omega
    obtain ⟨c', k1, k2, k3⟩ := ih (i + 1) (addN c [t]) (by rw [← List.drop_drop, hd]; rfl) (by omega) hlen (addN_mkd _ _ hm ht1)
    exact ⟨c', k1, k2, .more (ckB1 hx hl h2 ha) k3⟩
/-- a clause over the built-in world -/
theorem p_ckB {l : List Raw} (hl : l.length ≤ 1000) (hf : ∀ x ∈ l, Fit x) : ∃ c : List Te, (∀ x ∈ c, x.Mkd) ∧ c.length ≤ l.length ∧ Puk 44 [.dt (.row wrows), varA vl4, rwsA l] (tesA c) := by
  obtain ⟨c, h1, h2, h3⟩ := ck_loop (wr := wrows) (vl := vl4) hl (fun x hx => p_litB (hf x hx)) l 0 [] rfl (Nat.zero_le _) (Nat.le_refl _) (fun x hx => by cases hx)
  have ht : Tri EX (.loop ckB) (ck0 wrows vl4 l) (.out 0) (ckS wrows vl4 l c l.length) := Tri.nilR 7 (by show 7 < 26; omega) rfl h3.tri
  refine ⟨c, h1, h2, ?_⟩
  generalize wrows = wr at *
  generalize vl4 = vl at *
  generalize ((l.length : Nat) : Int) = k at *
  exact pwalk (an := []) (ls := [.inv [0,1,2,7,8] 0 (.out 0) (ckS wr vl l c k)]) (ps := [Tri EX (.loop (subC (bodyOf Tryz.f44) [1,1,0,1,0,0])) (ck0 wr vl l) (.out 0) (ckS wr vl l c k)]) Tryz.func44 (by kernel_rfl) (by kernel_rfl) ⟨ht, trivial⟩
theorem w_made {l : List Raw} {c : List Te} (h : Puk 44 [.dt (.row wrows), varA vl4, rwsA l] (tesA c)) : Puk 11 [rwsA l] (tesA c) := by
  have hw := p_World
  have hv := p_vars4
  generalize wrows = wr at *
  exact pwalk (an := [.av (.dt (.row wr)), .av (varA vl4), .av (tesA c)]) (ls := []) (ps := [Puk 45 [] (.dt (.row wr)), Puk 13 [(inA 4)] (.dt (.row (List.map srow vl4))), Puk 44 [(.dt (.row wr)), (.dt (.row (List.map srow vl4))), (.dt (.row (List.map Raw.enc l)))] (.dt (.row (List.map Te.enc c)))]) Tryz.func11 (by kernel_rfl) (by kernel_rfl) ⟨hw, hv, h, trivial⟩
/-- a clause over the built-in world, as the laws make it -/
theorem p_made {l : List Raw} (hl : l.length ≤ 1000) (hf : ∀ x ∈ l, Fit x) : ∃ c : List Te, (∀ x ∈ c, x.Mkd) ∧ c.length ≤ l.length ∧ Puk 11 [rwsA l] (tesA c) := by
  obtain ⟨c, h1, h2, h3⟩ := p_ckB hl hf
  exact ⟨c, h1, h2, w_made h3⟩
end Go.Proofs.YtendgffijciehaaGreatDoor
