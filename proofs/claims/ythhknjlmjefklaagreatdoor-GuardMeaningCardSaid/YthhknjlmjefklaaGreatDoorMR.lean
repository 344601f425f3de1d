/- Guards in the code: Term and Obligations; the chapter's first check. -/
import Derived.Test.YthhknjlmjefklaaGreatDoorMQ
import Derived.Test.YthhknjlmjefklaaGreatDoorMJ
namespace Go.Proofs.YthhknjlmjefklaaGreatDoor
open Go.RowKit
open Te
theorem w_gTm1 {ws:List (List Dt)} {t:Te} {env:Bnd} {s:Nat} {u:Int} {x:Tr} (h:Suk gtF [.ptr 0 0,teA t,bnA env] (gxX ws s 0) (.tup [trA x,inA 0]) (gxX ws s u)):Puk 24 [.dt (.row ws),teA t,bnA env,inA s] (.tup [trA x,inA u,inA 0]) :=
 pwalk (an:=[yF]) (ls:=[.scl 2 3 [2] (.tup [trA x,inA 0]) [some (.cells [.dt (.row ws),inA s,inA u])]]) (ps:=[Suk 56 [AV.ptr 0 0,teA t,AV.dt (Dt.row (bnT env))] [some (Bx.cells [AV.dt (Dt.row ws),AV.dt (Dt.val (vi ↑s)),AV.dt (Dt.val (vi 0))])] (AV.tup [trA x,inA 0]) [some (Bx.cells [AV.dt (Dt.row ws),inA ↑s,inA u])],Bn .neq 44 (.tmp 25) (.const (vi 0)) (vi 0) (vi 0) bF]) Tryz.func24 (by kernel_rfl) (by kernel_rfl) ⟨h,bin_ine (by simp),trivial⟩
theorem w_gTm2 {ws:List (List Dt)} {t:Te} {env:Bnd} {s:Nat} {u e:Int} (he:e≠0) (h:Suk gtF [.ptr 0 0,teA t,bnA env] (gxX ws s 0) (.tup [obA zO,inA e]) (gxX ws s u)):Puk 24 [.dt (.row ws),teA t,bnA env,inA s] (.tup [obA zO,inA 0,inA e]) :=
 pwalk (an:=[yT]) (ls:=[.scl 2 3 [2] (.tup [obA zO,inA e]) [some (.cells [.dt (.row ws),inA s,inA u])]]) (ps:=[Suk 56 [AV.ptr 0 0,teA t,AV.dt (Dt.row (bnT env))] [some (Bx.cells [AV.dt (Dt.row ws),AV.dt (Dt.val (vi ↑s)),AV.dt (Dt.val (vi 0))])] (AV.tup [obA zO,inA e]) [some (Bx.cells [AV.dt (Dt.row ws),inA ↑s,inA u])],Bn .neq 44 (.tmp 25) (.const (vi 0)) (vi e) (vi 0) bT]) Tryz.func24 (by kernel_rfl) (by kernel_rfl) ⟨h,bin_ine (by simp [he]),trivial⟩
abbrev encG (p n:List UInt8) (ps:List (List Dt)) (g b m:Te):List Dt:=([.val (str p),.val (str n),.row ps,.val (.int .i64 1)]:List Dt)++(encT g++(encT b++encT m))
theorem w_ob1 {ws ps cs:List (List Dt)} {p n p' n':List UInt8} {g b m:Te} (hf:Puk 39 [.dt (.row ws),syA p n] (.tup [.agg ((encG p' n' ps g b m).map .dt),boA true])) (hu:Puk 40 [teA g] (boA true)) (hv:Suk visF [.ptr 0 0,teA b,.dt (.row [])] [some (.cells [.dt (.row ws),.nil,.nil])] (.tup []) [some (.cells [.dt (.row ws),.dt (.row []),.own 1 cs.length]),some (.buf 81 1 cs)]):Puk 25 [.dt (.row ws),syA p n] (.tup [.dt (.row cs),inA 0]) :=
 pwalk (an:=[.av (.tup [.agg ((encG p' n' ps g b m).map .dt),boA true]),.no,yT]) (ls:=[.scl 9 3 [2] (.tup []) [some (.cells [.dt (.row ws),.dt (.row []),.own 1 cs.length]),some (.buf 81 1 cs)]]) (ps:=[Puk 39 [(.dt (.row ws)),(syA p n)] (.tup [(.agg ((stA p')::(stA n')::(.dt (.row ps))::(inA 1)::(inA g.kind)::(stA g.np)::(stA g.nn)::(inA g.val.kind)::(stA g.val.num)::(stA g.val.den)::(stA g.val.sp)::(stA g.val.sn)::(stA g.val.text)::(.dt (.row (List.map Ob.enc g.val.pair)))::(.dt (.row (List.map Te.enc g.args)))::(inA b.kind)::(stA b.np)::(stA b.nn)::(inA b.val.kind)::(stA b.val.num)::(stA b.val.den)::(stA b.val.sp)::(stA b.val.sn)::(stA b.val.text)::(.dt (.row (List.map Ob.enc b.val.pair)))::(.dt (.row (List.map Te.enc b.args)))::(inA m.kind)::(stA m.np)::(stA m.nn)::(inA m.val.kind)::(stA m.val.num)::(stA m.val.den)::(stA m.val.sp)::(stA m.val.sn)::(stA m.val.text)::(.dt (.row (List.map Ob.enc m.val.pair)))::(.dt (.row (List.map Te.enc m.args)))::[])),(boA true)]),Puk 40 [(teA g)] (boA true),Suk 58 [AV.ptr 0 0,teA b,AV.dt (Dt.row [])] [some (Bx.cells [AV.dt (Dt.row ws),AV.nil,AV.nil])] (AV.tup []) [some (Bx.cells [AV.dt (Dt.row ws),AV.dt (Dt.row []),AV.own 1 cs.length]),some (Bx.buf 81 1 cs)],(cs.length)=(cs.length)]) Tryz.func25 (by kernel_rfl) (by kernel_rfl) ⟨hf,hu,hv,rfl,trivial⟩
theorem w_ob2 {ws ps cs:List (List Dt)} {p n p' n':List UInt8} {g b m:Te} (hf:Puk 39 [.dt (.row ws),syA p n] (.tup [.agg ((encG p' n' ps g b m).map .dt),boA true])) (hu:Puk 40 [teA g] (boA false)) (hv:Suk visF [.ptr 0 0,teA b,.dt (.row [])] [some (.cells [.dt (.row ws),.dt (.row [encT (neg g)]),.nil])] (.tup []) [some (.cells [.dt (.row ws),.dt (.row [encT (neg g)]),.own 1 cs.length]),some (.buf 81 1 cs)]):Puk 25 [.dt (.row ws),syA p n] (.tup [.dt (.row cs),inA 0]) :=
 pwalk (an:=[.av (.tup [.agg ((encG p' n' ps g b m).map .dt),boA true]),.no,yF,.av (teA (neg g))]) (ls:=[.scl 9 3 [2] (.tup []) [some (.cells [.dt (.row ws),.dt (.row [encT (neg g)]),.own 1 cs.length]),some (.buf 81 1 cs)]]) (ps:=[Puk 39 [(.dt (.row ws)),(syA p n)] (.tup [(.agg ((stA p')::(stA n')::(.dt (.row ps))::(inA 1)::(inA g.kind)::(stA g.np)::(stA g.nn)::(inA g.val.kind)::(stA g.val.num)::(stA g.val.den)::(stA g.val.sp)::(stA g.val.sn)::(stA g.val.text)::(.dt (.row (List.map Ob.enc g.val.pair)))::(.dt (.row (List.map Te.enc g.args)))::(inA b.kind)::(stA b.np)::(stA b.nn)::(inA b.val.kind)::(stA b.val.num)::(stA b.val.den)::(stA b.val.sp)::(stA b.val.sn)::(stA b.val.text)::(.dt (.row (List.map Ob.enc b.val.pair)))::(.dt (.row (List.map Te.enc b.args)))::(inA m.kind)::(stA m.np)::(stA m.nn)::(inA m.val.kind)::(stA m.val.num)::(stA m.val.den)::(stA m.val.sp)::(stA m.val.sn)::(stA m.val.text)::(.dt (.row (List.map Ob.enc m.val.pair)))::(.dt (.row (List.map Te.enc m.args)))::[])),(boA true)]),Puk 40 [(teA g)] (boA false),Puk 57 [(teA g)] (teA g.neg),Suk 58 [AV.ptr 0 0,teA b,AV.dt (Dt.row [])] [some (Bx.cells [AV.dt (Dt.row ws),AV.dt (Dt.row ([[Dt.val (vi g.neg.kind),Dt.val (str g.neg.np),Dt.val (str g.neg.nn),Dt.val (vi g.neg.val.kind),Dt.val (str g.neg.val.num),Dt.val (str g.neg.val.den),Dt.val (str g.neg.val.sp),Dt.val (str g.neg.val.sn),Dt.val (str g.neg.val.text),Dt.row (List.map Ob.enc g.neg.val.pair),Dt.row (List.map Te.enc g.neg.args)]])),AV.nil])] (AV.tup []) [some (Bx.cells [AV.dt (Dt.row ws),AV.dt (Dt.row [encT g.neg]),AV.own 1 cs.length]),some (Bx.buf 81 1 cs)],(cs.length)=(cs.length)]) Tryz.func25 (by kernel_rfl) (by kernel_rfl) ⟨hf,hu,p_gneg g,hv,rfl,trivial⟩
theorem wf_ap {n:List UInt8} {l:List Te} (hl:l.length≤8) (h:∀ x∈l,x.Wf):(Te.ap n l).Wf:=.mk _ zOb_wf (by show l.length≤_;omega) h
theorem wf_neg (t:Te) (h:t.Wf):(neg t).Wf:=by
 unfold neg
 by_cases hi:is t notB 1
 ·rw [if_pos hi]
  cases h with
  | mk _ hv hl hk=>exact hk _ (arg_mem hi (by omega))
 ·rw [if_neg hi]
  exact wf_ap (by show 1≤8;omega) fun x hx=>by rw [List.mem_singleton] at hx;subst hx;exact h
theorem wf_not (t:Te) (h:t.Wf):(Te.ap notB [t]).Wf:=wf_ap (by show 1≤8;omega) fun x hx=>by rw [List.mem_singleton] at hx;subst hx;exact h
theorem Wd.wf {t:Te} (h:Wd t):t.Wf:=by
 induction h with
 | var p n=>exact .mk _ zOb_wf (Nat.zero_le _) (fun x hx=>by cases hx)
 | con t h=>exact .mk _ ((Tr.valid_arg h).ok.wf (by decide)) (Nat.zero_le _) (fun x hx=>by cases hx)
 | ap n l ha hl h ih=>exact wf_ap hl ih
abbrev hdO (g:Te):List Te:=if g=yesT then [] else [neg g]
theorem p_Obl {ws ps:List (List Dt)} {p n p' n':List UInt8} {g b m:Te} (hf:Puk 39 [.dt (.row ws),syA p n] (.tup [.agg ((encG p' n' ps g b m).map .dt),boA true])) (hg:g.Wf) (hb:Vt ws b) (hbw:b.Wf) (hsz:b.size≤500):Puk 25 [.dt (.row ws),syA p n] (.tup [clsA (vis (hdO g) b.size b []),inA 0]):=by
 have hu:=p_ung hg
 by_cases hy:g=yesT
 ·rw [show sameD g yesT=true from decide_eq_true hy] at hu
  rw [show hdO g=[] from if_pos hy]
  have h:=p_visit (ws:=ws) (hd:=[]) (fun x hx=>by cases hx) (by decide) wf_neg wf_not b.size b [] [] (Nat.le_refl _) hb hbw (fun x hx=>by cases hx) (by show 0+_≤_;omega) (by show 0+_≤_;omega)
  rw [List.nil_append] at h
  exact w_ob1 hf hu (SOK.ownV (fun _ _ _ h=>RV.nilRow h) h)
 ·rw [show sameD g yesT=false from decide_eq_false hy] at hu
  rw [show hdO g=[neg g] from if_neg hy]
  have h:=p_visit (ws:=ws) (hd:=[neg g]) (fun x hx=>by rw [List.mem_singleton] at hx;subst hx;exact wf_neg g hg) (by show 1≤100;omega) wf_neg wf_not b.size b [] [] (Nat.le_refl _) hb hbw (fun x hx=>by cases hx) (by show 0+_≤_;omega) (by show 0+_≤_;omega)
  rw [List.nil_append] at h
  have e:tesA [neg g]=.dt (.row [encT (neg g)]):=by rw [tesE];rfl
  unfold vbX at h
  rw [e] at h
  exact w_ob2 hf hu (SOK.ownV (fun _ _ _ h=>h) h)
theorem cnd_len:∀ (i:Nat) (l:List Te),l.length≤3→(cnd i l).length≤4
 | 0,_,_=>Nat.zero_le _
 | 1,_,_=>Nat.zero_le _
 | 2,_,_=>Nat.zero_le _
 | 3,_,_=>by show 1≤4;omega
 | 4,_,_=>by show 1≤4;omega
 | 5,_,_=>Nat.zero_le _
 | 6,_,_=>Nat.zero_le _
 | 7,_,_=>Nat.zero_le _
 | 8,_,_=>Nat.zero_le _
 | 9,_,_=>Nat.zero_le _
 | 10,l,h=>by show (l.map _).length≤4;rw [List.length_map];omega
 | 11,l,h=>by show (l.map _).length≤4;rw [List.length_map];omega
 | 12,l,h=>by show (l.map _).length≤4;rw [List.length_map];omega
 | 13,l,h=>by show (l.map _++[_]).length≤4;rw [List.length_append,List.length_map];show _+1≤4;omega
 | 14,l,h=>by show (l.map _).length≤4;rw [List.length_map];omega
 | 15,l,h=>by show (l.map _).length≤4;rw [List.length_map];omega
 | 16,l,h=>by show (l.map _).length≤4;rw [List.length_map];omega
 | 17,l,h=>by show (l.map _).length≤4;rw [List.length_map];omega
 | 18,l,h=>by show (l.map _).length≤4;rw [List.length_map];omega
 | 19,l,h=>by show (l.map _).length≤4;rw [List.length_map];omega
 | 20,l,h=>by show (l.map _).length≤4;rw [List.length_map];omega
 | 21,l,h=>by show (l.map _).length≤4;rw [List.length_map];omega
 | 22,l,h=>by show (l.map _).length≤4;rw [List.length_map];omega
 | 23,_,_=>by show 4≤4;omega
 | 24,_,_=>by show 3≤4;omega
 | n+25,_,_=>Nat.zero_le _
theorem wf_1 (n:List UInt8) {x:Te} (h:x.Wf):(Te.ap n [x]).Wf:=wf_ap (by show 1≤8;omega) fun y hy=>by rw [List.mem_singleton] at hy;subst hy;exact h
theorem wf_2 (n:List UInt8) {x y:Te} (h:x.Wf) (k:y.Wf):(Te.ap n [x,y]).Wf:=wf_ap (by show 2≤8;omega) fun z hz=>by
 simp only [List.mem_cons,List.not_mem_nil,or_false] at hz
 rcases hz with rfl | rfl
 ·exact h
 ·exact k
theorem wf_3 (n:List UInt8) {x y z:Te} (h:x.Wf) (k:y.Wf) (m:z.Wf):(Te.ap n [x,y,z]).Wf:=wf_ap (by show 3≤8;omega) fun u hu=>by
 simp only [List.mem_cons,List.not_mem_nil,or_false] at hu
 rcases hu with rfl | rfl | rfl
 ·exact h
 ·exact k
 ·exact m
theorem wf_kT {k:Int} (h:k.natAbs < 10 ^ 4):(kT k).Wf:=(Wd.con _ (int_val h)).wf
theorem wf_yes:yesT.Wf:=(Wd.con tTr Tr.valid_t).wf
theorem wf_no:noT.Wf:=(Wd.con nilT Tr.valid_nil).wf
theorem wf_getD {l:List Te} (h:∀ x∈l,x.Wf) (i:Nat):(l.getD i zTe).Wf:=by
 rw [List.getD_eq_getElem?_getD]
 cases e:l[i]? with
 | none=>exact .mk _ zOb_wf (Nat.zero_le _) (fun x hx=>by cases hx)
 | some x=>exact h x (List.mem_of_getElem? e)
theorem wf_car {x:Te} (h:x.Wf):(carC x).Wf:=wf_3 _ (wf_1 _ h) wf_yes (wf_2 _ h wf_no)
theorem wf_map (n:List UInt8) {l:List Te} (h:∀ x∈l,x.Wf):∀ c∈l.map fun x=>Te.ap n [x],c.Wf:=fun c hc=>by
 obtain ⟨x,hx,rfl⟩:=List.mem_map.1 hc
 exact wf_1 n (h x hx)
theorem wf_one {a:Te} (h:a.Wf):∀ c∈[a],c.Wf:=fun c hc=>by rw [List.mem_singleton] at hc;subst hc;exact h
theorem wf_cons {a:Te} {l:List Te} (h:a.Wf) (k:∀ c∈l,c.Wf):∀ c∈a::l,c.Wf:=fun c hc=>by
 rcases List.mem_cons.1 hc with rfl | hc
 ·exact h
 ·exact k c hc
theorem cnd_wf {l:List Te} (h:∀ x∈l,x.Wf):∀ i,∀ c∈cnd i l,c.Wf:=fun i=>match i with
 | 0=>fun c hc=>by cases hc
 | 1=>fun c hc=>by cases hc
 | 2=>fun c hc=>by cases hc
 | 3=>wf_one (wf_car (wf_getD h 0))
 | 4=>wf_one (wf_car (wf_getD h 0))
 | 5=>fun c hc=>by cases hc
 | 6=>fun c hc=>by cases hc
 | 7=>fun c hc=>by cases hc
 | 8=>fun c hc=>by cases hc
 | 9=>fun c hc=>by cases hc
 | 10=>wf_map _ h
 | 11=>wf_map _ h
 | 12=>wf_map _ h
 | 13=>fun c hc=>(List.mem_append.1 hc).elim (wf_map _ h c) (wf_one (wf_1 _ (wf_2 _ (wf_getD h 0) (wf_kT (k:=0) (by decide)))) c)
 | 14=>wf_map _ h
 | 15=>wf_map _ h
 | 16=>wf_map _ h
 | 17=>wf_map _ h
 | 18=>wf_map _ h
 | 19=>wf_map _ h
 | 20=>wf_map _ h
 | 21=>wf_map _ h
 | 22=>wf_map _ h
 | 23=>wf_cons (wf_1 _ (wf_getD h 0)) (wf_cons (wf_1 _ (wf_getD h 1)) (wf_cons (wf_1 _ (wf_2 _ (wf_getD h 1) (wf_kT (k:=0) (by decide)))) (wf_one (wf_2 _ (wf_getD h 1) (wf_1 _ (wf_getD h 0))))))
 | 24=>wf_cons (wf_1 _ (wf_getD h 0)) (wf_cons (wf_1 _ (wf_2 _ (wf_getD h 0) (wf_kT (k:=0) (by decide)))) (wf_one (wf_2 _ (wf_getD h 0) (wf_kT (k:=256) (by decide)))))
 | n+25=>fun c hc=>by cases hc
theorem prim_vt {ws:List (List Dt)} {n:List UInt8} {l:List Te} {i:Nat} (hp:pix primL 0 n=some (i,l.length)) (hw:∀ x∈l,x.Wf) (h:∀ x∈l,Vt ws x):Vt ws (Te.ap n l):=by
 have hl:l.length≤3:=pix_len _ (List.mem_of_getElem? (pix_get hp))
 have e:cndT (Te.ap n l)=cnd i l:=by
  unfold cndT
  rw [show (Te.ap n l).nn=n from rfl,hp]
  rfl
 refine .ap n l (wf_ap (by omega) hw) (by omega) ?_ ?_ ?_ h
 ·rw [e];exact p_gCond (pix_get hp) (GOK.gc hp) rfl
 ·rw [e];exact cnd_wf hw i
 ·rw [e];exact cnd_len i l hl
theorem Pd.vt {ws:List (List Dt)} {t:Te} (h:Pd t):Vt ws t:=by
 induction h with
 | var p n=>exact .leaf _ (by show (1:Int)≠3;decide)
 | con t h=>exact .leaf _ (by show (2:Int)≠3;decide)
 | ap n l i hp h ih=>exact prim_vt hp (fun x hx=>(h x hx).wd.wf) ih
end Go.Proofs.YthhknjlmjefklaaGreatDoor
namespace Go.Proofs.YthhknjlmjefklaaGreatDoor
open Go.RowKit
open Te
theorem gok_b:GOK wrows:=fun n i a hp=>by
 have h:(worldB.find? fun f=>f.nm == n)=none:=prim_no (x:=(n,a)) (List.mem_of_getElem? (pix_get hp))
 exact p_worldN h
abbrev zpB:List UInt8:=[122,112]
abbrev carB:List UInt8:=[99,97,114]
abbrev vX:Te:=⟨1,lispB,[120],zOb,[]⟩
abbrev zpG:Te:=ap [110,97,116,112] [vX]
abbrev zpT:Te:=ap ifB [ap gInt [vX],ap notB [ap gLss [con (Tr.num 0).ob,vX]],yesT]
theorem b_zp:(worldB.find? fun f=>f.nm == zpB).map (fun f=>(f.guard,f.body))=some (zpG,zpT):=by decide +kernel
theorem b_notG:(worldB.find? fun f=>f.nm == notB).map (fun f=>(f.guard,f.ps.length))=some (yesT,1):=by decide +kernel
theorem w_wArF {ws:List (List Dt)} {n:List UInt8} {f:Rdr.Fnc} (hp:Puk 38 [syA lispB n] (.tup [inA 0,boA false])) (hf:Puk 39 [.dt (.row ws),syA lispB n] (.tup [.agg ((encF f).map .dt),boA true])):Puk 37 [.dt (.row ws),syA lispB n] (.tup [inA f.ps.length,boA true]) :=
 pwalk (an:=[.av (.tup [inA 0,boA false]),.av (.tup [.agg ((encF f).map .dt),boA true]),.av (inA f.ps.length)]) (ls:=[]) (ps:=[Puk 38 [(syA lispB n)] (.tup [(inA 0),(boA false)]),Puk 39 [(.dt (.row ws)),(syA lispB n)] (.tup [(.agg ((encF f).map .dt)),(boA true)]),(vi ↑f.ps.length)=(vi (↑(List.map lrow f.ps).length))]) Tryz.func37 (by kernel_rfl) (by kernel_rfl) ⟨hp,hf,lenN _,trivial⟩
theorem w_gcU {ws:List (List Dt)} {n:List UInt8} {f:Rdr.Fnc} {l:List Te} (hw:Puk 37 [.dt (.row ws),syA lispB n] (.tup [inA l.length,boA true])) (hp:Puk 38 [syA lispB n] (.tup [inA 0,boA false])) (hf:Puk 39 [.dt (.row ws),syA lispB n] (.tup [.agg ((encF f).map .dt),boA true])) (hu:Puk 40 [teA f.guard] (boA true)):Puk gcF [.dt (.row ws),syA lispB n,tesA l] (tesA []) :=
 pwalk (an:=[.av (.tup [inA l.length,boA true]),.av (inA l.length),yF,.av (.tup [inA 0,boA false]),.av (.tup [.agg ((encF f).map .dt),boA true]),yT]) (ls:=[]) (ps:=[Puk 37 [(.dt (.row ws)),(syA lispB n)] (.tup [(inA ↑l.length),(boA true)]),(vi ↑l.length)=(vi (↑(List.map Te.enc l).length)),Bn .neq 3 (.tmp 27) (.tmp 29) (vi ↑l.length) (vi ↑l.length) bF,Puk 38 [(syA lispB n)] (.tup [(inA 0),(boA false)]),Puk 39 [(.dt (.row ws)),(syA lispB n)] (.tup [(.agg ((encF f).map .dt)),(boA true)]),Puk 40 [(teA f.guard)] (boA true)]) Tryz.func14 (by kernel_rfl) (by kernel_rfl) ⟨hw,lenEncT _,bin_ine (by simp),hp,hf,hu,trivial⟩
theorem vt_not {a:Te} (hw:a.Wf) (h:Vt wrows a):Vt wrows (Te.ap notB [a]):=by
 have hb:=b_notG
 rw [Option.map_eq_some_iff] at hb
 obtain ⟨f,h1,h2⟩:=hb
 have g1:f.guard=yesT:=congrArg Prod.fst h2
 have g2:f.ps.length=1:=congrArg Prod.snd h2
 have hne:∀ x∈primL,notB≠x.1:=by decide
 have hp:=p_oArU hne
 have hf:=p_worldF (ws:=worldB) (r:=[encP namesR]) wrows_len h1
 have hw2:=w_wArF hp hf
 rw [g2] at hw2
 have hu:=p_ung (t:=f.guard) (by rw [g1];exact wf_yes)
 rw [g1,show sameD yesT yesT=true from decide_eq_true rfl] at hu
 have e:cndT (Te.ap notB [a])=[]:=by
  unfold cndT
  rw [show (Te.ap notB [a]).nn=notB from rfl,pix_not]
 refine .ap notB [a] (wf_not a hw) (by show 1≤8;omega) ?_ ?_ ?_ (fun x hx=>by rw [List.mem_singleton] at hx;subst hx;exact h)
 ·rw [e]
  exact w_gcU (l:=[a]) hw2 hp hf (by rw [g1];exact hu)
 ·rw [e];intro c hc;cases hc
 ·rw [e];exact Nat.zero_le _
theorem pd_zpL:Pd (Te.ap gLss [con (Tr.num 0).ob,vX]):=.ap _ _ 14 (by decide +kernel) fun x hx=>by
 simp only [List.mem_cons,List.not_mem_nil,or_false] at hx
 rcases hx with rfl | rfl
 ·exact .con _ (int_val (n:=0) (by decide))
 ·exact .var _ _
theorem pd_zpI:Pd (Te.ap gInt [vX]):=.ap _ _ 9 (by decide +kernel) fun x hx=>by
 rw [List.mem_singleton] at hx
 subst hx
 exact .var _ _
theorem wf_vX:vX.Wf:=(Wd.var lispB [120]).wf
theorem wf_zpT:zpT.Wf:=wf_3 _ pd_zpI.wd.wf (wf_not _ pd_zpL.wd.wf) wf_yes
theorem vt_zpT:Vt wrows zpT:=prim_vt (i:=0) (by decide +kernel) (fun x hx=>by
  simp only [List.mem_cons,List.not_mem_nil,or_false] at hx
  rcases hx with rfl | rfl | rfl
  ·exact pd_zpI.wd.wf
  ·exact wf_not _ pd_zpL.wd.wf
  ·exact wf_yes) fun x hx=>by
 simp only [List.mem_cons,List.not_mem_nil,or_false] at hx
 rcases hx with rfl | rfl | rfl
 ·exact pd_zpI.vt
 ·exact vt_not pd_zpL.wd.wf pd_zpL.vt
 ·exact .leaf _ (by show (2:Int)≠3;decide)
abbrev zpL:List (List Te):=vis [neg zpG] 8 zpT []
theorem zp_len:decide (0 < zpL.length) && decide ((zpL.getD 0 []).length=3)=true:=by decide +kernel
theorem p_zp:∃ (c:List Te) (r:List (List Te)),c.length=3∧Puk 25 [.dt (.row wrows),syA lispB zpB] (.tup [clsA (c::r),inA 0]):=by
 have hb:=b_zp
 rw [Option.map_eq_some_iff] at hb
 obtain ⟨f,h1,h2⟩:=hb
 have g1:f.guard=zpG:=congrArg Prod.fst h2
 have g2:f.body=zpT:=congrArg Prod.snd h2
 have hf:Puk 39 [.dt (.row wrows),syA lispB zpB] (.tup [.agg ((encG lispB f.nm (f.ps.map lrow) f.guard f.body f.measure).map .dt),boA true]):=p_worldF (ws:=worldB) (r:=[encP namesR]) wrows_len h1
 have h:=p_Obl hf (by rw [g1];exact wf_1 _ wf_vX) (by rw [g2];exact vt_zpT) (by rw [g2];exact wf_zpT) (by rw [g2];decide)
 rw [g1,g2,show hdO zpG=[neg zpG] from if_neg (by decide +kernel),show zpT.size=8 by decide] at h
 have hl:=zp_len
 rw [Bool.and_eq_true,decide_eq_true_iff,decide_eq_true_iff] at hl
 obtain ⟨hl1,hl2⟩:=hl
 replace h:Puk 25 [.dt (.row wrows),syA lispB zpB] (.tup [clsA zpL,inA 0]):=h
 generalize zpL=L at h hl1 hl2
 cases L with
 | nil=>cases hl1
 | cons c r=>exact ⟨c,r,of_decide_eq_true hl2,h⟩
abbrev tCar (x:Tr):Te:=ap carB [con x.ob]
theorem pre_car (x:Tr):GPre wrows (tCar x) 10 0 false :=
 have h:=p_oAri (i:=3) (s:=carB) (a:=1) rfl
 ⟨by decide,by decide,by decide,h,gok_b carB 3 1 (by decide +kernel),w_wAr h,by show decide (carB=ifB)=false;decide⟩
theorem lp_car (x:Tr):Tri (EXn 1) (.loop gkB) (gk0 wrows 10 (0+1) (tCar x) []) (.out 2) (gkS wrows 10 1 (tCar x) [] zFr true (rowsO [x]) ((1:Nat):Int)):=by
 have h1:Suk gtF [.ptr 0 0,teA (con x.ob),bnA []] (gxX wrows 10 1) (.tup [trA x,inA 0]) (gxX wrows 10 1):=w_gt1 (t:=con x.ob) rfl
 have h2:=gkB1 (ws:=wrows) (es:=[]) (t:=tCar x) (x:=con x.ob) (env:=[]) (b:=true) (i:=0) rfl (by show 1≤1000;omega) (by show 0≤1000;omega) h1
 have h3:=gkB3 (ws:=wrows) (es:=[encL x.ob]) (s:=10) (u:=1) (t:=tCar x) (env:=[]) (b:=true) (i:=1) rfl
 exact Tri.own0 16 37 7 (by show 16 < 204;omega) rfl (Lps.more h2 (.stop h3 (fun h=>by cases h))).tri
theorem ev_car5:Puk 24 [.dt (.row wrows),teA (tCar (Tr.num ((5:Int):Rat))),.dt (.row []),inA 10] (.tup [obA zO,inA 0,inA 10]):=by
 have hg:=(p_oGd3 (x:=Tr.num ((5:Int):Rat)) (Tr.valid_arg (int_val (by decide)))).b (show Tr.gd 3 (Tr.num ((5:Int):Rat)) nilT=false by decide +kernel)
 exact w_gTm2 (env:=[]) (s:=10) (by decide) (w_gt2 (t:=tCar (Tr.num ((5:Int):Rat))) rfl (w_gkG (pre_car _) (lp_car _) hg))
theorem ev_carN:Puk 24 [.dt (.row wrows),teA (tCar nilT),.dt (.row []),inA 10] (.tup [trA nilT,inA 1,inA 0]):=by
 have hg:=(p_oGd3 (x:=nilT) (Tr.valid_arg Tr.valid_nil)).b (show Tr.gd 3 nilT nilT=true by decide +kernel)
 have hl:∀ t∈[nilT],t.valid=true:=fun t ht=>by rw [List.mem_singleton] at ht;subst ht;exact Tr.valid_nil
 have ha:=(p_oApp3 (Tr.valid_arg Tr.valid_nil)).r (Tr.apO_eq (getD_valid hl 0) (getD_valid hl 1) (getD_valid hl 2) 3)
 rw [show Tr.ap 3 ([nilT].getD 0 nilT) ([nilT].getD 1 nilT) ([nilT].getD 2 nilT)=nilT from rfl,kept_t Tr.valid_nil] at ha
 exact w_gTm1 (env:=[]) (s:=10) (w_gt2 (t:=tCar nilT) rfl (w_gkP (pre_car _) (lp_car _) hg ha))
structure F14 (ws:List (List Dt)) (c:List Te) (r:List (List Te)) (t5:Te) (o5:Ob):Prop where
 w:Puk 7 [] (.dt (.row ws))
 i:Puk 12 [inA 5] (obA o5)
 t:Puk 13 [obA o5] (teA t5)
 e:Puk 24 [.dt (.row ws),teA (ap carB [t5]),.dt (.row []),inA 10] (.tup [obA zO,inA 0,inA 10])
 k:Puk 24 [.dt (.row ws),teA (ap carB [noT]),.dt (.row []),inA 10] (.tup [obA nilO,inA 1,inA 0])
 z:Puk 25 [.dt (.row ws),syA lispB zpB] (.tup [clsA (c::r),inA 0])
 n:Puk 16 [obA nilO] (boA true)
 c3:c.length=3
theorem w_first14 {ws:List (List Dt)} {c:List Te} {r:List (List Te)} {t5:Te} {o5:Ob} (h:F14 ws c r t5 o5):Puk 5 [] (boA true) :=
 pwalk (an:=[.av (.dt (.row ws)),.av (obA o5),.av (teA t5),.av (teA (ap carB [t5])),.av (.tup [obA zO,inA 0,inA 10]),.av (obA nilO),.av (teA noT),.av (teA (ap carB [noT])),.av (.tup [obA nilO,inA 1,inA 0]),.av (syA lispB zpB),.av (.tup [.dt (.row (encC c::r.map encC)),inA 0]),.no,.no,.no,yT,.no,.av (inA (r.length+1:Nat)),yT,.av (.pin [.dt (.row (c.map Te.enc))]),.av (inA 3),.no]) (ls:=[]) (ps:=[Puk 7 [] (.dt (.row ws)),Puk 12 [(inA 5)] (obA o5),Puk 13 [(obA o5)] (teA t5),Puk 27 [(stA [99,97,114]),(.dt (.row [encT t5]))] (teA (ap carB [t5])),Puk 24 [(.dt (.row ws)),(teA (ap carB [t5])),(.dt (.row [])),(inA 10)] (.tup [(obA zO),(inA 0),(inA 10)]),Puk 28 [] (obA nilO),Puk 13 [(obA nilO)] (.agg [(inA 2),(stA noT.np),(stA noT.nn),(inA 2),(stA noT.val.num),(stA noT.val.den),(stA noT.val.sp),(stA noT.val.sn),(stA noT.val.text),(.dt (.row (List.map Ob.enc noT.val.pair))),(.dt (.row (List.map Te.enc noT.args)))]),Puk 27 [(stA [99,97,114]),(.dt (.row [[(.val (vi 2)),(.val (str noT.np)),(.val (str noT.nn)),(.val (vi 2)),(.val (str noT.val.num)),(.val (str noT.val.den)),(.val (str noT.val.sp)),(.val (str noT.val.sn)),(.val (str noT.val.text)),(.row (List.map Ob.enc noT.val.pair)),(.row (List.map Te.enc noT.args))]]))] (.agg [(inA 3),(stA (ap carB [noT]).np),(stA (ap carB [noT]).nn),(inA 0),(stA (ap carB [noT]).val.num),(stA (ap carB [noT]).val.den),(stA (ap carB [noT]).val.sp),(stA (ap carB [noT]).val.sn),(stA (ap carB [noT]).val.text),(.dt (.row (List.map Ob.enc (ap carB [noT]).val.pair))),(.dt (.row (List.map Te.enc (ap carB [noT]).args)))]),Puk 24 [(.dt (.row ws)),(.agg [(inA 3),(stA (ap carB [noT]).np),(stA (ap carB [noT]).nn),(inA 0),(stA (ap carB [noT]).val.num),(stA (ap carB [noT]).val.den),(stA (ap carB [noT]).val.sp),(stA (ap carB [noT]).val.sn),(stA (ap carB [noT]).val.text),(.dt (.row (List.map Ob.enc (ap carB [noT]).val.pair))),(.dt (.row (List.map Te.enc (ap carB [noT]).args)))]),(.dt (.row [])),(inA 10)] (.tup [(obA nilO),(inA 1),(inA 0)]),Puk 29 [(stA [122,112])] (syA lispB zpB),Puk 25 [(.dt (.row ws)),(syA lispB zpB)] (.tup [(.dt (.row (encC c::List.map encC r))),(inA 0)]),Puk 16 [(obA nilO)] (boA true),(vi (↑(r.length+1)))=(vi (↑(encC c::List.map encC r).length)),Bn .gtr 3 (.tmp 59) (.const (vi 0)) (vi (↑(r.length+1))) (vi 0) bT,IxAt (encC c::List.map encC r) 0 1 ([(.row (List.map Te.enc c))]),(vi 3)=(vi (↑(List.map Te.enc c).length))]) Tryz.func5 (by kernel_rfl) (by kernel_rfl) ⟨h.w,h.i,h.t,p_rLisp1 carB t5,h.e,p_rNil,p_rConst nilO,p_rLisp1 carB noT,h.k,p_lisp zpB,h.z,h.n,congrArg vi (by simp),bin_igt (decide_eq_true (by omega)),⟨Int.le_refl _,rfl,rfl⟩,congrArg vi (by rw [List.length_map,h.c3];rfl),trivial⟩
theorem p_first14:Puk 5 [] (boA true):=by
 obtain ⟨c,r,hc,hz⟩:=p_zp
 exact w_first14 ⟨p_World,p_rInt 5 (by decide) (by decide),p_rConst _,ev_car5,ev_carN,hz,p_rIsNil7 (t:=nilT) (Tr.valid_arg Tr.valid_nil).ok (by decide),hc⟩
end Go.Proofs.YthhknjlmjefklaaGreatDoor
namespace Go.Proofs.YthhknjlmjefklaaGreatDoor
open Go.RowKit
open Te
abbrev ojS (l:List Raw) (es:List (List Dt)) (i:Int):AS:=⟨stt 20 [(0,rawsA l),(3,.own 0 es.length),(4,inA i)],[some (.buf 37 7 es)]⟩
noncomputable abbrev ojB:Code:=subC (bodyOf Tryz.f11) [1,1,0,1,0,0]
theorem ojB1 {l:List Raw} {x:Raw} {y:Tr} {es:List (List Dt)} {i:Nat} (hx:l[i]?=some x) (hl:l.length≤8) (he:es.length≤8) (h:Puk 34 [rawA x] (trA y)):Tri EX ojB (ojS l es i) .nxt (ojS l (es++[encL y.ob]) ((i+1:Nat):Int)) :=
 have hi:=(List.getElem?_eq_some_iff.1 hx).1
 twalk (c:=subC (bodyOf Tryz.f11) [1,1,0,1,0,0]) (s:=ojS l es i) (an:=[.av (inA l.length),yT,.av (.pin ((encR x).map .dt)),.av (trA y),.av (.un),.av (inA ((i+1:Nat):Int))]) (ls:=[]) (ft:=[0,3,4]) (nb:=1) (e:=.nxt) (s':=ojS l (es++[encL y.ob]) ((i+1:Nat):Int)) (ps:=[(vi ↑l.length)=(vi (↑(List.map Raw.enc l).length)),Bn .lss 3 (.tmp 5) (.tmp 7) (vi ↑i) (vi ↑l.length) bT,IxAt (List.map Raw.enc l) ↑i 4 (encR x),Puk 34 [(rawA x)] (obA y.ob),(es.length)=(es.length),FitB 112 ((es++[[Dt.val (vi y.ob.kind),Dt.val (str y.ob.num),Dt.val (str y.ob.den),Dt.val (str y.ob.sp),Dt.val (str y.ob.sn),Dt.val (str y.ob.text),Dt.row (List.map Ob.enc y.ob.pair)]]).length),SrcOK 7 [encL y.ob],Bn .add 3 (.tmp 9) (.const (vi 1)) (vi ↑i) (vi 1) (vi (↑(i+1)))]) (by kernel_rfl) ⟨lenEncR _,bin_ilt (decide_eq_true (by omega)),ix_raw hx,h,rfl,fit_b (by omega) (by simp;omega),src_tr y,bin_iadd (by omega) (by omega) (by omega),trivial⟩
theorem ojB3 {l:List Raw} {es:List (List Dt)} {i:Nat} (hi:i=l.length):Tri EX ojB (ojS l es i) (.out 0) (ojS l es i) :=
 twalk (c:=subC (bodyOf Tryz.f11) [1,1,0,1,0,0]) (s:=ojS l es i) (an:=[.av (inA l.length),yF]) (ls:=[]) (ft:=[0,3,4]) (nb:=1) (e:=.out 0) (s':=ojS l es i) (ps:=[(vi ↑l.length)=(vi (↑(List.map Raw.enc l).length)),Bn .lss 3 (.tmp 5) (.tmp 7) (vi ↑i) (vi ↑l.length) bF]) (by kernel_rfl) ⟨lenEncR _,bin_ilt (decide_eq_false (by omega)),trivial⟩
theorem oj_loop {l:List Raw} (hl:l.length≤8) (hf:∀ x∈l,Fit x):∀ (q:List Raw) (i:Nat) (v:List Tr),l.drop i=q→i≤l.length→v.length=i→Lps EX ojB (ojS l (rowsO v) i) (.out 0) (ojS l (rowsO (v++q.map mkT)) l.length):=by
 intro q
 induction q with
 | nil =>
  intro i v hd hi hv
  have e1:=congrArg List.length hd
  rw [List.length_drop,List.length_nil] at e1
  obtain rfl:i=l.length:=by omega
  rw [List.map_nil,List.append_nil]
  exact .stop (ojB3 rfl) (fun h=>by cases h)
 | cons x q ih =>
  intro i v hd hi hv
  have hx:l[i]?=some x:=by rw [← List.head?_drop,hd];rfl
  have hlt:=(List.getElem?_eq_some_iff.1 hx).1
  have hs:=ojB1 (es:=rowsO v) hx hl (by rw [rowsO_len];omega) (p_mkOb _ x (Nat.le_refl _) (hf x (List.mem_of_getElem? hx)))
  rw [rowsO_snoc] at hs
  have k:=ih (i+1) (v++[mkT x]) (by rw [← List.drop_drop,hd];rfl) hlt (by simp [hv])
  rw [List.append_assoc] at k
  exact .more hs k
theorem p_ObjN {l:List Raw} (hl:l.length≤8) (hf:∀ x∈l,Fit x):PureOwn Tryz.prog Gx 11 [rawsA l] 37 7 (rowsO (l.map mkT)):=by
 have h:Tri EX (.loop ojB) ⟨stt 20 [(0,rawsA l),(3,.nil),(4,inA 0)],[]⟩ (.out 0) (ojS l (rowsO (l.map mkT)) l.length):=Tri.own0 3 37 7 (by show 3 < 20;omega) rfl (oj_loop hl hf l 0 [] rfl (Nat.zero_le _) rfl).tri
 generalize rowsO (l.map mkT)=es at *
 generalize ((l.length:Nat):Int)=k at *
 exact SOK.pureOwn (fun _ _ h hb=>h.below hb) (psw (n:=0) (ks:=[0]) (an:=[]) (ls:=[.inv [0,3,4] 0 (.out 0) (ojS l es k)]) (ps:=[Tri (EXn 0) (.loop (subC (bodyOf Tryz.f11) [1,1,0,1,0,0])) (⟨stt 20 [(0,rawsA l),(3,.nil),(4,inA 0)],[]⟩) (.out 0) (ojS l es k)]) Tryz.func11 (by kernel_rfl) (by kernel_rfl) ⟨h,trivial⟩) rfl
abbrev oneT:Tr:=.num ((1:Int):Rat)
abbrev fuS (ws:List (List Dt)) (s:List UInt8) (k:Int) (es:List (List Dt)):AS:=⟨stt 93 [(5,.dt (.row ws)),(6,.ptr 0 0),(7,inA k),(9,.own 1 es.length)],[some (.cells [stA lispB,stA s]),some (.buf 37 7 es)]⟩
noncomputable abbrev fuB:Code:=subC (bodyOf Tryz.f3) [1,1,1,1,1,1,1,0,0,0]
theorem fuB1 {ws:List (List Dt)} {s:List UInt8} {k:Nat} {es:List (List Dt)} (h:es.length < k) (hk:k≤8):Tri EX fuB (fuS ws s k es) .nxt (fuS ws s k (es++[encL oneT.ob])) :=
 twalk (c:=subC (bodyOf Tryz.f3) [1,1,1,1,1,1,1,0,0,0]) (s:=fuS ws s k es) (an:=[.av (inA es.length),yT,.av (trA oneT),.av (.un)]) (ls:=[]) (ft:=[5,6,7,9]) (nb:=2) (e:=.nxt) (s':=fuS ws s k (es++[encL oneT.ob])) (ps:=[(vi ↑es.length)=(vi ↑es.length),Bn .lss 3 (.tmp 37) (.tmp 38) (vi ↑es.length) (vi ↑k) bT,Puk 12 [(inA 1)] (obA oneT.ob),(es.length)=(es.length),FitB 112 ((es++[[Dt.val (vi oneT.ob.kind),Dt.val (str oneT.ob.num),Dt.val (str oneT.ob.den),Dt.val (str oneT.ob.sp),Dt.val (str oneT.ob.sn),Dt.val (str oneT.ob.text),Dt.row (List.map Ob.enc oneT.ob.pair)]]).length),SrcOK 7 [[(.val (vi 1)),(.val (str oneT.ob.num)),(.val (str oneT.ob.den)),(.val (str oneT.ob.sp)),(.val (str oneT.ob.sn)),(.val (str oneT.ob.text)),(.row (List.map Ob.enc oneT.ob.pair))]]]) (by kernel_rfl) ⟨rfl,bin_ilt (decide_eq_true (by omega)),p_rInt 1 (by decide) (by decide),rfl,fit_b (by omega) (by simp;omega),src_tr oneT,trivial⟩
theorem fuB3 {ws:List (List Dt)} {s:List UInt8} {k:Nat} {es:List (List Dt)} (h:¬ es.length < k):Tri EX fuB (fuS ws s k es) (.out 0) (fuS ws s k es) :=
 twalk (c:=subC (bodyOf Tryz.f3) [1,1,1,1,1,1,1,0,0,0]) (s:=fuS ws s k es) (an:=[.av (inA es.length),yF]) (ls:=[]) (ft:=[5,6,7,9]) (nb:=2) (e:=.out 0) (s':=fuS ws s k es) (ps:=[(vi ↑es.length)=(vi ↑es.length),Bn .lss 3 (.tmp 37) (.tmp 38) (vi ↑es.length) (vi ↑k) bF]) (by kernel_rfl) ⟨rfl,bin_ilt (decide_eq_false (by omega)),trivial⟩
theorem fu_loop {ws:List (List Dt)} {s:List UInt8} {k:Nat} (hk:k≤8):∀ (d:Nat) (v:List Tr),d=k - v.length→Lps EX fuB (fuS ws s k (rowsO v)) (.out 0) (fuS ws s k (rowsO (v++List.replicate d oneT))):=by
 intro d
 induction d with
 | zero =>
  intro v hd
  rw [List.replicate_zero,List.append_nil]
  exact .stop (fuB3 (by rw [rowsO_len];omega)) (fun h=>by cases h)
 | succ d ih =>
  intro v hd
  have hs:=fuB1 (ws:=ws) (s:=s) (k:=k) (es:=rowsO v) (by rw [rowsO_len];omega) hk
  rw [rowsO_snoc] at hs
  have h:=ih (v++[oneT]) (by simp;omega)
  rw [List.append_assoc] at h
  exact .more hs h
abbrev coS (ws:List (List Dt)) (s:List UInt8) (k:Int) (g:List Tr) (es:List (List Dt)) (i:Int):AS:=⟨stt 93 [(5,.dt (.row ws)),(6,.ptr 0 0),(7,inA k),(9,rowA g),(10,.own 1 es.length),(11,inA i)],[some (.cells [stA lispB,stA s]),some (.buf 41 11 es)]⟩
abbrev co0 (ws:List (List Dt)) (s:List UInt8) (k:Int) (g:List Tr):AS:=⟨stt 93 [(5,.dt (.row ws)),(6,.ptr 0 0),(7,inA k),(9,rowA g),(10,.nil),(11,inA 0)],[some (.cells [stA lispB,stA s])]⟩
noncomputable abbrev coB:Code:=subC (bodyOf Tryz.f3) [1,1,1,1,1,1,1,1,1,1,0,1,0,0]
theorem coB1 {ws:List (List Dt)} {s:List UInt8} {k i:Nat} {g:List Tr} {x:Tr} {es:List (List Dt)} (hx:g[i]?=some x) (hi:i < k) (hk:k≤8) (he:es.length≤8):Tri EX coB (coS ws s k g es i) .nxt (coS ws s k g (es++[encT (con x.ob)]) ((i+1:Nat):Int)) :=
 twalk (c:=subC (bodyOf Tryz.f3) [1,1,1,1,1,1,1,1,1,1,0,1,0,0]) (s:=coS ws s k g es i) (an:=[yT,.av (.pin ((encL x.ob).map .dt)),.av (teA (con x.ob)),.av (.un),.av (inA ((i+1:Nat):Int))]) (ls:=[]) (ft:=[5,6,7,9,10,11]) (nb:=2) (e:=.nxt) (s':=coS ws s k g (es++[encT (con x.ob)]) ((i+1:Nat):Int)) (ps:=[Bn .lss 3 (.tmp 47) (.tmp 48) (vi ↑i) (vi ↑k) bT,IxAt (List.map (fun t=>encL t.ob) g) ↑i 7 (encL x.ob),Puk 13 [(obA x.ob)] (teA (con x.ob)),(es.length)=(es.length),FitB 176 ((es++[encT (con x.ob)]).length),SrcOK 11 [encT (con x.ob)],Bn .add 3 (.tmp 50) (.const (vi 1)) (vi ↑i) (vi 1) (vi (↑(i+1)))]) (by kernel_rfl) ⟨bin_ilt (decide_eq_true (by omega)),ix_tr hx,p_rConst _,rfl,fit_of (by omega) (by simp;omega),src_te1 _,bin_iadd (by omega) (by omega) (by omega),trivial⟩
theorem coB3 {ws:List (List Dt)} {s:List UInt8} {k i:Nat} {g:List Tr} {es:List (List Dt)} (hi:i=k):Tri EX coB (coS ws s k g es i) (.out 2) (coS ws s k g es i) :=
 twalk (c:=subC (bodyOf Tryz.f3) [1,1,1,1,1,1,1,1,1,1,0,1,0,0]) (s:=coS ws s k g es i) (an:=[yF]) (ls:=[]) (ft:=[5,6,7,9,10,11]) (nb:=2) (e:=.out 2) (s':=coS ws s k g es i) (ps:=[Bn .lss 3 (.tmp 47) (.tmp 48) (vi ↑i) (vi ↑k) bF]) (by kernel_rfl) ⟨bin_ilt (decide_eq_false (by omega)),trivial⟩
theorem co_loop {ws:List (List Dt)} {s:List UInt8} {g:List Tr} (hk:g.length≤8):∀ (q:List Tr) (i:Nat) (c:List Te),g.drop i=q→i≤g.length→c.length=i→Lps EX coB (coS ws s g.length g (c.map Te.enc) i) (.out 2) (coS ws s g.length g ((c++q.map fun x=>con x.ob).map Te.enc) g.length):=by
 intro q
 induction q with
 | nil =>
  intro i c hd hi hc
  have e1:=congrArg List.length hd
  rw [List.length_drop,List.length_nil] at e1
  obtain rfl:i=g.length:=by omega
  rw [List.map_nil,List.append_nil]
  exact .stop (coB3 rfl) (fun h=>by cases h)
 | cons x q ih =>
  intro i c hd hi hc
  have hx:g[i]?=some x:=by rw [← List.head?_drop,hd];rfl
  have hlt:=(List.getElem?_eq_some_iff.1 hx).1
  have hs:=coB1 (ws:=ws) (s:=s) (k:=g.length) (es:=c.map Te.enc) hx hlt hk (by rw [List.length_map];omega)
  rw [show c.map Te.enc++[encT (con x.ob)]=(c++[con x.ob]).map Te.enc from enc_snoc c (con x.ob)] at hs
  have k:=ih (i+1) (c++[con x.ob]) (by rw [← List.drop_drop,hd];rfl) hlt (by simp [hc])
  rw [List.append_assoc] at k
  exact .more hs k
abbrev goS (ws:List (List Dt)) (s:List UInt8) (g:List Tr) (C:List Te) (b:Bool) (i:Int):AS:=⟨stt 93 [(5,.dt (.row ws)),(6,.ptr 0 0),(9,rowA g),(12,tesA C),(13,boA b),(14,inA i)],[some (.cells [stA lispB,stA s])]⟩
noncomputable abbrev goB:Code:=subC (bodyOf Tryz.f3) [1,1,1,1,1,1,1,1,1,1,1,1,1,0,1,0,0]
theorem goB1 {ws:List (List Dt)} {s:List UInt8} {g:List Tr} {C:List Te} {c:Te} {i:Nat} {v:Tr} {m:Int} {d:Bool} (hx:C[i]?=some c) (hl:C.length≤1000) (h:Puk 15 [.dt (.row ws),teA c,.dt (.row []),inA 50] (.tup [trA v,inA m,inA 0])) (hn:Puk 16 [trA v] (boA d)):Tri EX goB (goS ws s g C true i) .nxt (goS ws s g C (!d) ((i+1:Nat):Int)):=by
 have hi:=(List.getElem?_eq_some_iff.1 hx).1
 cases d with
 | true=>exact twalk (c:=subC (bodyOf Tryz.f3) [1,1,1,1,1,1,1,1,1,1,1,1,1,0,1,0,0]) (s:=goS ws s g C true i) (an:=[.av (inA C.length),yT,.av (.pin ((encT c).map .dt)),.av (.tup [trA v,inA m,inA 0]),yF,yT,.av (inA ((i+1:Nat):Int))]) (ls:=[]) (ft:=[5,6,9,12,13,14]) (nb:=1) (e:=.nxt) (s':=goS ws s g C false ((i+1:Nat):Int)) (ps:=[(vi ↑C.length)=(vi (↑(List.map Te.enc C).length)),Bn .lss 3 (.tmp 64) (.tmp 66) (vi ↑i) (vi ↑C.length) bT,IxAt (List.map Te.enc C) ↑i 11 (encT c),Puk 15 [(.dt (.row ws)),(teA c),(.dt (.row [])),(inA 50)] (.tup [(obA v.ob),(inA m),(inA 0)]),Bn .neq 44 (.tmp 80) (.const (vi 0)) (vi 0) (vi 0) bF,Puk 16 [(obA v.ob)] (boA true),Bn .add 3 (.tmp 68) (.const (vi 1)) (vi ↑i) (vi 1) (vi (↑(i+1)))]) (by kernel_rfl) ⟨lenEncT _,bin_ilt (decide_eq_true (by omega)),ix_te hx,h,bin_ine (by simp),hn,bin_iadd (by omega) (by omega) (by omega),trivial⟩
 | false=>exact twalk (c:=subC (bodyOf Tryz.f3) [1,1,1,1,1,1,1,1,1,1,1,1,1,0,1,0,0]) (s:=goS ws s g C true i) (an:=[.av (inA C.length),yT,.av (.pin ((encT c).map .dt)),.av (.tup [trA v,inA m,inA 0]),yF,yF,.av (inA ((i+1:Nat):Int))]) (ls:=[]) (ft:=[5,6,9,12,13,14]) (nb:=1) (e:=.nxt) (s':=goS ws s g C true ((i+1:Nat):Int)) (ps:=[(vi ↑C.length)=(vi (↑(List.map Te.enc C).length)),Bn .lss 3 (.tmp 64) (.tmp 66) (vi ↑i) (vi ↑C.length) bT,IxAt (List.map Te.enc C) ↑i 11 (encT c),Puk 15 [(.dt (.row ws)),(teA c),(.dt (.row [])),(inA 50)] (.tup [(obA v.ob),(inA m),(inA 0)]),Bn .neq 44 (.tmp 80) (.const (vi 0)) (vi 0) (vi 0) bF,Puk 16 [(obA v.ob)] (boA false),Bn .add 3 (.tmp 68) (.const (vi 1)) (vi ↑i) (vi 1) (vi (↑(i+1)))]) (by kernel_rfl) ⟨lenEncT _,bin_ilt (decide_eq_true (by omega)),ix_te hx,h,bin_ine (by simp),hn,bin_iadd (by omega) (by omega) (by omega),trivial⟩
theorem goB2 {ws:List (List Dt)} {s:List UInt8} {g:List Tr} {C:List Te} {c:Te} {i:Nat} {v:Tr} {m:Int} (hx:C[i]?=some c) (hl:C.length≤1000) (h:Puk 15 [.dt (.row ws),teA c,.dt (.row []),inA 50] (.tup [trA v,inA m,inA 0])):Tri EX goB (goS ws s g C false i) .nxt (goS ws s g C false ((i+1:Nat):Int)) :=
 have hi:=(List.getElem?_eq_some_iff.1 hx).1
 twalk (c:=subC (bodyOf Tryz.f3) [1,1,1,1,1,1,1,1,1,1,1,1,1,0,1,0,0]) (s:=goS ws s g C false i) (an:=[.av (inA C.length),yT,.av (.pin ((encT c).map .dt)),.av (.tup [trA v,inA m,inA 0]),yF,.av (inA ((i+1:Nat):Int))]) (ls:=[]) (ft:=[5,6,9,12,13,14]) (nb:=1) (e:=.nxt) (s':=goS ws s g C false ((i+1:Nat):Int)) (ps:=[(vi ↑C.length)=(vi (↑(List.map Te.enc C).length)),Bn .lss 3 (.tmp 64) (.tmp 66) (vi ↑i) (vi ↑C.length) bT,IxAt (List.map Te.enc C) ↑i 11 (encT c),Puk 15 [(.dt (.row ws)),(teA c),(.dt (.row [])),(inA 50)] (.tup [(obA v.ob),(inA m),(inA 0)]),Bn .neq 44 (.tmp 80) (.const (vi 0)) (vi 0) (vi 0) bF,Bn .add 3 (.tmp 68) (.const (vi 1)) (vi ↑i) (vi 1) (vi (↑(i+1)))]) (by kernel_rfl) ⟨lenEncT _,bin_ilt (decide_eq_true (by omega)),ix_te hx,h,bin_ine (by simp),bin_iadd (by omega) (by omega) (by omega),trivial⟩
theorem goB3 {ws:List (List Dt)} {s:List UInt8} {g:List Tr} {C:List Te} {b:Bool} {i:Nat} (hi:i=C.length):Tri EX goB (goS ws s g C b i) (.out 4) (goS ws s g C b i) :=
 twalk (c:=subC (bodyOf Tryz.f3) [1,1,1,1,1,1,1,1,1,1,1,1,1,0,1,0,0]) (s:=goS ws s g C b i) (an:=[.av (inA C.length),yF]) (ls:=[]) (ft:=[5,6,9,12,13,14]) (nb:=1) (e:=.out 4) (s':=goS ws s g C b i) (ps:=[(vi ↑C.length)=(vi (↑(List.map Te.enc C).length)),Bn .lss 3 (.tmp 64) (.tmp 66) (vi ↑i) (vi ↑C.length) bF]) (by kernel_rfl) ⟨lenEncT _,bin_ilt (decide_eq_false (by omega)),trivial⟩
end Go.Proofs.YthhknjlmjefklaaGreatDoor
namespace Go.Proofs.YthhknjlmjefklaaGreatDoor
open Go.RowKit
open Te
theorem w_gm0 {n:Int} {l:List Raw} (h1:Puk 5 [] (boA true)) (h2:Puk 6 [rawsA l,inA 10] (boA false)):Puk 3 [inA n,rawsA l] (boA true) :=
 pwalk (an:=[yT,yF]) (ls:=[]) (ps:=[Puk 5 [] (boA true),Puk 6 [(.dt (.row (List.map Raw.enc l))),(inA 10)] (boA false)]) Tryz.func3 (by kernel_rfl) (by kernel_rfl) ⟨h1,h2,trivial⟩
structure GM (ws:List (List Dt)) (n:Int) (l:List Raw) (s:List UInt8) (k:Nat) (o v:List (List Dt)) (g:List Tr) (es:List (List Dt)) (C:List Te) (b:Bool) (j j2:Int):Prop where
 f:Puk 5 [] (boA true)
 a:Puk 6 [rawsA l,inA 10] (boA true)
 w:Puk 7 [] (.dt (.row ws))
 ns:Puk 8 [] (.dt (.row (primL.map prow)))
 m:Puk 9 [inA n,inA 25] (inA (n % 25))
 ix:IxAt (primL.map prow) (n % 25) 2 [.val (str lispB),.val (str s)]
 r:Puk 10 [syA lispB s] (.tup [inA k,boA true])
 oo:PureOwn Tryz.prog Gx 11 [rawsA l] 37 7 o
 l1:Tri EX (.loop fuB) (fuS ws s k o) (.out 0) (fuS ws s k v)
 sl:SlcOK v 7 ((none:Option Int).getD 0) ((some (k:Int)).getD (v.length:Int)) (rowsO g)
 l2:Tri EX (.loop coB) (co0 ws s k g) (.out 2) (coS ws s k g es j)
 cn:Puk gcF [.dt (.row ws),syA lispB s,.dt (.row es)] (tesA C)
 l3:Tri EX (.loop goB) (goS ws s g C true 0) (.out 4) (goS ws s g C b j2)
 gd:Puk 17 [syA lispB s,rowA g] (boA b)
theorem w_gm1 {ws:List (List Dt)} {n:Int} {l:List Raw} {s:List UInt8} {k:Nat} {o v:List (List Dt)} {g:List Tr} {es:List (List Dt)} {C:List Te} {b:Bool} {j j2:Int} (h:GM ws n l s k o v g es C b j j2):Puk 3 [inA n,rawsA l] (boA true) :=
 pwalk (an:=[yT,yT,.av (.dt (.row ws)),.av (.dt (.row (primL.map prow))),.av (inA (n % 25)),.av (.pin [stA lispB,stA s]),.av (.tup [inA k,boA true]),.av (.tup [.own 37 7,.dt (.row o)]),.av (.dt (.row (rowsO g))),.av (tesA C),.av (boA b),yT]) (ls:=[.inv [5,6,7,9] 2 (.out 0) (fuS ws s k v),.inv [5,6,7,9,10,11] 1 (.out 2) (coS ws s k g es j),.inv [5,6,9,12,13,14] 1 (.out 4) (goS ws s g C b j2)]) (ps:=[Puk 5 [] (boA true),Puk 6 [(.dt (.row (List.map Raw.enc l))),(inA 10)] (boA true),Puk 7 [] (.dt (.row ws)),Puk 8 [] (.dt (.row (List.map prow primL))),Puk 9 [(inA n),(inA 25)] (inA (n % 25)),IxAt (List.map prow primL) (n % 25) 2 ([(.val (str lispB)),(.val (str s))]),Puk 10 [(syA lispB s)] (.tup [(inA ↑k),(boA true)]),PureOwn Tryz.prog EX.G 11 ([AV.dt (Dt.row (List.map Raw.enc l))]++[]) 37 7 o,Tri EX (.loop (subC (bodyOf Tryz.f3) [1,1,1,1,1,1,1,0,0,0])) (fuS ws s k o) (.out 0) (fuS ws s k v),SlcOK v 7 (none.getD 0) ((some ↑k).getD ↑v.length) (rowsO g),(none:Option Int)=none∨(none:Option Int)=some ↑k,(v.length)=(v.length),Tri EX (.loop (subC (bodyOf Tryz.f3) [1,1,1,1,1,1,1,1,1,1,0,1,0,0])) (co0 ws s k g) (.out 2) (coS ws s k g es j),Puk 14 [(.dt (.row ws)),(syA lispB s),(.dt (.row es))] (.dt (.row (List.map Te.enc C))),(es.length)=(es.length),Tri EX (.loop (subC (bodyOf Tryz.f3) [1,1,1,1,1,1,1,1,1,1,1,1,1,0,1,0,0])) (goS ws s g C true 0) (.out 4) (goS ws s g C b j2),Puk 17 [(syA lispB s),(.dt (.row (List.map (fun t=>encL t.ob) g)))] (boA b),Bn .eql 4 (.tmp 88) (.tmp 91) (Value.bool b) (Value.bool b) bT]) Tryz.func3 (by kernel_rfl) (by kernel_rfl) ⟨h.f,h.a,h.w,h.ns,h.m,h.ix,h.r,h.oo,h.l1,h.sl,.inl rfl,rfl,h.l2,h.cn,rfl,h.l3,h.gd,bin_beq Tryz.underlying4 (by cases b <;> rfl),trivial⟩
theorem wd_1 {n:List UInt8} (ha:ariW worldB n=some 1) {x:Te} (h:Wd x):Wd (Te.ap n [x]):=.ap n [x] ha (by show 1≤8;omega) fun y hy=>by rw [List.mem_singleton] at hy;subst hy;exact h
theorem wd_2 {n:List UInt8} (ha:ariW worldB n=some 2) {x y:Te} (h:Wd x) (k:Wd y):Wd (Te.ap n [x,y]):=.ap n [x,y] ha (by show 2≤8;omega) fun z hz=>by
 simp only [List.mem_cons,List.not_mem_nil,or_false] at hz
 rcases hz with rfl | rfl
 ·exact h
 ·exact k
theorem wd_3 {n:List UInt8} (ha:ariW worldB n=some 3) {x y z:Te} (h:Wd x) (k:Wd y) (m:Wd z):Wd (Te.ap n [x,y,z]):=.ap n [x,y,z] ha (by show 3≤8;omega) fun u hu=>by
 simp only [List.mem_cons,List.not_mem_nil,or_false] at hu
 rcases hu with rfl | rfl | rfl
 ·exact h
 ·exact k
 ·exact m
theorem ar_names:ariW worldB gRat=some 1∧ariW worldB gSym=some 1∧ariW worldB gTxt=some 1∧ariW worldB gInt=some 1∧ariW worldB gLen=some 1∧ariW worldB conspB=some 1∧ariW worldB notB=some 1∧ariW worldB equalB=some 2∧ariW worldB gLss=some 2:=by decide +kernel
theorem wd_kT {k:Int} (h:k.natAbs < 10 ^ 4):Wd (kT k):=.con _ (int_val h)
theorem wd_car {x:Te} (h:Wd x):Wd (carC x):=wd_3 ari_if (wd_1 ar_names.2.2.2.2.2.1 h) (.con tTr Tr.valid_t) (wd_2 ar_names.2.2.2.2.2.2.2.1 h (.con nilT Tr.valid_nil))
theorem wd_one {a:Te} (h:Wd a):∀ c∈[a],Wd c:=fun c hc=>by rw [List.mem_singleton] at hc;subst hc;exact h
theorem wd_cons {a:Te} {l:List Te} (h:Wd a) (k:∀ c∈l,Wd c):∀ c∈a::l,Wd c:=fun c hc=>by
 rcases List.mem_cons.1 hc with rfl | hc
 ·exact h
 ·exact k c hc
theorem wd_map {n:List UInt8} (ha:ariW worldB n=some 1) {l:List Te} (h:∀ x∈l,Wd x):∀ c∈l.map fun x=>Te.ap n [x],Wd c:=fun c hc=>by
 obtain ⟨x,hx,rfl⟩:=List.mem_map.1 hc
 exact wd_1 ha (h x hx)
theorem wd_getD {l:List Te} {i:Nat} (hi:i < l.length) (h:∀ x∈l,Wd x):Wd (l.getD i zTe):=by
 rw [List.getD_eq_getElem?_getD,List.getElem?_eq_getElem hi]
 exact h _ (List.getElem_mem hi)
theorem cnd_wd:∀ {i:Nat} {s:List UInt8} {a:Nat} {l:List Te},primL[i]?=some (s,a)→l.length=a→(∀ x∈l,Wd x)→∀ c∈cnd i l,Wd c:=by
 intro i s a l hp ha h
 have hi:i < 25:=(List.getElem?_eq_some_iff.1 hp).1
 match i,hi with
 | 0,_=>intro c hc;cases hc
 | 1,_=>intro c hc;cases hc
 | 2,_=>intro c hc;cases hc
 | 3,_=>cases hp;exact wd_one (wd_car (wd_getD (i:=0) (by omega) h))
 | 4,_=>cases hp;exact wd_one (wd_car (wd_getD (i:=0) (by omega) h))
 | 5,_=>intro c hc;cases hc
 | 6,_=>intro c hc;cases hc
 | 7,_=>intro c hc;cases hc
 | 8,_=>intro c hc;cases hc
 | 9,_=>intro c hc;cases hc
 | 10,_=>exact wd_map ar_names.1 h
 | 11,_=>exact wd_map ar_names.1 h
 | 12,_=>exact wd_map ar_names.1 h
 | 13,_=>cases hp;exact fun c hc=>(List.mem_append.1 hc).elim (wd_map ar_names.1 h c) (wd_one (wd_1 ar_names.2.2.2.2.2.2.1 (wd_2 ar_names.2.2.2.2.2.2.2.1 (wd_getD (i:=0) (by omega) h) (wd_kT (k:=0) (by decide)))) c)
 | 14,_=>exact wd_map ar_names.1 h
 | 15,_=>exact wd_map ar_names.1 h
 | 16,_=>exact wd_map ar_names.1 h
 | 17,_=>exact wd_map ar_names.1 h
 | 18,_=>exact wd_map ar_names.2.1 h
 | 19,_=>exact wd_map ar_names.2.1 h
 | 20,_=>exact wd_map ar_names.2.2.1 h
 | 21,_=>exact wd_map ar_names.2.2.1 h
 | 22,_=>exact wd_map ar_names.2.2.1 h
 | 23,_=>cases hp;exact wd_cons (wd_1 ar_names.2.2.1 (wd_getD (i:=0) (by omega) h)) (wd_cons (wd_1 ar_names.2.2.2.1 (wd_getD (i:=1) (by omega) h)) (wd_cons (wd_1 ar_names.2.2.2.2.2.2.1 (wd_2 ar_names.2.2.2.2.2.2.2.2 (wd_getD (i:=1) (by omega) h) (wd_kT (k:=0) (by decide)))) (wd_one (wd_2 ar_names.2.2.2.2.2.2.2.2 (wd_getD (i:=1) (by omega) h) (wd_1 ar_names.2.2.2.2.1 (wd_getD (i:=0) (by omega) h))))))
 | 24,_=>cases hp;exact wd_cons (wd_1 ar_names.2.2.2.1 (wd_getD (i:=0) (by omega) h)) (wd_cons (wd_1 ar_names.2.2.2.2.2.2.1 (wd_2 ar_names.2.2.2.2.2.2.2.2 (wd_getD (i:=0) (by omega) h) (wd_kT (k:=0) (by decide)))) (wd_one (wd_2 ar_names.2.2.2.2.2.2.2.2 (wd_getD (i:=0) (by omega) h) (wd_kT (k:=256) (by decide)))))
theorem p_rT50 {c:Te} {v:Tr} (hw:Wd c) (h:Es [] c v 5):∃ m:Int,Puk 15 [.dt (.row wrows),teA c,.dt (.row []),inA 50] (.tup [trA v,inA m,inA 0]):=by
 obtain ⟨l',h1,h2⟩:=h 50 50 (by omega) (Nat.le_refl _)
 have k:=p_rEv wok 50 [] c hw (fun x hx=>by cases hx) (Nat.zero_le _) 50 (Nat.le_refl _) (by decide)
 have hle:=ev_le worldB 50 [] c 50
 rw [h2] at k hle
 exact ⟨_,w_rTm1 (s:=50) hle (by decide) k⟩
theorem go_loop {s:List UInt8} {g:List Tr} {C:List Te} (hl:C.length≤1000) (hw:∀ c∈C,Wd c):∀ (q:List Te) (bs:List Bool) (i:Nat) (b:Bool),C.drop i=q→i≤C.length→CVs [] 5 q bs→Lps EX goB (goS wrows s g C b i) (.out 4) (goS wrows s g C (b && bs.all id) C.length):=by
 intro q
 induction q with
 | nil =>
  intro bs i b hd hi hb
  have e1:=congrArg List.length hd
  rw [List.length_drop,List.length_nil] at e1
  obtain rfl:i=C.length:=by omega
  cases bs with
  | nil=>rw [show (b && ([]:List Bool).all id)=b from Bool.and_true b];exact .stop (goB3 rfl) (fun h=>by cases h)
  | cons _ _=>exact hb.elim
 | cons c q ih =>
  intro bs i b hd hi hb
  have hx:C[i]?=some c:=by rw [← List.head?_drop,hd];rfl
  have hlt:=(List.getElem?_eq_some_iff.1 hx).1
  cases bs with
  | nil=>exact hb.elim
  | cons d bs =>
   obtain ⟨⟨v,hv,he,hn⟩,hb⟩:=hb
   obtain ⟨m,hT⟩:=p_rT50 (hw c (List.mem_of_getElem? hx)) he
   have hN:=p_rIsNil7 (Tr.valid_arg hv).ok (by decide)
   rw [hn] at hN
   have k:=ih bs (i+1) (b && d) (by rw [← List.drop_drop,hd];rfl) hlt hb
   rw [List.all_cons,show (b && (id d && bs.all id))=(b && d && bs.all id) from (Bool.and_assoc b d _).symm]
   cases b with
   | true =>
    have st:=goB1 (ws:=wrows) (s:=s) (g:=g) hx hl hT hN
    rw [Bool.not_not] at st
    rw [Bool.true_and] at k ⊢
    exact .more st k
   | false =>
    rw [Bool.false_and] at k ⊢
    exact .more (goB2 hx hl hT) k
theorem ix_prm (n:Int):IxAt (primL.map prow) (n % 25) 2 [.val (str lispB),.val (str (pickN n).1)]:=⟨by omega,by rw [List.getElem?_map,pick_get];rfl,rfl⟩
theorem fewAll_fit {l:List Raw} (h:fewAllR l 10=true):l.length≤8∧∀ r∈l,FitS r:=by
 unfold fewAllR at h
 simp only [Bool.and_eq_true,decide_eq_true_eq,List.all_eq_true] at h
 exact ⟨h.1,fun r hr=>fewR_fitS (m:=10) (by decide) (by decide) (h.2 r hr)⟩
theorem slc_take {v:List Tr} {k:Nat} (hk:k≤v.length):SlcOK (rowsO v) 7 ((none:Option Int).getD 0) ((some (k:Int)).getD ((rowsO v).length:Int)) (rowsO (v.take k)) :=
 ⟨Int.le_refl _,by show (0:Int)≤(k:Int);omega,by show (k:Int)≤_;rw [rowsO_len];omega,by
  show _=List.drop 0 (List.take ((k:Int)).toNat _)
  rw [Int.toNat_natCast,List.drop_zero,← List.map_take],.inl rfl⟩
theorem mean14 {n:Int} {l:List Raw}:Puk 3 [inA n,rawsA l] (boA true):=by
 have hF:=p_FewAll l 10
 cases hf:fewAllR l 10 with
 | false=>rw [hf] at hF;exact w_gm0 p_first14 hF
 | true =>
  rw [hf] at hF
  obtain ⟨h8,hfit⟩:=fewAll_fit hf
  have hp:=pick_get n
  cases hq:pickN n with
  | mk s k =>
  rw [hq] at hp
  have hk3:k≤3:=pix_len _ (List.mem_of_getElem? hp)
  have hix:=ix_prm n
  rw [hq] at hix
  let V:=l.map mkT++List.replicate (k - (l.map mkT).length) oneT
  have hV:k≤V.length:=by show k≤(l.map mkT++List.replicate (k - (l.map mkT).length) oneT).length;rw [List.length_append,List.length_replicate];omega
  have hVv:∀ x∈V,x.valid=true:=fun x hx=>by
   rcases List.mem_append.1 hx with hx | hx
   ·obtain ⟨r,hr,rfl⟩:=List.mem_map.1 hx
    exact mkT_val (hfit r hr)
   ·rw [(List.mem_replicate.1 hx).2]
    exact int_val (n:=1) (by decide)
  have hg:(V.take k).length=k:=by rw [List.length_take];omega
  have hgv:∀ x∈V.take k,x.valid=true:=fun x hx=>hVv x (List.mem_of_mem_take hx)
  have h1:=(fu_loop (ws:=wrows) (s:=s) (k:=k) (by omega) _ (l.map mkT) rfl).tri
  have h2:Tri EX (.loop coB) (co0 wrows s k (V.take k)) (.out 2) (coS wrows s k (V.take k) (((V.take k).map fun x=>con x.ob).map Te.enc) k):=by
   have:=(co_loop (ws:=wrows) (s:=s) (g:=V.take k) (by omega) (V.take k) 0 [] rfl (Nat.zero_le _) rfl).tri
   rw [hg] at this
   exact Tri.own0 10 41 11 (by show 10 < 93;omega) rfl this
  obtain ⟨bs,hb1,hb2⟩:=cnd_gd (env:=[]) (k:=0) hp (VS.con [] 0 (V.take k)) hgv (by rw [List.length_map];exact hg)
  have h25:∀ x∈primL,(pix primL 0 x.1).map (·.2)=some x.2:=by decide +kernel
  have hpx:=h25 _ (List.mem_of_getElem? hp)
  rw [Option.map_eq_some_iff] at hpx
  obtain ⟨⟨i0,k0⟩,hi0,hk0⟩:=hpx
  have hk0:k0=k:=hk0
  rw [hk0] at hi0
  have hcl:((V.take k).map fun x=>con x.ob).length=k:=by rw [List.length_map];exact hg
  have hC:=p_gCond (ws:=wrows) hp (GOK.gc hi0) hcl
  have hwd:=cnd_wd hp hcl (fun x hx=>by obtain ⟨y,hy,rfl⟩:=List.mem_map.1 hx;exact .con y (hgv y hy))
  have h3:=(go_loop (s:=s) (g:=V.take k) (Nat.le_trans (cnd_len _ _ (by omega)) (by decide)) hwd _ bs 0 true rfl (Nat.zero_le _) hb1).tri
  rw [Bool.true_and,hb2] at h3
  exact w_gm1 ⟨p_first14,hF,p_World,p_rNames,p_mod n 25 (by decide) (by decide),hix,p_rAri hp,p_ObjN h8 (fun x hx=>(hfit x hx).1),h1,slc_take hV,h2,hC,h3,p_rGd hp hgv hg⟩
theorem mean14_any (W:World) (hG:Gx W) (n:Int) (_:-9223372036854775808≤n) (_:n≤9223372036854775807) (l:List Raw) (_:∀ s∈l,s.Wf) (A:Option Addr) (m c:Nat) (_:m≤9223372036854775807) (hr:Rd (fun _=>True) W (.slice A m c) (.row (l.map Raw.enc))):Says 3 #[.int .i64 n,.slice A m c] W :=
 mean14.law (ok:=fun _=>True) hG ⟨_,_,rfl,.val _,_,[],rfl,hr,rfl⟩
end Go.Proofs.YthhknjlmjefklaaGreatDoor
