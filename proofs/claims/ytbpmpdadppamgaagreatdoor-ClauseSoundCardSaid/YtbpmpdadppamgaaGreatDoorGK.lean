/- Plain walks, second form: every operation decoded, and that the machine does the same. -/
import Derived.Test.YtbpmpdadppamgaaGreatDoorGJ
import Derived.Lib.SliceRun
import Derived.Test.YtbpmpdadppamgaaGreatDoorGH
set_option maxRecDepth 100000
set_option maxHeartbeats 4000000
namespace Go.Proofs.YtbpmpdadppamgaaGreatDoor
open Go.RowKit
inductive An where
 |no
 |av (a:AV)
def F6:List An→An×List An
 |[]=>(.no,[])
 |a::r=>(a,r)
def uA:List AV→Option (List Value)
 |[]=>some []
 |.dt (.val v)::cs=>match uA cs with
  |some vs=>some (v::vs)
  |none=>none
 |_::_=>none
def AV.sv:AV→Option Value
 |.dt (.val v)=>some v
 |.nil=>some (.slice none 0 0)
 |.agg cs=>match uA cs with
  |some vs=>some (.agg vs.toArray)
  |none=>none
 |_=>none
theorem RL.uA{M:Mm}{w:World}:∀{cs:List AV} {vs us:List Value},RL M w cs vs→uA cs=some us→vs=us
 |[],_,_,h,hs=>by cases hs;exact h
 |c::cs,_,us,⟨u,Gf,h1,h2,h3⟩,hs=>by
  unfold Go.Proofs.YtbpmpdadppamgaaGreatDoor.uA at hs;split at hs
  ·cases ‹_::_=[]›
  ·rename_i v cs' heq;cases heq;have h2':u=v:=Rd.Q7 h2;split at hs
   ·rename_i ys hc;cases hs;rw[h1,h2',RL.uA h3 hc]
   ·cases hs
  ·cases hs
theorem RV.sv{M:Mm}{w:World}{a:AV}{v u:Value}(h:RV M w a v)(hs:a.sv=some u):v=u:=by
 unfold AV.sv at hs;split at hs
 ·cases hs;exact Rd.Q7 h
 ·cases hs;exact h
 ·split at hs
  ·rename_i cs vs hc;cases hs;obtain⟨us,rfl,hl⟩:=h;rw[hl.uA hc]
  ·cases hs
 ·cases hs
def bg(P:Program)(op:BinOp)(t:TypeId)(x y:Operand)(vx vy r:Value):Prop :=
 ∀w,Sem.run P (do eqGuard op t x y vx vy;binOp op t vx vy) w=.ok r w
def je:BinOp→Value→Value→Option Value
 |.add,.int k a,.int k' b=>match decide (k=k') with | true=>some (.int k (k.wrap (a+b))) | false=>none
 |.sub,.int k a,.int k' b=>match decide (k=k') with | true=>some (.int k (k.wrap (a - b))) | false=>none
 |.mul,.int k a,.int k' b=>match decide (k=k') with | true=>some (.int k (k.wrap (a * b))) | false=>none
 |.eql,.int k a,.int k' b=>match decide (k=k') with | true=>some (.bool (a == b)) | false=>none
 |.neq,.int k a,.int k' b=>match decide (k=k') with | true=>some (.bool (a != b)) | false=>none
 |.lss,.int k a,.int k' b=>match decide (k=k') with | true=>some (.bool (decide (a < b))) | false=>none
 |.leq,.int k a,.int k' b=>match decide (k=k') with | true=>some (.bool (decide (a≤b))) | false=>none
 |.gtr,.int k a,.int k' b=>match decide (k=k') with | true=>some (.bool (decide (a > b))) | false=>none
 |.geq,.int k a,.int k' b=>match decide (k=k') with | true=>some (.bool (decide (a ≥ b))) | false=>none
 |.and,.int k a,.int k' b=>match decide (k=k') with | true=>some (.int k (k.wrap (BitVec.ofInt k.bits a &&& BitVec.ofInt k.bits b).toNat)) | false=>none
 |.or,.int k a,.int k' b=>match decide (k=k') with | true=>some (.int k (k.wrap (BitVec.ofInt k.bits a ||| BitVec.ofInt k.bits b).toNat)) | false=>none
 |.eql,.string a,.string b=>some (.bool (a.data.toList == b.data.toList))
 |.neq,.string a,.string b=>some (.bool !(a.data.toList == b.data.toList))
 |.lss,.string a,.string b=>some (.bool (Op.bytesLess a.data.toList b.data.toList))
 |_,_,_=>none
theorem iT{P:Program}{op:BinOp}{t:TypeId}{x y:Operand}{vx vy r:Value}(h:je op vx vy=some r):bg P op t x y vx vy r:=by
  intro w;unfold je at h;split at h <;> try (split at h)
  all_goals first
    | (cases h;done)
    | (rename_i hk
       have e:=bv hk;subst e;cases h;simp[eqGuard,binOp,Op.intArith,Op.intCmp,Op.intBits]
       done)
    | (cases h
       simp only[←ZaO];rfl)
theorem II(s:ByteArray)(i:Nat):s[i]?=s.data.toList[i]?:=by
 rw[Array.getElem?_toList];by_cases h:i < s.size
 ·have h':i < s.data.size:=h;rw[getElem?_pos s i h,Array.getElem?_eq_getElem h'];rfl
 ·have h':¬i < s.data.size:=h;rw[getElem?_neg s i h,Zax J]
def Oj:UnOp→Value→Option Value
 |.not,.bool b=>some (.bool !b)
 |.neg,.int k n=>some (.int k (k.wrap (0 - n)))
 |.xor,.int k n=>some (.int k (k.wrap (BitVec.ofInt k.bits (if k.signed then -1 else k.max) ^^^ BitVec.ofInt k.bits n).toNat))
 |_,_=>none
theorem a94{P:Program}{op:UnOp}{v r:Value}(h:Oj op v=some r)(w:World):(Op.unary op v).run P w=.ok r w:=by
 unfold Oj at h;split at h <;> first | (cases h;rfl) | cases h
theorem a7o{P:Program}{t:TypeId}{x y:Operand}{a b:ByteArray}(h:((a.size+b.size:Nat):Int)≤IntKind.i64.max):bg P .add t x y (.string a) (.string b) (.string (a++b)):=by
 intro w;have h':¬((a.size+b.size:Nat):Int) > IntKind.i64.max:=J;simp only[eqGuard,binOp,Op.stringOp,EQ h'];rfl
def zC(place:Nat→Option (Nat×Nat)):List AV→List (Nat×AV)→Option (List AV)
 |cs,[]=>some cs
 |cs,(i,v)::rest=>match place i with
  |none=>none
  |some (off,size)=>match Nat.beq v.cells.length size && Nat.ble (off+v.cells.length) cs.length && v.cells.all AV.one with
   |true=>zC place (cs.take off++v.cells++cs.drop (off+v.cells.length)) rest
   |false=>none
theorem RF(off:Nat):∀(us:List Value) (k:Nat) (vs:List Value),off+k+us.length≤vs.length →
  (us.zipIdx k).foldl (fun (cs:Array Value) (x:Value×Nat)=>cs.setIfInBounds (off+x.2) x.1) vs.toArray=(vs.take (off+k)++us++vs.drop (off+k+us.length)).toArray
 |[],k,vs,h=>I
 |u::us,k,vs,h=>by
  rw[yM]at h;rw[List.zipIdx_cons,List.foldl_cons];have e:(vs.toArray.setIfInBounds (off+k) u)=(vs.set (off+k) u).toArray:=I;simp only[e];rw[RF off us (k+1) (vs.set (off+k) u) (by simp;omega)];congr 1;have h1:(vs.set (off+k) u).take (off+(k+1))=vs.take (off+k)++[u]:=by
   rw[List.set_eq_take_append_cons_drop,Ch J,List.take_append,Za2 (by simp;omega)];simp[List.length_take];rw[show off+(k+1) - min (off+k) vs.length=1 by omega]
   rfl
  have h2:(vs.set (off+k) u).drop (off+(k+1)+us.length)=vs.drop (off+k+(us.length+1)):=by
   rw[List.drop_set,Ch J];congr 1;omega
  rw[h1,h2,yM];simp
def RP(M:Mm)(w:World):List (Nat×AV)→List (Nat×Value)→Prop
 |[],ps=>ps=[]
 | (i,a)::qs,ps=>∃v vs,ps=(i,v)::vs∧RV M w a v∧RP M w qs vs
theorem RP.map{M:Mm}{w:World}{ρ:Operand→AV}{ε:Operand→Value}(h:∀x,RV M w (ρ x) (ε x)):∀xs:List (Nat×Operand),RP M w (xs.map fun x=>(x.1,ρ x.2)) (xs.map fun x=>(x.1,ε x.2))
 |[]=>rfl
 |x::xs=>⟨_,_,rfl,h x.2,RP.map h xs⟩
theorem JC{M:Mm}{w:World}{place:Nat→Option (Nat×Nat)}:∀{qs:List (Nat×AV)} {ps:List (Nat×Value)} {cs cs':List AV} {vs:List Value},RP M w qs ps→RL M w cs vs→zC place cs qs=some cs'→∃vs',Instr.fill place vs.toArray ps=some vs'.toArray∧RL M w cs' vs'
 |[],ps,cs,cs',vs,hp,hl,h=>by
  cases h;rw[show ps=[] from hp]
  exact⟨vs,rfl,hl⟩
 | (i,a)::qs,_,cs,cs',vs,⟨v,rest,hp,hv,hr⟩,hl,h=>by
  subst hp;unfold zC at h;unfold Instr.fill;cases hpl:place i with
  |none=>rw[hpl]at h;cases h
  |some x =>
   obtain⟨off,size⟩:=x;rw[hpl]at h;simp only at h ⊢;cases hc:(Nat.beq a.cells.length size && Nat.ble (off+a.cells.length) cs.length && a.cells.all AV.one) with
   |false=>rw[hc]at h;cases h
   |true =>
    rw[hc]at h;simp only at h;simp only[Ce]at hc;have h1:=Zae hc.1.1;have h2:=Zap hc.1.2;obtain⟨us,hu1,hu2⟩:=hv.cells hc.2;have xH:=hu2.len;have hvl:=hl.len;have e1:(v.cells.size≠size || decide (off+v.cells.size > vs.toArray.size))=false:=by
     rw[hu1];simp;omega
    have e2:v.cells.zipIdx.foldl (fun cs (x:Value×Nat)=>cs.setIfInBounds (off+x.2) x.1) vs.toArray=(vs.take off++us++vs.drop (off+us.length)).toArray:=by
     have:=RF off us 0 vs J;rw[hu1];simp only[Nat.add_zero]at this;rw[←this,←Array.foldl_toList];simp
    rw[EQ (by rw[e1];simp),e2];refine JC hr (((hl.take off).append hu2).append (hl.drop (off+us.length))) ?_;rw[xH];exact h
def Fa(P:Program)(t:TypeId)(f:Nat):Option (Nat×TypeId):=match P.underlying t with
 |some (.struct fs)=>match fs[f]? with
  |some fl=>some (fl.offset,fl.type)
  |none=>none
 |_=>none
def Dx(P:Program):List Field→Option (List (Nat×Nat))
 |[]=>some []
 |f::fs=>match P.info? f.type,Dx P fs with
  |some i,some r=>some ((f.offset,i.size)::r)
  |_,_=>none
def Ez(P:Program)(t:TypeId):Option (List AV):=match P.info? t with
 |some i=>match i.zero with
  |some z=>some (z.cells.toList.map nX)
  |none=>none
 |none=>none
def KG(P:Program)(t:TypeId)(ps:List (Nat×AV)):Option (List AV):=match Ez P t,P.underlying t with
 |some z,some (.struct fs)=>match Dx P fs.toList with
  |some pl=>zC (pl.toArray[·]?) z ps
  |none=>none
 |_,_=>none
def wJ(P:Program)(t:TypeId):Option (TypeId×TypeInfo×Value):=match P.underlying t with
 |some (.slice e)=>match P.info? e with
  |some i=>match i.zero with
   |some z=>some (e,i,z)
   |none=>none
  |none=>none
 |_=>none
def Ah(P:Program)(t:TypeId):Option (TypeId×Value):=match P.underlying t with
 |some (.map k e)=>match P.info? e with
  |some i=>match i.zero with
   |some z=>some (k,z)
   |none=>none
  |none=>none
 |_=>none
def intOf:AV→Option Int
 |.dt (.val (.int _ n))=>some n
 |_=>none
def ql(ρ:Operand→AV):Option Operand→Option (Option Int)
 |none=>some none
 |some x=>match intOf (ρ x) with
  |some n=>some (some n)
  |none=>none
def b5g(G:World→Prop)(g off:Nat)(r:Value):Prop:=∀w,G w→w.cell? ⟨g,off,none⟩=some r
def b5h(n:Int)(len:Nat):Prop:=0≤n∧n < len∧2≤len
def KH(E:En)(n:Nat)(ag:Bool)(x:AV)(an:List An):Option (I1×List An):=match x with
 |.ptr b off=>some (.load b off n ag,an)
 |.df b i k=>match Nat.beq n k,F6 an with
  |true,(.av (.pin cs),an)=>match cz cs with
   |some ds=>some (.wF b i k ds ag,an)
   |none=>none
  |_,_=>none
 |.pin cs=>match rowAt cs 0 n ag with
  |some r=>some (.val r,an)
  |none=>none
 |.gl g off=>match ag with
  |true=>none
  |false=>match F6 an with
   | (.av (.dt (.val r)),an)=>some (.prop (.dt (.val r)) [b5g E.G g off r],an)
   | (_,an)=>match E.T g off with
    |some r=>some (.val (.dt (.val r)),an)
    |none=>none
 |_=>none
def Me(sz:Nat)(x:AV)(i:Int)(an:List An):Option (I1×List An):=match x,F6 an with
 |.sl b n,(.no,an)=>match decide (0≤i) && decide (i < n) with
  |true=>some (.val (.df b i.toNat sz),an)
  |false=>none
 |.sl b n,(.av .un,an)=>some (.prop (.df b i.toNat sz) [0≤i∧i < n],an)
 |x,(.av (.pin cs),an)=>match cz cs with
  |some ds=>some (.idx x i sz (some ds),an)
  |none=>none
 |x,(.no,an)=>some (.idx x i sz none,an)
 |_,_=>none
def Xu(E:En)(op:BinOp)(t:TypeId)(x y:Operand)(vx vy:Value)(an:List An):Option (I1×List An):=match F6 an with
 | (.no,an)=>match je op vx vy with
  |some r=>some (.val (.dt (.val r)),an)
  |none=>none
 | (.av (.dt (.val r)),an)=>some (.prop (.dt (.val r)) [bg E.P op t x y vx vy r],an)
 |_=>none
def Xv(n:Nat)(an:List An):Option (I1×List An):=match F6 an with
 | (.av (.dt (.val r)),an)=>some (.prop (.dt (.val r)) [r=.int .i64 n],an)
 | (_,an)=>some (.val (.dt (.val (.int .i64 n))),an)
def lenOf:AV→Option Nat
 |.dt (.row es)=>some es.length
 |.ax es=>some es.length
 |.nil=>some 0
 |.own _ n=>some n
 |.sl _ n=>some n
 |.dt (.val (.string s))=>some s.data.toList.length
 |_=>none
def isStr(P:Program)(t:TypeId):Option Bool:=match P.underlying t with
 |some .string=>some true
 |some (.slice _)=>some false
 |_=>none
def AV.Ol:AV→Bool
 |.dt (.val (.string _))=>true
 |_=>false
def zh(E:En)(ρ:Operand→AV)(c:Call)(an:List An):Option (I1×List An):=match c with
 |⟨.value x,args,_⟩=>match ρ x,F6 an with
  |.dm f aZ,(.av r,an)=>some (.call f (args.toList.map ρ++aZ) [] r,an)
  |.au f aZ,(.av r,an)=>some (.call f (args.toList.map ρ) aZ r,an)
  |_,_=>none
 |⟨.builtin .len,⟨[x]⟩,⟨t::_⟩⟩=>match isStr E.P t,lenOf (ρ x) with
  |some s,some n=>match s == (ρ x).Ol with
   |true=>Xv n an
   |false=>none
  |_,_=>none
 |⟨.builtin .max,⟨[x,y]⟩,_⟩=>match ρ x,ρ y,F6 an with
  |.dt (.val (.int k p)),.dt (.val (.int _ q)),(.av (.dt (.val r)),an)=>some (.prop (.dt (.val r)) [r=.int k (if q > p then q else p)],an)
  |.dt (.val (.int k p)),.dt (.val (.int _ q)),(_,an)=>some (.val (.dt (.val (.int k (if q > p then q else p)))),an)
  |_,_,_=>none
 |⟨.builtin .min,⟨[x,y]⟩,_⟩=>match ρ x,ρ y,F6 an with
  |.dt (.val (.int k p)),.dt (.val (.int _ q)),(.av (.dt (.val r)),an)=>some (.prop (.dt (.val r)) [r=.int k (if q < p then q else p)],an)
  |.dt (.val (.int k p)),.dt (.val (.int _ q)),(_,an)=>some (.val (.dt (.val (.int k (if q < p then q else p)))),an)
  |_,_,_=>none
 |⟨.builtin .append,⟨[s,x]⟩,⟨[t,t']⟩⟩=>match wJ E.P t,wJ E.P t' with
  |some (e,i,z),some _=>match Nat.beq z.cells.size i.size && Nat.ble 1 i.size with
   |true=>match F6 an with
    | (.no,an)=>some (.app e i.size i.bytes (ρ s) (ρ x) true,an)
    | (_,an)=>some (.app e i.size i.bytes (ρ s) (ρ x) false,an)
   |false=>none
  |_,_=>none
 |_=>none
def aG(E:En)(op:Op)(ρ:Operand→AV)(an:List An):Option (I1×List An):=match op with
 |.move x=>some (.val (ρ x),an)
 |.assign x=>some (.val (ρ x),an)
 |.nilCheck x=>match ρ x with
  |.ptr b o=>some (.val (.ptr b o),an)
  |.pin cs=>some (.val (.pin cs),an)
  |_=>none
 |.pick c x y=>match ρ c with
  |.dt (.val (.bool t))=>some (.val (match t with | true=>ρ x | false=>ρ y),an)
  |_=>none
 |.alloc t=>match Ez E.P t with
  |some z=>some (.alloc t z,an)
  |none=>none
 |.box t x=>some (.alloc t (ρ x).cells,an)
 |.load t x=>match cu E.P t,lg E.P t with
  |some n,some ag=>KH E n ag (ρ x) an
  |_,_=>none
 |.store t x y=>match cu E.P t,ρ x with
  |some n,.ptr b off=>match Nat.beq n (ρ y).cells.length with
   |true=>some (.store b off (ρ y).cells,an)
   |false=>none
  |some n,.df b i k=>match Nat.beq n k with
   |true=>some (.sG b i k (ρ y).cells,an)
   |false=>none
  |_,_=>none
 |.build t ps=>match KG E.P t (ps.toList.map fun x=>(x.1,ρ x.2)) with
  |some cs=>some (.val (.agg cs),an)
  |none=>none
 |.buildSlice t len ps=>match wJ E.P t with
  |some (e,i,z)=>match !Nat.beq (len * i.size) 0 && Nat.ble (len * i.size) 100000 with
   |true=>match zC (fun j=>some (j * i.size,i.size)) ((List.range (len * i.size)).map fun j=>nX (z.cells[j % z.cells.size]!)) (ps.toList.map fun x=>(x.1,ρ x.2)) with
    |some cs=>some (.mk e i.size len cs,an)
    |none=>none
   |false=>match len,ps.toList with
    |0,[]=>some (.um e i.size 0 0,an)
    |_,_=>none
  |none=>none
 |.fieldAddr t x f=>match Fa E.P t f with
  |some (off,ft)=>match cu E.P ft with
   |some (_+1)=>match ρ x with
    |.ptr b o=>some (.val (.ptr b (o+off)),an)
    |.pin cs=>some (.val (.pin (cs.drop off)),an)
    |_=>none
   |_=>none
  |none=>none
 |.field t x f=>match Fa E.P t f with
  |some (off,ft)=>match cu E.P ft,lg E.P ft,ρ x with
   |some n,some true,.agg cs=>some (.val (.agg ((cs.drop off).take n)),an)
   |some _,some false,.agg cs=>match cs[off]? with
    |some c=>some (.val c,an)
    |none=>none
   |_,_,_=>none
  |none=>none
 |.indexAddr t x i=>match E.P.underlying t,intOf (ρ i) with
  |some (.slice e),some n=>match E.P.info? e with
   |some ie=>Me ie.size (ρ x) n an
   |none=>none
  |some (.array len e),some n=>match cu E.P e,ρ x,F6 an with
   |some sz,.gl g 0,(.av .un,an)=>some (.prop (.gl g (n.toNat * sz)) [b5h n len],an)
   |some sz,.gl g 0,(.no,an)=>match decide (0≤n) && decide (n < len) && Nat.ble 2 len with
    |true=>some (.val (.gl g (n.toNat * sz)),an)
    |false=>none
   |_,_,_=>none
  |_,_=>none
 |.index t x i=>match E.P.underlying t,ρ x,intOf (ρ i) with
  |some .string,.dt (.val (.string s)),some n=>match F6 an with
   | (.av (.dt (.val r)),an)=>some (.prop (.dt (.val r)) [gP s n r],an)
   | (_,an)=>match decide (0≤n),s.data.toList[n.toNat]? with
    |true,some b=>some (.val (.dt (.val (.int .u8 b.toNat))),an)
    |_,_=>none
  |_,_,_=>none
 |.binOp op t x y _=>match (ρ x).sv,(ρ y).sv with
  |some vx,some vy=>Xu E op t x y vx vy an
  |none,some (.slice none 0 0)=>match op,E.P.underlying t,ρ x,F6 an with
   |.eql,some (.slice _),.dt (.row es),(_,an)=>some (.prop (.dt (.val (.bool false))) [es≠[]],an)
   |_,_,_,_=>none
  |_,_=>none
 |.unOp op _ x=>match (ρ x).sv with
  |some v=>match Oj op v with
   |some r=>some (.val (.dt (.val r)),an)
   |none=>none
  |none=>none
 |.extract x i=>match ρ x with
  |.l7 cs=>match cs[i]? with
   |some c=>some (.val c,an)
   |none=>none
  |_=>none
 |.convert src dst x=>match E.P.underlying src,E.P.underlying dst,(ρ x).sv with
  |some (.int _),some (.int k),some (.int _ n)=>match F6 an with
   | (.av (.dt (.val r)),an)=>some (.prop (.dt (.val r)) [r=.int k (k.wrap n)],an)
   | (_,an)=>some (.val (.dt (.val (.int k (k.wrap n)))),an)
  |some (.slice e),some .string,none=>match E.P.underlying e,F6 an with
   |some (.int .u8),(.av (.dt (.val (.string ⟨⟨l⟩⟩))),an)=>some (.uq (ρ x) l,an)
   |_,_=>none
  |_,_,_=>none
 |.makeFunc (.func f) ⟨[]⟩ aZ=>some (.val (.dm f (aZ.toList.map ρ)),an)
 |.makeMap _ none=>match F6 an with
  | (.av (.Q5 _),ay)=>some (.wG,ay)
  |_=>some (.wW,an)
 |.insert t m x y=>match Ah E.P t,ρ m,(ρ x).sv with
  |some (kt,_),.Q5 b,some key=>some (.ins b kt key (ρ y),an)
  |_,_,_=>none
 |.lookup t m x ok=>match Ah E.P t,ρ m,(ρ x).sv,F6 an with
  |some (kt,_),.Q5 b,some key,(.av (.l7 [.dt (.val (.int _ i)),v]),an)=>some (.wH b kt key ok i.toNat v,an)
  |some (kt,z),.Q5 b,some key,(.av (.dt (.val (.int _ i))),an)=>some (.look b kt key (uz z) ok (some i.toNat),an)
  |some (kt,z),.Q5 b,some key,(_,an)=>some (.look b kt key (uz z) ok none,an)
  |_,_,_,_=>none
 |.makeSlice t x y=>match wJ E.P t,intOf (ρ x),intOf (ρ y),F6 an with
  |some (e,i,z),some l,some c,(.av (.sl _ n),an)=>match Nat.beq z.cells.size i.size && z.cells.toList.all Value.oneCell' && Nat.ble 1 i.size with
   |true=>some (.uo e i.size i.bytes n (z.cells.toList.map wZ) l c,an)
   |false=>none
  |some (e,i,_),some (.ofNat 0),some c,(_,an)=>some (.um e i.size i.bytes c,an)
  |some (e,i,z),some (.ofNat (n+1)),some c,(_,an)=>match Nat.beq z.cells.size i.size && z.cells.toList.all Value.oneCell' && Nat.ble 1 i.size with
   |true=>some (.uo e i.size i.bytes (n+1) (z.cells.toList.map wZ) (.ofNat (n+1)) c,an)
   |false=>none
  |_,_,_,_=>none
 |.slice t x lo hi mx=>match E.P.underlying t,ql ρ lo,ql ρ hi,ql ρ mx with
  |some (.slice e),some l,some h,some m=>match cu E.P e,F6 an with
   |some sz,(.av (.dt (.row rs)),an)=>some (.qO (ρ x) sz l h m (some rs),an)
   |some sz,(_,an)=>some (.qO (ρ x) sz l h m none,an)
   |_,_=>none
  |some .string,some l,some h,some none=>match ρ x,F6 an with
   |.dt (.val (.string s)),(.av (.dt (.val r)),an)=>some (.prop (.dt (.val r)) [wV s (l.getD 0) (h.getD s.size) r],an)
   |.dt (.val (.string s)),(_,an)=>match decide (0≤l.getD 0) && decide (l.getD 0≤h.getD s.size) && decide (h.getD s.size≤s.size) with
    |true=>some (.val (.dt (.val (str ((s.data.toList.drop (l.getD 0).toNat).take ((h.getD s.size).toNat - (l.getD 0).toNat))))),an)
    |false=>none
   |_,_=>none
  |_,_,_,_=>none
 |.call c=>zh E ρ c an
 |.mapUpdate t m x y=>match Ah E.P t,ρ m,(ρ x).sv with
  |some (kt,_),.Q5 b,some key=>some (.ins b kt key (ρ y),an)
  |_,_,_=>none
 |_=>none
theorem RG{P:Program}{t:TypeId}{f off:Nat}{ft:TypeId}(h:Fa P t f=some (off,ft)):∃fs fl,P.underlying t=some (.struct fs)∧fs[f]?=some fl∧fl.offset=off∧fl.type=ft:=by
 unfold Fa at h;split at h
 ·rename_i fs hu;split at h
  ·rename_i fl hf;cases h;exact⟨fs,fl,hu,hf,rfl,rfl⟩
  ·cases h
 ·cases h
theorem Qb{P:Program}:∀{fs:List Field} {pl:List (Nat×Nat)},Dx P fs=some pl→fs.mapM (fun f=>(P.info? f.type).map fun i=>(f.offset,i.size))=some pl
 |[],_,h=>by cases h;rfl
 |f::fs,pl,h=>by
  unfold Dx at h;split at h
  ·rename_i i r h1 h2;cases h;simp[List.mapM_cons,h1,Qb h2]
  ·cases h
theorem QK{P:Program}{t:TypeId}{z:List AV}(h:Ez P t=some z):∃i v,P.info? t=some i∧i.zero=some v∧z=v.cells.toList.map nX:=by
 unfold Ez at h;split at h
 ·rename_i i hi;split at h
  ·rename_i v hv;cases h;exact⟨i,v,hi,hv,rfl⟩
  ·cases h
 ·cases h
theorem a3m{P:Program}{M:Mm}{w:World}{t:TypeId}{qs:List (Nat×AV)}{ps:List (Nat×Value)}{cs:List AV}(hp:RP M w qs ps)(h:KG P t qs=some cs):∃vs:List Value,P.built t ps=some vs.toArray∧RL M w cs vs:=by
 unfold KG at h;split at h
 ·rename_i z fs hz hu;split at h
  ·rename_i pl hpl;obtain⟨i,v,hi,hv,rfl⟩:=QK hz;obtain⟨vs,h1,h2⟩:=JC hp (yP M w v.cells.toList) h;refine⟨vs,?_,h2⟩;unfold Program.built;rw[hi,hu];simp only;rw[hv,Qb hpl];simpa using h1
  ·cases h
 ·cases h
theorem rU{P:Program}{t e:TypeId}{i:TypeInfo}{z:Value}(h:wJ P t=some (e,i,z)):P.underlying t=some (.slice e)∧P.info? e=some i∧i.zero=some z:=by
 unfold wJ at h;split at h
 ·rename_i e' hu;split at h
  ·rename_i i hi;split at h
   ·rename_i z' hz;cases h;exact⟨hu,hi,hz⟩
   ·cases h
  ·cases h
 ·cases h
theorem yD{P:Program}{t k:TypeId}{z:Value}(h:Ah P t=some (k,z)):∃e i,P.underlying t=some (.map k e)∧P.info? e=some i∧i.zero=some z:=by
 unfold Ah at h;split at h
 ·rename_i k' e' hu;split at h
  ·rename_i i hi;split at h
   ·rename_i z' hz;cases h;exact⟨e',i,hu,hi,hz⟩
   ·cases h
  ·cases h
 ·cases h
theorem lH{M:Mm}{w:World}{a:AV}{n:Int}(h:intOf a=some n){v:Value}(hr:RV M w a v):∃k,v=.int k n:=by
 unfold intOf at h;split at h
 ·cases h;exact⟨_,Rd.Q7 hr⟩
 ·cases h
theorem ny{M:Mm}{w:World}{ρ:Operand→AV}{ε:Operand→Value}(hr:∀x,RV M w (ρ x) (ε x)){x:Option Operand}{n:Option Int}(h:ql ρ x=some n):(x=none∧n=none)∨∃y k z,x=some y∧ε y=.int k z∧n=some z:=by
 unfold ql at h;split at h
 ·cases h;exact .inl ⟨rfl,rfl⟩
 ·rename_i y;split at h
  ·rename_i z hz;cases h;obtain⟨k,hk⟩:=lH hz (hr y);exact .inr ⟨y,k,z,rfl,hk,rfl⟩
  ·cases h
theorem a4G{_P:Program}{M:Mm}{w:World}{a:AV}{n:Nat}(h:lenOf a=some n){v:Value}(hr:RV M w a v):(∃A c,v=.slice A n c∧a.Ol=false)∨(∃s:ByteArray,v=.string s∧s.size=n∧a.Ol=true):=by
 unfold lenOf at h;split at h
 ·cases h;obtain⟨A,m,c,rfl,hm,_⟩:=Rd.slice hr;subst hm;exact .inl ⟨A,c,rfl,rfl⟩
 ·cases h;obtain⟨A,rfl,_⟩:=hr;exact .inl ⟨A,_,rfl,rfl⟩
 ·cases h;exact .inl ⟨none,0,hr,rfl⟩
 ·cases h;obtain⟨A,c,_,_,_,rfl,_⟩:=hr;exact .inl ⟨A,c,rfl,rfl⟩
 ·cases h;obtain⟨g,_,rfl⟩:=hr;exact .inl ⟨_,_,rfl,rfl⟩
 ·cases h;exact .inr ⟨_,Rd.Q7 hr,Zad _,rfl⟩
 ·cases h
section
variable {E:En} {X:Nat→Prop} {n0:Nat} {w0:World×Mm} {ok0:Nat→Prop} {M:Mm} {nt:Nat} {tm:Nat→AV} {bx:Nat→Option Bx} {a:Act} {w:World} {o:Oper} {Q:Exit→Act→World→Prop} {act:I1} {an J9:List An} {k:Nat} {r:AV} {ups:List (Nat×Bx)} {ps:List Prop}
theorem dI{v:AV}{u:Value}(hr:(I1.val v).run E bx k=some (r,ups,ps))(hI:Inv X n0 w0 ok0 M nt tm bx a w)(hd:∀t,o.dst=some t→t < nt)(h1:(execOp a.eval o).run E.P w=.ok (.value u) w)(h2:RV M w v u):o.wp E.P a w (Left X n0 w0 ok0 nt (Q6 tm o.dst r) (J2 bx ups)) Q:=by
 cases hr;exact bM hI hd h1 h2
theorem a1B{t:TypeId}{x:Operand}(ho:o.op=.load t x){n:Nat}{ag:Bool}(hn:cu E.P t=some n)(ha:lg E.P t=some ag)(h:KH E n ag (H7 tm x) an=some (act,J9))(hr:act.run E bx k=some (r,ups,ps))(hp:K7 ps)(hI:Inv X n0 w0 ok0 M nt tm bx a w)(hd:∀t,o.dst=some t→t < nt)(hG:E.G w) :
  o.wp E.P a w (Left X n0 w0 ok0 nt (Q6 tm o.dst r) (J2 bx ups)) Q:=by
 unfold KH at h;split at h
 ·rename_i b off hx;cases h;exact a18 ho hI hd hx hn ha hr
 ·rename_i b i k' hx;split at h
  ·rename_i cs ay hk hnx;split at h
   ·rename_i ds hds;cases h;exact a4y ho hI hd hx hn (Zae hk) ha hr hp
   ·cases h
  ·cases h
 ·rename_i cs hx;split at h
  ·rename_i r' hrow;cases h;cases hr;exact a19 ho hI hd hx hn ha hrow
  ·cases h
 ·rename_i g off hx;split at h
  ·cases h
  ·split at h
   ·cases h;cases hr;exact PZ ho hI hd hx ha (hp.1 w hG)
   ·split at h
    ·rename_i r' hT;cases h;cases hr;exact PZ ho hI hd hx ha (E.hT w hG _ _ _ hT)
    ·cases h
 ·cases h
theorem a2a{t:TypeId}{x i:Operand}(ho:o.op=.indexAddr t x i){e:TypeId}{ie:TypeInfo}(hu:E.P.underlying t=some (.slice e))(hie:E.P.info? e=some ie){n:Int}(hi:intOf (H7 tm i)=some n)(h:Me ie.size (H7 tm x) n an=some (act,J9))(hr:act.run E bx k=some (r,ups,ps))(hp:K7 ps)(hI:Inv X n0 w0 ok0 M nt tm bx a w)(hd:∀t,o.dst=some t→t < nt) :
  o.wp E.P a w (Left X n0 w0 ok0 nt (Q6 tm o.dst r) (J2 bx ups)) Q:=by
 obtain⟨ki,hki⟩:=lH hi (hI.ev i);have sl:∀{b m:Nat},H7 tm x=.sl b m→0≤n∧n < m→∃u,(execOp a.eval o).run E.P w=.ok (.value u) w∧RV M w (.df b n.toNat ie.size) u:=by
  intro b m hx hb;have hv:=hI.ev x;rw[hx]at hv;obtain⟨g,h1,h2⟩:=hv;refine⟨.pointer (some ⟨g,n.toNat * ie.size,none⟩),?_,g,h1,rfl⟩;obtain⟨dd,op,ty,pos,af,gd⟩:=o;simp only at ho;subst ho;have hsz:cu E.P e=some ie.size:=by unfold cu;rw[hie]
  have e2:=rW g 0 (n.toNat * ie.size);rw[Zau]at e2;simp only[execOp,Instr.indexAt,asIntOf,hki,h2,lc,d9,Result.andThen,Zac hu,Ch hb,run_sizeOf hsz,e2]
 unfold Me at h;split at h
 ·rename_i b m ay hx hnx;split at h
  ·rename_i hc;cases h;rw[Ce]at hc;obtain⟨u,h1,h2⟩:=sl hx ⟨bv hc.1,bv hc.2⟩;exact dI hr hI hd h1 h2
  ·cases h
 ·rename_i b m ay hx hnx;cases h;cases hr;obtain⟨u,h1,h2⟩:=sl hx hp.1;exact bM hI hd h1 h2
 ·split at h
  ·cases h;exact Vw ho hI hd hu hie hki hr hp
  ·cases h
 ·cases h;exact Vw ho hI hd hu hie hki hr hp
 ·cases h
theorem a1C{c:Call}(ho:o.op=.call c)(h:zh E (H7 tm) c an=some (act,J9))(hr:act.run E bx k=some (r,ups,ps))(hp:K7 ps)(hI:Inv X n0 w0 ok0 M nt tm bx a w)(hd:∀t,o.dst=some t→t < nt)(hG:E.G w)(hk:∀q∈act.news k,bx q=none) :
  o.wp E.P a w (Left X n0 w0 ok0 nt (Q6 tm o.dst r) (J2 bx ups)) Q:=by
 unfold zh at h;split at h
 ·rename_i x args ts;split at h
  ·rename_i f aZ r' ay hx hnx;cases h;exact TR ho hI hd hG (.inl ⟨aZ,hx,rfl,rfl⟩) hr hp
  ·rename_i f aZ r' ay hx hnx;cases h;exact TR ho hI hd hG (.inr ⟨hx,rfl⟩) hr hp
  ·cases h
 ·rename_i x t ts;split at h
  case h_2=>cases h
  rename_i s n hs hn;split at h
  case h_2=>cases h
  rename_i hsx;have hrun:(execOp a.eval o).run E.P w=.ok (.value (.int .i64 n)) w:=by
   obtain⟨dd,op,ty,pos,af,gd⟩:=o;simp only at ho;subst ho;unfold isStr at hs;rcases a4G (_P:=E.P) hn (hI.ev x) with⟨A,c,hv,hS⟩ | ⟨s',hv,rfl,hS⟩
   ·rw[hS]at hsx;split at hs
    ·cases hs;cases hsx
    ·rename_i e hu;simp[execOp,resolve,invoke,builtin,Builtin.len_,hv,Zac hu,goInt]
    ·cases hs
   ·rw[hS]at hsx;split at hs
    ·rename_i hu;simp[execOp,resolve,invoke,builtin,Builtin.len_,hv,Zac hu,goInt]
    ·cases hs;cases hsx
    ·cases hs
  unfold Xv at h;split at h
  ·cases h;cases hr;rw[hp.1];exact bM hI hd hrun (Rd.val _)
  ·cases h;cases hr;exact bM hI hd hrun (Rd.val _)
 ·rename_i x y ts;have key:∀{k1 k2:IntKind} {p q:Int},H7 tm x=.dt (.val (.int k1 p))→H7 tm y=.dt (.val (.int k2 q))→(execOp a.eval o).run E.P w=.ok (.value (.int k1 (if q > p then q else p))) w:=by
   intro k1 k2 p q hx hy;have hv:=hI.ev x;rw[hx]at hv;have hv':a.eval x=.int k1 p:=Rd.Q7 hv;have hw:=hI.ev y;rw[hy]at hw;have hw':a.eval y=.int k2 q:=Rd.Q7 hw;obtain⟨dd,op,ty,pos,af,gd⟩:=o;simp only at ho;subst ho;simp[execOp,resolve,invoke,builtin,Builtin.max_,Builtin.max2,hv',hw']
  split at h
  ·rename_i hx hy _;cases h;cases hr;rw[hp.1];exact bM hI hd (key hx hy) (Rd.val _)
  ·rename_i hx hy _;cases h;cases hr;exact bM hI hd (key hx hy) (Rd.val _)
  ·cases h
 ·rename_i x y ts;have key:∀{k1 k2:IntKind} {p q:Int},H7 tm x=.dt (.val (.int k1 p))→H7 tm y=.dt (.val (.int k2 q))→(execOp a.eval o).run E.P w=.ok (.value (.int k1 (if q < p then q else p))) w:=by
   intro k1 k2 p q hx hy;have hv:=hI.ev x;rw[hx]at hv;have hv':a.eval x=.int k1 p:=Rd.Q7 hv;have hw:=hI.ev y;rw[hy]at hw;have hw':a.eval y=.int k2 q:=Rd.Q7 hw;obtain⟨dd,op,ty,pos,af,gd⟩:=o;simp only at ho;subst ho;simp[execOp,resolve,invoke,builtin,Builtin.min_,Builtin.min2,hv',hw']
  split at h
  ·rename_i hx hy _;cases h;cases hr;rw[hp.1];exact bM hI hd (key hx hy) (Rd.val _)
  ·rename_i hx hy _;cases h;cases hr;exact bM hI hd (key hx hy) (Rd.val _)
  ·cases h
 ·rename_i s x t t';split at h
  case h_2=>cases h
  rename_i e i z e2 he he2;split at h
  case h_2=>cases h
  rename_i hc;rw[Ce]at hc;obtain⟨u1,u2,u3⟩:=rU he;obtain⟨e',i',z'⟩:=e2;obtain⟨v1,_,_⟩:=rU he2;split at h <;> cases h <;> exact a9X ho hI hd u1 v1 (by rw[u2];simp[u3]) (Zae hc.1) (Zap hc.2) hk hr hp
 ·cases h
end
section
variable {E:En} {X:Nat→Prop} {n0:Nat} {w0:World×Mm} {ok0:Nat→Prop} {M:Mm} {nt:Nat} {tm:Nat→AV} {bx:Nat→Option Bx} {a:Act} {w:World} {o:Oper} {Q:Exit→Act→World→Prop}
theorem a2y{act:I1}{an J9:List An}{k:Nat}{r:AV}{ups:List (Nat×Bx)}{ps:List Prop}(h:aG E o.op (H7 tm) an=some (act,J9))(hr:act.run E bx k=some (r,ups,ps))(hp:K7 ps)(hI:Inv X n0 w0 ok0 M nt tm bx a w)(hd:∀t,o.dst=some t→t < nt)(hG:E.G w)(hk:∀q∈act.news k,bx q=none) :
  o.wp E.P a w (Left X n0 w0 ok0 nt (Q6 tm o.dst r) (J2 bx ups)) Q:=by
 unfold aG at h;split at h
 case h_1 x hop =>
  cases h;refine dI (u:=a.eval x) hr hI hd ?_ (hI.ev x);obtain⟨dd,op,ty,pos,af,gd⟩:=o;simp only at hop;subst hop;rfl
 case h_2 x hop =>
  cases h;refine dI (u:=a.eval x) hr hI hd ?_ (hI.ev x);obtain⟨dd,op,ty,pos,af,gd⟩:=o;simp only at hop;subst hop;rfl
 case h_3 x hop =>
  have run:∀g q,a.eval x=.pointer (some ⟨g,q,none⟩)→(execOp a.eval o).run E.P w=.ok (.value (a.eval x)) w:=fun g q e=>by
   obtain⟨dd,op,ty,pos,af,gd⟩:=o;simp only at hop;subst hop;simp only[execOp,e,d9]
  split at h
  ·rename_i b q hx;cases h;have hv:=hI.ev x;rw[hx]at hv;obtain⟨g,h1,h2⟩:=hv;exact dI hr hI hd (run _ _ h2) ⟨g,h1,h2⟩
  ·rename_i cs hx;cases h;have hv:=hI.ev x;rw[hx]at hv;obtain⟨g,q,vs,h2,h3⟩:=hv;exact dI hr hI hd (run _ _ h2) ⟨g,q,vs,h2,h3⟩
  ·cases h
 case h_4 c x z hop =>
  split at h
  ·rename_i t hc;cases h;have hv:=hI.ev c;rw[hc]at hv;have hv':a.eval c=.bool t:=Rd.Q7 hv;refine dI (u:=if t then a.eval x else a.eval z) hr hI hd ?_ (by cases t <;> exact hI.ev _);obtain⟨dd,op,ty,pos,af,gd⟩:=o;simp only at hop;subst hop;simp only[execOp,hv',asBool,lc,d9,Result.andThen]
  ·cases h
 case h_5 t hop =>
  split at h
  ·rename_i z hz;cases h;obtain⟨i,v,hi,hv,rfl⟩:=QK hz;simp only[I1.run]at hr;split at hr
   ·cases hr;have hrun:(execOp a.eval o).run E.P w=.ok (.value (.pointer (some ⟨w.heap.size,0,none⟩))) (w.alloc (.cells v.cells.toList.toArray t)):=by
     obtain⟨dd,op,ty,pos,af,gd⟩:=o;simp only at hop;subst hop;simp only[execOp,Instr.alloc,zeroValue,typeInfo,program,newVar,newRow,newObj,lc,Sem.run,d9,Result.andThen,hi,hv];rfl
    exact fU hrun (hI.alloc (hk k (Cf.2 rfl)) t (yP M w _) o.dst hd)
   ·cases hr
  ·cases h
 case h_6 t x hop =>
  cases h;simp only[I1.run]at hr;split at hr
  ·rename_i h1;cases hr;obtain⟨us,hu1,hu2⟩:=(hI.ev x).cells h1;have hrun:(execOp a.eval o).run E.P w=.ok (.value (.pointer (some ⟨w.heap.size,0,none⟩))) (w.alloc (.cells us.toArray t)):=by
    obtain⟨dd,op,ty,pos,af,gd⟩:=o;simp only at hop;subst hop;simp only[execOp,Instr.box,newVar,newRow,newObj,lc,Sem.run,d9,Result.andThen,hu1];rfl
   exact fU hrun (hI.alloc (hk k (Cf.2 rfl)) t hu2 o.dst hd)
  ·cases hr
 case h_7 t x hop =>
  split at h
  ·rename_i n ag hn ha;exact a1B hop hn ha h hr hp hI hd hG
  ·cases h
 case h_8 t x z hop =>
  split at h
  ·rename_i n b off hn hx;split at h
   ·rename_i hb;cases h;have hb':=Zae hb;exact a4z hop hI hd hx (by rw[hn,hb']) hr
   ·cases h
  ·rename_i n b i k' hn hx;split at h
   ·rename_i hb;cases h;have hb':=Zae hb;exact a3k hop hI hd hx (by rw[hn,hb']) hr hp
   ·cases h
  ·cases h
 case h_9 t qs hop =>
  split at h
  ·rename_i cs hcs;cases h;obtain⟨vs,h1,h2⟩:=a3m (RP.map hI.ev qs.toList) hcs;refine dI (u:=.agg vs.toArray) hr hI hd ?_ ⟨vs,rfl,h2⟩;obtain⟨dd,op,ty,pos,af,gd⟩:=o;simp only at hop;subst hop;have:=run_build (P:=E.P) w t (qs.map fun x=>(x.1,a.eval x.2)) vs.toArray (by rw[←h1];simp);simp only[execOp,lc,this,Result.andThen,d9]
  ·cases h
 case h_10 t len qs hop =>
  split at h
  case h_2=>cases h
  rename_i e i z he;split at h
  case h_2 =>
   split at h
   ·rename_i hqs _;cases h;obtain⟨u1,u2,u3⟩:=rU he;cases hr;exact a9Z hop hqs hI hd u1 u2 (hk k (Cf.2 rfl))
   ·cases h
  rename_i hsz;split at h
  case h_2=>cases h
  rename_i cs hcs;cases h;obtain⟨u1,u2,u3⟩:=rU he;rw[Ce]at hsz;have hpos:¬len * i.size=0:=fun e=>by rw[e]at hsz;exact absurd hsz.1 O
  have hsm:=Zap hsz.2;obtain⟨vs,h1,h2⟩:=JC (M:=M) (w:=w) (RP.map hI.ev qs.toList) (vs:=(List.range (len * i.size)).map fun j=>z.cells[j % z.cells.size]!) (by
   have:=yP M w ((List.range (len * i.size)).map fun j=>z.cells[j % z.cells.size]!)
   rwa [List.map_map]at this) hcs
  refine b2A hop hI hd u1 u2 u3 hpos hsm (vs:=vs) ?_ h2 hr hp;rw[show (Array.range (len * i.size)).map (fun j=>z.cells[j % z.cells.size]!)=((List.range (len * i.size)).map fun j=>z.cells[j % z.cells.size]!).toArray by apply Array.ext';simp]
  rw[←h1];simp
 case h_11 t x f hop =>
  split at h
  case h_2=>cases h
  rename_i off ft hf;split at h
  case h_2=>cases h
  rename_i n hn;obtain⟨fs,fl,hu,hfl,rfl,rfl⟩:=RG hf;have run:∀g q,a.eval x=.pointer (some ⟨g,q,none⟩)→(execOp a.eval o).run E.P w=.ok (.value (.pointer (some ⟨g,q+fl.offset,none⟩))) w:=fun g q h=>by
   obtain⟨dd,op,ty,pos,af,gd⟩:=o;simp only at hop;subst hop;simp only[execOp,Instr.fieldAt,fieldPlace,Instr.sureAddr,h,lc,d9,Result.andThen,Zac hu,hfl,run_sizeOf hn,Nat.succ_ne_zero,Zav,rW]
  split at h
  ·rename_i b q hx;cases h;have hv:=hI.ev x;rw[hx]at hv;obtain⟨g,h1,h2⟩:=hv;exact dI hr hI hd (run _ _ h2) ⟨g,h1,rfl⟩
  ·rename_i cs hx;cases h;have hv:=hI.ev x;rw[hx]at hv;obtain⟨g,q,vs,h2,h3,h4,h5,h6⟩:=hv;refine dI hr hI hd (run _ _ h2) ⟨g,q+fl.offset,vs.drop fl.offset,rfl,h3,h4,fun j u hj=>?_,h6.drop _⟩;rw[List.getElem?_drop]at hj;rw[Nat.add_assoc];exact h5 _ u hj
  ·cases h
 case h_12 t x f hop =>
  split at h
  case h_2=>cases h
  rename_i off ft hf;obtain⟨fs,fl,hu,hfl,rfl,rfl⟩:=RG hf;split at h
  ·rename_i n cs hn ha hx;cases h;have hv:=hI.ev x;rw[hx]at hv;obtain⟨vs,hv,hl⟩:=hv;refine dI (u:=.agg ((vs.drop fl.offset).take n).toArray) hr hI hd ?_ ⟨_,rfl,(hl.drop _).take _⟩;have e:(vs.toArray.extract fl.offset (fl.offset+n))=((vs.drop fl.offset).take n).toArray:=by
    apply Array.ext';simp[List.take_drop,Nat.add_comm]
   obtain⟨dd,op,ty,pos,af,gd⟩:=o;simp only at hop;subst hop;simp only[execOp,Instr.field,hv,asAgg,part,lc,d9,Result.andThen,Zac hu,hfl,yh ha,run_sizeOf hn,ZaG,e]
  ·rename_i n cs hn ha hx;split at h
   ·rename_i c hc;cases h;have hv:=hI.ev x;rw[hx]at hv;obtain⟨vs,hv,hl⟩:=hv;obtain⟨u,hu1,hu2⟩:=hl.get hc;refine dI (u:=u) hr hI hd ?_ hu2;have e:vs.toArray[fl.offset]?=some u:=by simpa using hu1
    obtain⟨dd,op,ty,pos,af,gd⟩:=o;simp only at hop;subst hop;simp only[execOp,Instr.field,hv,asAgg,part,lc,d9,Result.andThen,Zac hu,hfl,yh ha,ZaL,Zav,e]
   ·cases h
  ·cases h
 case h_13 t x i hop =>
  split at h
  ·rename_i e n hu hi;split at h
   ·rename_i ie hie;exact a2a hop hu hie hi h hr hp hI hd
   ·cases h
  ·rename_i len e n hu hi;have arr:∀{sz g:Nat},cu E.P e=some sz→H7 tm x=.gl g 0→0≤n→n < (len:Int)→(execOp a.eval o).run E.P w=.ok (.value (.pointer (some ⟨g,n.toNat * sz,none⟩))) w:=by
    intro sz g hsz hx h0 h1;obtain⟨ki,hki⟩:=lH hi (hI.ev i);have hv:=hI.ev x;rw[hx]at hv;have hv':a.eval x=.pointer (some ⟨g,0,none⟩):=hv;have e2:=rW g 0 (n.toNat * sz);rw[Zau]at e2;obtain⟨dd,op,ty,pos,af,gd⟩:=o;simp only at hop;subst hop;have hb:0≤n∧n < (len:Int):=⟨h0,h1⟩;simp only[execOp,Instr.indexAt,asIntOf,hki,hv',Instr.sureAddr,lc,d9,Result.andThen,Zac hu,Ch hb,run_sizeOf hsz,e2]
   split at h
   ·rename_i sz g ay hsz hx hnx;cases h;cases hr;exact bM hI hd (arr hsz hx hp.1.1 hp.1.2.1) rfl
   ·rename_i sz g ay hsz hx hnx;split at h
    ·rename_i hc;cases h;simp only[Ce]at hc;exact dI hr hI hd (arr hsz hx (bv hc.1.1) (bv hc.1.2)) rfl
    ·cases h
   ·cases h
  ·cases h
 case h_14 t x i hop =>
  split at h
  case h_2=>cases h
  rename_i s n hu hx hi;obtain⟨ki,hki⟩:=lH hi (hI.ev i);have hv:=hI.ev x;rw[hx]at hv;have hv':a.eval x=.string s:=Rd.Q7 hv;have run:∀b,0≤n→s[n.toNat]?=some b→(execOp a.eval o).run E.P w=.ok (.value (.int .u8 b.toNat)) w:=fun b h0 hb=>by
   obtain⟨dd,op,ty,pos,af,gd⟩:=o;simp only at hop;subst hop;simp only[execOp,Instr.index,asIntOf,hki,hv',lc,d9,Result.andThen,Zac hu,Ch h0,hb]
  split at h
  ·cases h;cases hr;obtain⟨b,h0,hb,rfl⟩:=hp.1;exact bM hI hd (run b h0 hb) (Rd.val _)
  ·split at h
   ·rename_i b h0 hb;cases h;exact dI hr hI hd (run b (bv h0) ((II _ _).trans hb)) (Rd.val _)
   ·cases h
 case h_15 op t x z yt hop =>
  split at h
  case h_2 =>
   rename_i hx hy;split at h
   ·rename_i e es dB ay hu hxs hnx;cases h;cases hr;refine bM hI hd ?_ (Rd.val _);have hv:=hI.ev x;rw[hxs]at hv;have hz:=(hI.ev z).sv hy;have hr2:Rd M.F w (a.eval x) (.row es):=hv;have hne:es≠[]:=hp.1;obtain⟨A,n,c,hA,hm,_⟩:=Rd.slice hr2;rw[hA]at hr2;have hAs:A.isNone=false:=by
     cases hr2 with
     |nil=>exact absurd rfl hne
     |row=>rfl
    obtain⟨dd,op,ty,pos,af,gd⟩:=o;simp only at hop;subst hop;have:=Lib.run_eql_slice_nil (P:=E.P) w t e A n c 0 0 hu;rw[hAs]at this;simp only[execOp,hA,hz,eqGuard,lc,d9,Result.andThen,Bool.not_true,ZaL,Zav,this]
   ·cases h
  case h_3=>cases h
  rename_i vx vy hx hy;have run:∀rr,bg E.P op t x z vx vy rr→(execOp a.eval o).run E.P w=.ok (.value rr) w:=fun rr hb=>by
   obtain⟨dd,op,ty,pos,af,gd⟩:=o;simp only at hop;subst hop;have:=hb w;simp only[execOp,(hI.ev x).sv hx,(hI.ev z).sv hy,lc,d9]at this ⊢
   rw[this];rfl
  unfold Xu at h;split at h
  ·split at h
   ·rename_i rr hs;cases h;exact dI hr hI hd (run rr (iT hs)) (Rd.val _)
   ·cases h
  ·cases h;cases hr;exact bM hI hd (run _ hp.1) (Rd.val _)
  ·cases h
 case h_16 op t x hop =>
  split at h
  case h_2=>cases h
  rename_i v hx;split at h
  case h_2=>cases h
  rename_i rr hs;cases h;refine dI (u:=rr) hr hI hd ?_ (Rd.val _);have:=a94 (P:=E.P) hs w;obtain⟨dd,op,ty,pos,af,gd⟩:=o;simp only at hop;subst hop;simp only[execOp,(hI.ev x).sv hx,this,lc,d9,Result.andThen]
 case h_17 x i hop =>
  split at h
  ·rename_i cs hx;split at h
   ·rename_i c hc;cases h;have hv:=hI.ev x;rw[hx]at hv;obtain⟨vs,hv,hl⟩:=hv;obtain⟨u,hu1,hu2⟩:=hl.get hc;refine dI (u:=u) hr hI hd ?_ hu2;obtain⟨dd,op,ty,pos,af,gd⟩:=o;simp only at hop;subst hop;have e:vs.toArray[i]?=some u:=by simpa using hu1
    simp only[execOp,hv,Instr.extract,lc,d9,Result.andThen,e]
   ·cases h
  ·cases h
 case h_18 src dst x hop =>
  split at h
  ·rename_i k1 k2 k3 n hs hds hx;have hv:=(hI.ev x).sv hx;have hrun:(execOp a.eval o).run E.P w=.ok (.value (.int k2 (k2.wrap n))) w:=by
    obtain⟨dd,op,ty,pos,af,gd⟩:=o;simp only at hop;subst hop;have hcv:(convert src dst (.int k3 n)).run E.P w=.ok (.int k2 (k2.wrap n)) w:=by
     unfold convert;simp only[lc,Zac hs,Zac hds,Result.andThen];rfl
    simp only[execOp,hv,hcv,lc,d9,Result.andThen]
   split at h
   ·cases h;cases hr;rw[hp.1];exact bM hI hd hrun (Rd.val _)
   ·cases h;exact dI hr hI hd hrun (Rd.val _)
  ·rename_i e hs hds hx;split at h
   ·rename_i l ay hue hnx;cases h;exact a92 hop hI hd hs hue hds hr hp
   ·cases h
  ·cases h
 case h_19 f aZ hop =>
  cases h;refine dI (u:=.func (.func f) #[] (aZ.toList.map a.eval).toArray) hr hI hd ?_ ⟨_,rfl,RL.map hI.ev _⟩;obtain⟨dd,op,ty,pos,af,gd⟩:=o;simp only at hop;subst hop;have e:aZ.map a.eval=(aZ.toList.map a.eval).toArray:=by
   apply Array.ext';simp
  have e0:(⟨[]⟩:Array Operand).map a.eval=#[]:=by
   show (#[]:Array Operand).map a.eval=#[];simp
  simp only[execOp,Instr.makeFunc,lc,d9,Result.andThen,e,e0]
 case h_20 t hop =>
  split at h
  ·cases h;cases hr;exact a4C hop hI hd (hk k (Cf.2 rfl))
  ·cases h;cases hr;exact a7m hop hI hd (hk k (Cf.2 rfl))
 case h_21 t m x y hop =>
  split at h
  case h_2=>cases h
  rename_i kt z b key hmp hm hx;cases h;obtain⟨e,i,u1,_,_⟩:=yD hmp;exact Vz (.inl hop) hI hd u1 hm ((hI.ev x).sv hx) hr hp
 case h_22 t m x ok hop =>
  split at h
  ·rename_i kt z b key _ i v ay hmp hm hx hnx;cases h;obtain⟨e,ie,u1,u2,u3⟩:=yD hmp;exact a4F hop hI hd u1 u2 u3 hm ((hI.ev x).sv hx) hr hp
  ·rename_i kt z b key _ i ay hmp hm hx hnx;cases h;obtain⟨e,ie,u1,u2,u3⟩:=yD hmp;exact TT hop hI hd u1 u2 u3 hm ((hI.ev x).sv hx) hr hp
  ·rename_i kt z b key ay hmp hm hx hnx;cases h;obtain⟨e,ie,u1,u2,u3⟩:=yD hmp;exact TT hop hI hd u1 u2 u3 hm ((hI.ev x).sv hx) hr hp
  ·cases h
 case h_23 t x y hop =>
  split at h
  ·rename_i e i z l c b n ay he hx hy hnx;split at h
   case h_2=>cases h
   rename_i hc;cases h;cases hr;obtain⟨u1,u2,u3⟩:=rU he;obtain⟨kl,hkl⟩:=lH hx (hI.ev x);obtain⟨kc,hkc⟩:=lH hy (hI.ev y);simp only[Ce]at hc;obtain⟨h1,h2,h3⟩:=hp.1;exact Vv hop hI hd u1 u2 u3 (Zae hc.1.1) (fun u hu=>Zag.1 hc.1.2 u hu) (Zap hc.2) hkl hkc (hk k (Cf.2 rfl)) h1 h2 h3
  ·rename_i e i z c _ ay _ he hx hy hnx;cases h;cases hr;obtain⟨u1,u2,u3⟩:=rU he;obtain⟨kl,hkl⟩:=lH hx (hI.ev x);obtain⟨kc,hkc⟩:=lH hy (hI.ev y);exact a90 hop hI hd u1 (z:=z) (by rw[u2];simp[u3]) hkl hkc (hk k (Cf.2 rfl)) hp.1
  ·rename_i e i z n c _ ay _ he hx hy hnx;split at h
   case h_2=>cases h
   rename_i hc;cases h;cases hr;obtain⟨u1,u2,u3⟩:=rU he;obtain⟨kl,hkl⟩:=lH hx (hI.ev x);obtain⟨kc,hkc⟩:=lH hy (hI.ev y);simp only[Ce]at hc;obtain⟨h1,h2,h3⟩:=hp.1;exact Vv hop hI hd u1 u2 u3 (Zae hc.1.1) (fun u hu=>Zag.1 hc.1.2 u hu) (Zap hc.2) hkl hkc (hk k (Cf.2 rfl)) h1 h2 h3
  ·cases h
 case h_24 t x lo hi mx hop =>
  split at h
  ·rename_i e l hh m hu hlo hhi hmx;split at h
   ·rename_i sz rs ay hsz hnx;cases h;exact Vy hop hI hd hu hsz (ny hI.ev hlo) (ny hI.ev hhi) (ny hI.ev hmx) hr hp
   ·rename_i sz ay hsz hnx;cases h;exact Vy hop hI hd hu hsz (ny hI.ev hlo) (ny hI.ev hhi) (ny hI.ev hmx) hr hp
   ·cases h
  ·rename_i l hh hu hlo hhi hmx;have MR:mx=none:=by
    rcases ny (M:=M) (w:=w) hI.ev hmx with⟨h1,_⟩ | ⟨y,k1,z,_,_,h1⟩
    ·exact h1
    ·cases h1
   subst MR;have key:∀s,H7 tm x=.dt (.val (.string s))→∀rr,wV s (l.getD 0) (hh.getD s.size) rr→(execOp a.eval o).run E.P w=.ok (.value rr) w:=by
    intro s hx rr ⟨h1,h2,h3,h4⟩;have hv:=hI.ev x;rw[hx]at hv;have hv':a.eval x=.string s:=Rd.Q7 hv;obtain⟨L,hL⟩:∃L:Nat,l.getD 0=L:=⟨(l.getD 0).toNat,J⟩;obtain⟨H,hH⟩:∃H:Nat,hh.getD s.size=H:=⟨(hh.getD s.size).toNat,J⟩;rw[hL,hH]at h2 h4;rw[hH]at h3;have b:∀(k:IntKind) (i y:Nat) (code:BoundsCode),i≤y→(Instr.sliceBound (.int k i) y code).run E.P w=.ok i w:=fun k i y code h=>by
     have:=run_sliceBound (P:=E.P) w k i y code J J;simpa using this
    have hbd:(Instr.sliceBounds false s.size s.size (lo.map a.eval) (hi.map a.eval) none).run E.P w=.ok (L,H,s.size) w:=by
     rcases ny hI.ev hlo with⟨rfl,rfl⟩ | ⟨y,k1,z,rfl,hy,rfl⟩ <;> rcases ny hI.ev hhi with⟨rfl,rfl⟩ | ⟨y2,k2,z2,rfl,hy2,rfl⟩ <;> simp only[Option.getD_none,ZaP]at hL hH
     ·have:L=0:=J;subst this;have:H=s.size:=J;subst this;simp[Instr.sliceBounds]
     ·have:L=0:=J;subst this;subst hH;simp[Instr.sliceBounds,hy2,b,show H≤s.size by omega]
     ·have:H=s.size:=J;subst this;subst hL;simp[Instr.sliceBounds,hy,b,show L≤s.size by omega]
     ·subst hL;subst hH;simp[Instr.sliceBounds,hy,hy2,b,show L≤H by omega,show H≤s.size by omega]
    obtain⟨dd,op,ty,pos,af,gd⟩:=o;simp only at hop;subst hop;have e2:=run_sliceAt_string (P:=E.P) w t (.string s) (lo.map a.eval) (hi.map a.eval) none hu;have e3:(Instr.slice t (.string s) (lo.map a.eval) (hi.map a.eval) none).run E.P w=.ok rr w:=by
     unfold Instr.slice;simp only[lc,Zac hu,Result.andThen,Option.isSome_none,ZaL,Zav,hbd,d9];rw[h4];simp
    simp only[execOp,lc,hv',Option.map_none,e2,e3,Result.andThen,d9]
   split at h
   ·rename_i s rr ay hx hnx;cases h;cases hr;exact bM hI hd (key s hx rr hp.1) (Rd.val _)
   ·rename_i s _ ay _ hx hnx;split at h
    ·rename_i hc;cases h;simp only[Ce]at hc;refine dI hr hI hd (key s hx _ ⟨bv hc.1.1,bv hc.1.2,bv hc.2,?_⟩) (Rd.val _);rw[Lib.extract_eq]
    ·cases h
   ·cases h
  ·cases h
 case h_25 c hop=>exact a1C hop h hr hp hI hd hG hk
 case h_26 t m x y hop =>
  split at h
  ·rename_i kt z b key hmp hm hx;cases h;obtain⟨e,i,u1,_,_⟩:=yD hmp;exact Vz (.inr hop) hI hd u1 hm ((hI.ev x).sv hx) hr hp
  ·cases h
 case h_27=>cases h
end
def waits(ops:Array Oper)(i:Nat):List Nat :=
 match ops[i]? with
 |some o=>(o.after.toList.filter (Region.binds .any)).map (·.on)
 |none=>[]
theorem QL{ops:Array Oper}{i j:Nat}{o:Oper}(ho:ops[i]?=some o):j∈waits ops i↔∃e∈o.after,Region.binds .any e=true∧e.on=j:=by
 unfold waits;rw[ho];simp only[Zaw,List.mem_filter,Array.mem_toList_iff];exact⟨fun⟨e,h1,h2⟩=>⟨e,h1.1,h1.2,h2⟩,fun⟨e,h1,h2,h3⟩=>⟨e,⟨h1,h2⟩,h3⟩⟩
theorem a4H{E:En}{op:Op}{ρ ρ':Operand→AV}{an:List An}(h:∀x∈op.operands.toList,ρ x=ρ' x):aG E op ρ an=aG E op ρ' an:=by
 have hop:∀x:Option Operand,(∀y,x=some y→ρ y=ρ' y)→ql ρ x=ql ρ' x:=fun x hx=>by
  cases x with
  |none=>rfl
  |some y=>simp only[ql,hx y rfl]
 cases op with
 |move x=>have h1:=h x (by simp[Op.operands]);simp only[aG,h1]
 |assign x=>have h1:=h x (by simp[Op.operands]);simp only[aG,h1]
 |nilCheck x=>have h1:=h x (by simp[Op.operands]);simp only[aG,h1]
 |pick c x y =>
  have h1:=h c (by simp[Op.operands]);have h2:=h x (by simp[Op.operands]);have h3:=h y (by simp[Op.operands])
  simp only[aG,h1,h2,h3]
 |alloc t=>rfl
 |box t x=>have h1:=h x (by simp[Op.operands]);simp only[aG,h1]
 |load t x=>have h1:=h x (by simp[Op.operands]);simp only[aG,h1]
 |store t x y=>have h1:=h x (by simp[Op.operands]);have h2:=h y (by simp[Op.operands]);simp only[aG,h1,h2]
 |build t ps =>
  have e:(ps.toList.map fun x=>(x.1,ρ x.2))=ps.toList.map fun x=>(x.1,ρ' x.2):=List.map_congr_left fun x hx=>by
   rw[h x.2 (by simp only[Op.operands,Zaw];exact⟨x,hx,rfl⟩)]
  simp only[aG,e]
 |buildSlice t len ps =>
  have e:(ps.toList.map fun x=>(x.1,ρ x.2))=ps.toList.map fun x=>(x.1,ρ' x.2):=List.map_congr_left fun x hx=>by
   rw[h x.2 (by simp only[Op.operands,Zaw];exact⟨x,hx,rfl⟩)]
  simp only[aG,e]
 |fieldAddr t x f=>have h1:=h x (by simp[Op.operands]);simp only[aG,h1]
 |field t x f=>have h1:=h x (by simp[Op.operands]);simp only[aG,h1]
 |indexAddr t x i=>have h1:=h x (by simp[Op.operands]);have h2:=h i (by simp[Op.operands]);simp only[aG,h1,h2]
 |index t x i=>have h1:=h x (by simp[Op.operands]);have h2:=h i (by simp[Op.operands]);simp only[aG,h1,h2]
 |binOp op t x y yt=>have h1:=h x (by simp[Op.operands]);have h2:=h y (by simp[Op.operands]);simp only[aG,h1,h2]
 |unOp op t x=>have h1:=h x (by simp[Op.operands]);simp only[aG,h1]
 |extract x i=>have h1:=h x (by simp[Op.operands]);simp only[aG,h1]
 |convert s d x=>have h1:=h x (by simp[Op.operands]);simp only[aG,h1]
 |makeFunc fn first aZ =>
  have e:aZ.toList.map ρ=aZ.toList.map ρ':=List.map_congr_left fun x hx=>h x (by simp[Op.operands];right;simpa using hx)
  obtain⟨fl⟩:=first
  cases fn <;> cases fl <;> first | rfl | simp only[aG,e]
 |makeMap t r=>cases r <;> rfl
 |mapUpdate t m x y=>have h1:=h m (by simp[Op.operands]);have h2:=h x (by simp[Op.operands]);have h3:=h y (by simp[Op.operands]);simp only[aG,h1,h2,h3]
 |insert t m x y=>have h1:=h m (by simp[Op.operands]);have h2:=h x (by simp[Op.operands]);have h3:=h y (by simp[Op.operands]);simp only[aG,h1,h2,h3]
 |lookup t m x ok=>have h1:=h m (by simp[Op.operands]);have h2:=h x (by simp[Op.operands]);simp only[aG,h1,h2]
 |makeSlice t x y=>have h1:=h x (by simp[Op.operands]);have h2:=h y (by simp[Op.operands]);simp only[aG,h1,h2]
 |slice t x lo hi mx =>
  have h1:=h x (by simp[Op.operands]);have h2:=hop lo fun y e=>h y (by subst e;simp[Op.operands])
  have h3:=hop hi fun y e=>h y (by subst e;simp[Op.operands])
  have h4:=hop mx fun y e=>h y (by subst e;simp[Op.operands])
  simp only[aG,h1,h2,h3,h4]
 |call c =>
  obtain⟨callee,args,ts⟩:=c;have ha:∀x∈args.toList,ρ x=ρ' x:=fun x hx=>h x (by simp[Op.operands,Call.operands];right;simpa using hx)
  cases callee with
  |value x =>
   have h1:=h x (by simp[Op.operands,Call.operands]);have e:args.toList.map ρ=args.toList.map ρ':=List.map_congr_left ha;simp only[aG,zh,h1,e]
  |invoke x s=>rfl
  |builtin b =>
   simp only[aG];unfold zh;split <;> first | rfl | skip
   all_goals (rename_i heq;try cases heq)
   ·rename_i x t ts;have h1:=ha x I;simp only[h1]
   ·rename_i x y;have h1:=ha x I;have h2:=ha y I;simp only[h1,h2]
   ·rename_i x y;have h1:=ha x I;have h2:=ha y I;simp only[h1,h2]
   ·rename_i x y t t';have h1:=ha x I;have h2:=ha y I;simp only[h1,h2]
 |_=>rfl
mutual
theorem a4I{bx bx':Nat→Option Bx}{rec Ai:List AV→Option (List AV×List Prop)}{aY zD:List AV→List Nat}(hrec:∀cs,(∀b∈aY cs,bx b=bx' b)→rec cs=Ai cs∧aY cs=zD cs):∀(a:AV) (js:List Nat) (kn:Bool),(∀b∈aP js bx aY a,bx b=bx' b) →
  aM js kn bx rec a=aM js kn bx' Ai a∧aP js bx aY a=aP js bx' zD a
 |.own b n,js,kn,h=>by
  simp only[aM,aP]at h ⊢
  cases hi:aB b js 0 with
  |some i=>first | exact⟨rfl,rfl⟩ | exact⟨rfl,Z⟩
  |none=>rw[hi]at h;rw[h b (Cf.2 rfl)];first | exact⟨rfl,rfl⟩ | exact⟨rfl,Z⟩
 |.sl b n,js,kn,h=>by
  simp only[aM,aP]at h ⊢
  cases hi:aB b js 0 with
  |some i=>first | exact⟨rfl,rfl⟩ | exact⟨rfl,Z⟩
  |none=>rw[hi]at h;rw[h b (Cf.2 rfl)];first | exact⟨rfl,rfl⟩ | exact⟨rfl,Z⟩
 |.ptr b off,js,kn,h=>by
  simp only[aM,aP]at h ⊢
  cases hi:aB b js 0 with
  |some i=>exact⟨rfl,rfl⟩
  |none =>
   rw[hi]at h;simp only at h ⊢;have hb:bx b=bx' b:=h b (by split <;> simp);rw[←hb];cases hx:bx b with
   |none=>exact⟨rfl,rfl⟩
   |some x =>
    rw[hx]at h;cases x with
    |cells cs =>
     obtain⟨h1,h2⟩:=hrec cs fun q hq=>h q (Cg _ hq)
     simp only[h1,h2,and_self]
    |_=>exact⟨rfl,rfl⟩
 |.agg cs,js,kn,h=>by
  obtain⟨h1,h2⟩:=nz hrec cs js kn h;simp only[aM,aP,h1,h2,and_self]
 |.l7 cs,js,kn,h=>by
  obtain⟨h1,h2⟩:=nz hrec cs js kn h;simp only[aM,aP,h1,h2,and_self]
 |.dm f cs,[],kn,h=>by
  obtain⟨h1,h2⟩:=nz hrec cs [] false h;simp only[aM,aP,h1,h2,and_self]
 |.dm f cs,j::js,kn,h=>by
  obtain⟨h1,h2⟩:=nz hrec cs (j::js) kn h;simp only[aM,aP,h1,h2,and_self]
 |.dt _,_,_,_=>⟨rfl,rfl⟩
 |.nil,_,_,_=>⟨rfl,rfl⟩
 |.ax _,_,_,_=>⟨rfl,rfl⟩
 |.Q5 _,_,_,_=>⟨rfl,rfl⟩
 |.df _ _ _,_,_,_=>⟨rfl,rfl⟩
 |.gl _ _,_,_,_=>⟨rfl,rfl⟩
 |.pin _,_,_,_=>⟨rfl,rfl⟩
 |.au _ _,_,_,_=>⟨rfl,rfl⟩
 |.un,_,_,_=>⟨rfl,rfl⟩
theorem nz{bx bx':Nat→Option Bx}{rec Ai:List AV→Option (List AV×List Prop)}{aY zD:List AV→List Nat}(hrec:∀cs,(∀b∈aY cs,bx b=bx' b)→rec cs=Ai cs∧aY cs=zD cs):∀(cs:List AV) (js:List Nat) (kn:Bool),(∀b∈dY js bx aY cs,bx b=bx' b) →
  gq js kn bx rec cs=gq js kn bx' Ai cs∧dY js bx aY cs=dY js bx' zD cs
 |[],_,_,_=>⟨rfl,rfl⟩
 |c::cs,js,kn,h=>by
  simp only[dY]at h;obtain⟨h1,h2⟩:=a4I hrec c js kn fun b hb=>h b (Zan _ hb)
  obtain⟨h3,h4⟩:=nz hrec cs js kn fun b hb=>h b (ZaE _ hb)
  simp only[gq,dY,h1,h2,h3,h4,and_self]
end
theorem yE{bx bx':Nat→Option Bx}:∀(n:Nat) (cs:List AV),(∀b∈iw bx n cs,bx b=bx' b)→dM bx n cs=dM bx' n cs∧iw bx n cs=iw bx' n cs
 |0,_,_=>⟨rfl,rfl⟩
 |n+1,cs,h=>nz (yE n) cs [] false h
section
variable {E:En} {bx bx':Nat→Option Bx}
theorem ib{js:List Nat}{kn:Bool}{cs:List AV}(h:∀b∈K6 js bx cs,bx b=bx' b):bz js kn bx cs=bz js kn bx' cs∧K6 js bx cs=K6 js bx' cs:=nz (yE 1) cs js kn h
theorem a95{cs:List AV}(h:∀b∈Og bx cs,bx b=bx' b):FY bx cs=FY bx' cs:=(nz (yE 4) cs [] false h).1
theorem vK{js:List Nat}{kn:Bool}{cs:List AV}{r:List AV×List Prop}(h:∀b∈K6 js bx cs,bx b=bx' b)(hc:bz js kn bx cs=some r):O8 bx (K6 js bx cs)=O8 bx' (K6 js bx cs):=by
 have hst:∀b∈K6 js bx cs,wU (fun _=>True) bx (dM bx 1) (iw bx 1) (·∈K6 js bx cs) b :=
  pX (fun _ _ _=>⟨trivial,Z⟩) (QJ fun _ _ _=>⟨trivial,Z⟩) cs js kn r.1 r.2 hc trivial fun b hb=>hb
 generalize K6 js bx cs=bs at *;have gen:∀l:List Nat,(∀b∈l,b∈bs)→O8 bx l=O8 bx' l:=by
  intro l
  induction l with
  |nil=>intro _;rfl
  |cons b l ih =>
   intro hl;have hb:=hl b (NE ..);have ih':=ih fun q hq=>hl q (Cg _ hq)
   have e:=h b hb;simp only[O8,←e,ih'];cases hx:bx b with
   |none=>rfl
   |some x =>
    have:kU bx x=kU bx' x:=by
     cases x with
     |cells c0 =>
      obtain⟨r',_,_,h3⟩:=(hst b hb).2 c0 hx;have:=(yE 1 c0 fun q hq=>h q (h3 q hq)).1;have e2:dM bx nQ c0=dM bx' nQ c0:=this;simp only[kU,e2]
     |_=>rfl
    simp only[this]
 exact gen bs fun b hb=>hb
theorem a3n{x:AV}(h:∀b∈(match x with | .own b _=>[b] | .sl b _=>[b] | _=>([]:List Nat)),bx b=bx' b):sP bx x=sP bx' x:=by
 cases x with
 |own b n=>simp only[sP,h b (Cf.2 rfl)]
 |sl b n=>simp only[sP,h b (Cf.2 rfl)]
 |dt d =>
  cases d with
  |row xs=>rfl
  |val v =>
   cases v with
   |slice A n c=>cases n <;> rfl
   |_=>rfl
 |_=>rfl
theorem a7p{act:I1}{k:Nat}(h:∀b∈act.bt bx k,bx b=bx' b):act.run E bx k=act.run E bx' k:=by
 have one:∀{b:Nat},act.bt bx k=[b]→bx b=bx' b:=fun e=>h _ (by rw[e];exact Cf.2 rfl)
 cases act with
 |load b off n ag=>simp only[I1.run,one rfl]
 |wF b i k' ds ag=>simp only[I1.run,one rfl]
 |store b off vs=>simp only[I1.run,one rfl]
 |ins b kt key v=>simp only[I1.run,one rfl]
 |look b kt key z ok r=>simp only[I1.run,one rfl]
 |wH b kt key ok i v=>simp only[I1.run,one rfl]
 |sG b i k' vs =>
  have hb:bx b=bx' b:=h b (NE ..);have ho:∀q∈K6 [] bx vs,bx q=bx' q:=fun q hq=>h q (Cg _ hq)
  obtain⟨h1,h2⟩:=ib (kn:=false) ho;simp only[I1.run,←hb,←h1,←h2];cases hc:bz [] false bx vs with
  |none =>
   cases hbx:bx b with
   |none=>rfl
   |some x=>cases x with
    |rws e k2 es=>simp only;cases (k'.beq k2 && vs.all AV.one && vs.length.beq k') <;> rfl
    |_=>rfl
  |some r=>simp only[vK ho hc]
 |mk e sz len cs =>
  have ho:∀q∈K6 [] bx cs,bx q=bx' q:=h;obtain⟨h1,h2⟩:=ib (kn:=false) ho;simp only[I1.run,←h1,←h2];cases hc:bz [] false bx cs with
  |none=>rfl
  |some r=>simp only[vK ho hc]
 |app e kk bytes s x c =>
  have hs:=a3n (bx:=bx) (bx':=bx') (x:=x) fun b hb=>h b (ZaE _ hb)
  simp only[I1.run,←hs];cases s with
  |own b n=>simp only[h b (Zan _ (Cf.2 rfl))]
  |_=>rfl
 |idx x i sz r =>
  have ho:∀q∈K6 [] bx [x],bx q=bx' q:=h;obtain⟨h1,h2⟩:=ib (kn:=false) ho;simp only[I1.run,←h1,←h2];cases hc:bz [] false bx [x] with
  |none=>rfl
  |some r=>simp only[vK ho hc]
 |qO x sz lo hi mx r =>
  have ho:∀q∈K6 [] bx [x],bx q=bx' q:=h;obtain⟨h1,h2⟩:=ib (kn:=false) ho;simp only[I1.run,←h1,←h2];cases hc:bz [] false bx [x] with
  |none=>rfl
  |some r=>simp only[vK ho hc]
 |uq x l =>
  have ho:∀q∈K6 [] bx [x],bx q=bx' q:=h;obtain⟨h1,_⟩:=ib (kn:=false) ho;simp only[I1.run,←h1]
 |call f args aZ r =>
  cases hs:r.fG with
  |true =>
   have ho:∀q∈Og bx args,bx q=bx' q:=fun q hq=>h q (by simp only[I1.bt,hs];exact hq)
   simp only[I1.run,hs,←a95 ho]
  |false =>
   have ho:∀q∈K6 [] bx args,bx q=bx' q:=fun q hq=>h q (by simp only[I1.bt,hs];exact hq)
   obtain⟨h1,h2⟩:=ib (kn:=false) ho;simp only[I1.run,hs,←h1,←h2];cases hc:bz [] false bx args with
   |none=>rfl
   |some r=>simp only[vK ho hc]
 |_=>rfl
theorem vL{bs:List Nat}{b:Nat}{x:Bx}(h:(b,x)∈O8 bx bs):b∈bs:=(jE h).1
theorem a7q{act:I1}{k:Nat}{r:AV}{ups:List (Nat×Bx)}{ps:List Prop}(h:act.run E bx k=some (r,ups,ps)):∀b x,(b,x)∈ups→b∈act.bt bx k:=by
 intro b x hb;cases act with
 |val v=>cases h;cases hb
 |prop v qs=>cases h;cases hb
 |load b' off n ag =>
  simp only[I1.run]at h;split at h
  ·split at h <;> cases h;cases hb
  ·split at h <;> cases h;cases hb
  ·cases h
 |wF b' i k' ds ag =>
  simp only[I1.run]at h;split at h
  ·split at h <;> cases h;cases hb
  ·cases h
 |store b' off vs =>
  simp only[I1.run]at h;split at h
  ·split at h
   ·cases h;simp only[Cf,Zaz]at hb;exact Cf.2 hb.1
   ·cases h
  ·cases h
 |sG b' i k' vs =>
  simp only[I1.run]at h;split at h
  ·split at h
   ·split at h
    ·cases h;rcases ZaA.1 hb with hb | hb
     ·exact Cg _ (vL hb)
     ·simp only[Cf,Zaz]at hb;rw[hb.1];exact NE ..
    ·cases h
   ·cases h
  ·cases h
 |alloc t cs =>
  simp only[I1.run]at h;split at h
  ·cases h;simp only[Cf,Zaz]at hb;exact Cf.2 hb.1
  ·cases h
 |mk e sz len cs =>
  simp only[I1.run]at h;split at h
  ·split at h
   ·cases h;exact vL hb
   ·cases h
  ·cases h
 |um e kk bytes c=>cases h;simp only[Cf,Zaz]at hb;exact Cf.2 hb.1
 |uo e kk bytes n z l c=>cases h;simp only[Cf,Zaz]at hb;exact Cf.2 hb.1
 |app e kk bytes s x' c =>
  simp only[I1.run]at h;split at h
  ·split at h
   ·split at h
    ·cases h;simp only[Cf,Zaz]at hb;exact Zan _ (Cf.2 hb.1)
    ·cases h
   ·split at h
    ·split at h
     ·cases h;simp only[Cf,Zaz]at hb;exact Zan _ (Cf.2 hb.1)
     ·cases h
    ·cases h
   ·split at h
    ·cases h;simp only[Cf,Zaz]at hb;exact Zan _ (Cf.2 hb.1)
    ·cases h
   ·cases h
  ·cases h
 |idx x' i sz rr =>
  simp only[I1.run]at h;split at h
  ·split at h
   ·cases h;exact vL hb
   ·split at h
    ·split at h
     ·cases h;exact vL hb
     ·cases h
    ·cases h
  ·cases h
 |qO x' sz lo hi mx rr =>
  simp only[I1.run]at h;split at h
  ·split at h <;> (cases h;exact vL hb)
  ·cases h
 |uq x' l =>
  simp only[I1.run]at h;split at h
  ·cases h;cases hb
  ·cases h
 |call f args aZ r' =>
  simp only[I1.run]at h;split at h
  ·split at h
   ·cases h;cases hb
   ·cases h
  ·rename_i hs;split at h
   ·cases h;simp only[I1.bt,hs];exact vL hb
   ·cases h
 |wW=>cases h;simp only[Cf,Zaz]at hb;exact Cf.2 hb.1
 |wG=>cases h;simp only[Cf,Zaz]at hb;exact Cf.2 hb.1
 |ins b' kt key v =>
  simp only[I1.run]at h;split at h
  ·cases h;simp only[Cf,Zaz]at hb;exact Cf.2 hb.1
  ·split at h
   ·split at h
    ·cases h;simp only[Cf,Zaz]at hb;exact Cf.2 hb.1
    ·cases h
   ·cases h
  ·cases h
 |wH b' kt key ok i v =>
  simp only[I1.run]at h;split at h
  ·cases h;cases hb
  ·split at h
   ·split at h
    ·cases h;cases hb
    ·cases h
   ·cases h
  ·cases h
 |look b' kt key z ok rr =>
  simp only[I1.run]at h;split at h
  ·split at h
   ·cases h
   ·cases h;cases hb
  ·split at h
   ·split at h <;> cases h;cases hb
   ·cases h;cases hb
  ·cases h
theorem a7r{act:I1}{k:Nat}:∀q∈act.news k,q∈act.bt bx k:=by
 intro q hq;cases act with
 |app e kk bytes s x c =>
  cases s with
  |nil=>exact Zan _ hq
  |ax _=>exact Zan _ hq
  |_=>cases hq
 |alloc _ _=>exact hq
 |um _ _ _ _=>exact hq
 |uo _ _ _ _ _ _ _=>exact hq
 |wW=>exact hq
 |wG=>exact hq
 |_=>cases hq
end
end Go.Proofs.YtbpmpdadppamgaaGreatDoor
