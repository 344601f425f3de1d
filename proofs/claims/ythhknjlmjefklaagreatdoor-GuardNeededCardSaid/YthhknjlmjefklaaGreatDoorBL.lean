/- Reading and translating, as plain functions: the words, tokens, objects and terms of a text, for the texts that use few letters. -/
import Derived.Test.YthhknjlmjefklaaGreatDoorBK
import Derived.Test.YthhknjlmjefklaaGreatDoorBG
import Derived.Lib.SliceRun
import Derived.Test.YthhknjlmjefklaaGreatDoorBF
namespace Go.Proofs.YthhknjlmjefklaaGreatDoor
open Go.Proofs.Tryz
open Go.RowKit
namespace y8
def blk(c:UInt8):Bool:=c == 32 || c == 9 || c == 10 || c == 13
def cst(c:UInt8):Bool:=decide (33≤c.toNat) && decide (c.toNat≤126) && !(c == 40) && !(c == 41) && !(c == 39) && !(c == 34) && !(c == 59) && !(c == 124) && !(c == 58)
def dm(c:UInt8):Bool:=decide (48≤c.toNat) && decide (c.toNat≤57)
def few(c:UInt8):Bool:=blk c || c == 40 || c == 41 || (cst c && !(c == 35) && !(c == 46) && !(c == 47))
def isNum(w:aa0):Bool :=
 let r:=if w.head?=some 45 then w.drop 1 else w
 !(r.takeWhile dm).isEmpty && (r.takeWhile dm).length == r.length
structure Tok where
 kind:Int
 pos:Nat
 text:aa0
 den:aa0
def toks:Nat→Nat→aa0→List Tok
 |0,_,_=>[]
 |_+1,i,[]=>[⟨0,i,[],[]⟩]
 |f+1,i,c::r =>
  if blk c then toks f (i+1) r
  else if c == 40 then ⟨1,i,[],[]⟩::toks f (i+1) r
  else if c == 41 then ⟨2,i,[],[]⟩::toks f (i+1) r
  else (if isNum (c::r.takeWhile cst) then ⟨5,i,c::r.takeWhile cst,[49]⟩ else ⟨6,i,c::r.takeWhile cst,[]⟩)::toks f (i+((r.takeWhile cst).length+1)) (r.dropWhile cst)
def vJ(w:aa0):Bool:=if isNum w then w == [48] || w == [49] || w == [45,49] else decide (w.length≤40) && (match w with | []=>false | c::_=>!(c == 45) && !dm c) && !(w == [46])
def b2W(l:List Tok):Bool:=l.all fun t=>if t.kind=5∨t.kind=6 then vJ t.text else true
def numOf(w:aa0):Rat:=if w=[49] then 1 else if w=[45,49] then -1 else 0
mutual
def mZ:Nat→Nat→List Tok→Option (Tr×List Tok)
 |0,_,_=>none
 |f+1,d,ts=>match ts with
  |[]=>none
  |t::r =>
   if t.kind=5 then some (.num (numOf t.text),r)
   else if t.kind=6 then some (.sym x8 t.text,r)
   else if t.kind=1∧d≤200 then match oQ f (d+1) r with
    |some (l,r')=>some (Tr.list l,r')
    |none=>none
   else none
def oQ:Nat→Nat→List Tok→Option (List Tr×List Tok)
 |0,_,_=>none
 |f+1,d,ts=>match ts with
  |[]=>none
  |t::r =>
   if t.kind=2 then some ([],r)
   else match mZ f d (t::r) with
    |some (x,r1)=>match oQ f d r1 with
     |some (l,r2)=>some (x::l,r2)
     |none=>none
    |none=>none
end
def lL:Nat→List Tok→Option (List Tr)
 |0,_=>none
 |f+1,ts=>match ts with
  |[]=>none
  |t::r =>
   if t.kind=0 then some []
   else match mZ f 0 (t::r) with
    |some (x,r1)=>match lL f r1 with
     |some l=>some (x::l)
     |none=>none
    |none=>none
def items:Tr→Option (List Tr)
 |.cons a d=>match items d with
  |some l=>some (a::l)
  |none=>none
 |.sym p n=>if p=x8∧n=aQ then some [] else none
 |_=>none
def call(n:aa0)(l:List Tr):Tr:=.cons (.sym x8 n) (Tr.list l)
def AP:Tr:=.sym x8 aQ
def tX:Tr:=.sym x8 [116]
def expand(n:aa0)(l:List Tr):Option Tr :=
 if n=[108,105,115,116] then match l with
  |[]=>some AP
  |x::r=>some (call [99,111,110,115] [x,call n r])
 else if n=[97,112,112,101,110,100] then match l with
  |[]=>some AP
  |[x]=>some x
  |x::r=>some (call [98,105,110,97,114,121,45,97,112,112,101,110,100] [x,call n r])
 else if n=[97,110,100] then match l with
  |[]=>some tX
  |[x]=>some x
  |x::r=>some (call Te.Q7 [x,call n r,AP])
 else if n=[111,114] then match l with
  |[]=>some AP
  |[x]=>some x
  |x::r=>some (call Te.Q7 [x,x,call n r])
 else if n=[99,111,110,100] then match l with
  |[]=>some AP
  |x::r=>match items x with
   |some [a,b]=>some (call Te.Q7 [a,b,call n r])
   |_=>none
 else if n=[43] then match l with
  |[x,y]=>some (call [98,105,110,97,114,121,45,43] [x,y])
  |x::y::z::r=>some (call [98,105,110,97,114,121,45,43] [x,call n (y::z::r)])
  |_=>none
 else none
def Qk:List (aa0):=[[108,105,115,116],[108,105,115,116,42],[97,110,100],[111,114],[99,111,110,100],[43],[42],[45],[47],[60,61],[62],[62,61],[97,112,112,101,110,100]]
def Di:List (aa0):=[[113,117,111,116,101],[108,101,116],[108,101,116,42]]
mutual
def sJ(ar:aa0→Option Nat):Nat→Int→Tr→Option (Te×Int)
 |0,_,_=>none
 |f+1,m,x=>match x with
  |.num q=>if q=0∨q=1∨q=-1 then some (Te.G9 (Tr.num q).ob,m) else none
  |.txt _=>none
  |.sym p n=>if p.length≤1000∧n.length≤1000 then (if Te.AO p n then some (⟨1,p,n,Te.V9,[]⟩,m) else some (Te.G9 (Tr.sym p n).ob,m)) else none
  |.cons a d=>match items (.cons a d) with
   |some (.sym p n::l) =>
    if p=x8∧n.length≤1000∧n ∉ Di∧l.length≤500 then
     if n∈Qk then match expand n l with
      |some o=>if 1≤m then sJ ar f (m - 1) o else none
      |none=>none
     else match AQ ar f m l with
      |some (ts,m')=>if ar n=some ts.length then some (⟨3,p,n,Te.V9,ts⟩,m') else none
      |none=>none
    else none
   |_=>none
def AQ(ar:aa0→Option Nat):Nat→Int→List Tr→Option (List Te×Int)
 |0,_,_=>none
 |f+1,m,l=>match l with
  |[]=>some ([],m)
  |x::r=>match sJ ar f m x with
   |some (t,m1)=>match AQ ar f m1 r with
    |some (ts,m2)=>some (t::ts,m2)
    |none=>none
   |none=>none
end
structure H8 where
 nm:aa0
 ps:List (aa0)
 guard:Te
 body:Te
 measure:Te
def JZ:List Tr→Option (List (aa0))
 |[]=>some []
 |.sym p n::r=>if p=x8 then (JZ r).map (n::·) else none
 |_=>none
def option(nm:aa0):List Tr→Option (Option Tr)
 |x::y::r=>match items x with
  |some [.sym p n,b]=>if p=x8∧n=nm then some (some b) else option nm (y::r)
  |_=>none
 |_=>some none
def xG(qh:List (aa0×Nat))(n:aa0):Option Nat:=(qh.find? fun x=>x.1 == n).map (·.2)
def arity(qh:List (aa0×Nat))(ws:List H8)(nm:aa0)(ps:List (aa0))(n:aa0):Option Nat :=
 if nm=n then some ps.length else match xG qh n with
  |some k=>some k
  |none=>(ws.find? fun f=>f.nm == n).map (·.ps.length)
def Fv(ar:aa0→Option Nat)(x:Tr):Option Te:=match sJ ar 100 500 x with
 |some (t,_)=>if t.valid then some t else none
 |none=>none
def a2B(ar:aa0→Option Nat)(d:Te):Option (Option Tr)→Option Te
 |none=>none
 |some none=>some d
 |some (some o)=>Fv ar o
def zS:aa0:=[103,117,97,114,100]
def Ag:aa0:=[109,101,97,115,117,114,101]
def entry(qh:List (aa0×Nat))(ws:List H8)(form:Tr):Option H8:=match items form with
 |some (d::.sym p nm::px::y::r)=>match items px with
  |some pl=>match JZ pl with
   |some ps =>
    if p=x8∧nm.length≤1000∧ps≠[]∧ps.length≤8∧r.length≤100 then
     match Fv (arity qh ws nm ps) ((y::r).getLast I),a2B (arity qh ws nm ps) Te.G8 (option zS (y::r)),a2B (arity qh ws nm ps) Te.N9 (option Ag (y::r)) with
     |some b,some g,some m=>some ⟨nm,ps,g,b,m⟩
     |_,_,_=>none
    else none
   |none=>none
  |none=>none
 |_=>none
def world(qh:List (aa0×Nat)):List Tr→List H8→Option (List H8)
 |[],ws=>some ws
 |x::r,ws=>match entry qh ws x with
  |some f=>world qh r (ws++[f])
  |none=>none
end y8
def mD:aa0:=[40,100,101,102,117,110,32,110,111,116,32,40,112,41,32,40,105,102,32,112,32,110,105,108,32,116,41,41,10,40,100,101,102,117,110,32,105,109,112,108,105,101,115,32,40,112,32,113,41,32,40,105,102,32,112,32,40,105,102,32,113,32,116,32,110,105,108,41,32,116,41,41,10,40,100,101,102,117,110,32,105,102,102,32,40,112,32,113,41,32,40,105,102,32,112,32,40,105,102,32,113,32,116,32,110,105,108,41,32,40,105,102,32,113,32,110,105,108,32,116,41,41,41,10,40,100,101,102,117,110,32,98,111,111,108,101,97,110,112,32,40,120,41,32,40,105,102,32,40,101,113,117,97,108,32,120,32,116,41,32,116,32,40,101,113,117,97,108,32,120,32,110,105,108,41,41,41,10,40,100,101,102,117,110,32,115,121,110,116,97,120,112,32,40,120,41,32,116,41,10,40,100,101,102,117,110,32,97,116,111,109,32,40,120,41,32,40,110,111,116,32,40,99,111,110,115,112,32,120,41,41,41,10,40,100,101,102,117,110,32,101,110,100,112,32,40,120,41,32,40,103,117,97,114,100,32,40,111,114,32,40,99,111,110,115,112,32,120,41,32,40,101,113,117,97,108,32,120,32,110,105,108,41,41,41,32,40,110,111,116,32,40,99,111,110,115,112,32,120,41,41,41,10,40,100,101,102,117,110,32,102,105,120,32,40,120,41,32,40,105,102,32,40,114,97,116,105,111,110,97,108,112,32,120,41,32,120,32,48,41,41,10,40,100,101,102,117,110,32,105,102,105,120,32,40,120,41,32,40,105,102,32,40,105,110,116,101,103,101,114,112,32,120,41,32,120,32,48,41,41,10,40,100,101,102,117,110,32,110,97,116,112,32,40,120,41,32,40,105,102,32,40,105,110,116,101,103,101,114,112,32,120,41,32,40,110,111,116,32,40,60,32,120,32,48,41,41,32,110,105,108,41,41,10,40,100,101,102,117,110,32,112,111,115,112,32,40,120,41,32,40,105,102,32,40,105,110,116,101,103,101,114,112,32,120,41,32,40,60,32,48,32,120,41,32,110,105,108,41,41,10,40,100,101,102,117,110,32,110,102,105,120,32,40,120,41,32,40,105,102,32,40,110,97,116,112,32,120,41,32,120,32,48,41,41,10,40,100,101,102,117,110,32,122,112,32,40,120,41,32,40,103,117,97,114,100,32,40,110,97,116,112,32,120,41,41,32,40,105,102,32,40,105,110,116,101,103,101,114,112,32,120,41,32,40,110,111,116,32,40,60,32,48,32,120,41,41,32,116,41,41,10,40,100,101,102,117,110,32,99,111,117,110,116,32,40,120,41,32,40,109,101,97,115,117,114,101,32,40,99,111,117,110,116,32,120,41,41,32,40,105,102,32,40,99,111,110,115,112,32,120,41,32,40,43,32,49,32,40,99,111,117,110,116,32,40,99,97,114,32,120,41,41,32,40,99,111,117,110,116,32,40,99,100,114,32,120,41,41,41,32,48,41,41,10,40,100,101,102,117,110,32,111,45,102,105,110,112,32,40,120,41,32,40,110,111,116,32,40,99,111,110,115,112,32,120,41,41,41,10,40,100,101,102,117,110,32,111,45,102,105,114,115,116,45,101,120,112,111,110,101,110,116,32,40,120,41,32,40,105,102,32,40,99,111,110,115,112,32,120,41,32,40,99,97,114,32,40,99,97,114,32,120,41,41,32,48,41,41,10,40,100,101,102,117,110,32,111,45,102,105,114,115,116,45,99,111,101,102,102,105,99,105,101,110,116,32,40,120,41,32,40,105,102,32,40,99,111,110,115,112,32,120,41,32,40,99,100,114,32,40,99,97,114,32,120,41,41,32,120,41,41,10,40,100,101,102,117,110,32,111,45,114,101,115,116,32,40,120,41,32,40,105,102,32,40,99,111,110,115,112,32,120,41,32,40,99,100,114,32,120,41,32,48,41,41,10,40,100,101,102,117,110,32,111,60,32,40,120,32,121,41,32,40,109,101,97,115,117,114,101,32,40,99,111,117,110,116,32,120,41,41,10,32,32,40,99,111,110,100,32,40,40,111,45,102,105,110,112,32,120,41,32,40,105,102,32,40,99,111,110,115,112,32,121,41,32,116,32,40,60,32,120,32,121,41,41,41,10,32,32,32,32,32,32,32,32,40,40,111,45,102,105,110,112,32,121,41,32,110,105,108,41,10,32,32,32,32,32,32,32,32,40,40,110,111,116,32,40,101,113,117,97,108,32,40,111,45,102,105,114,115,116,45,101,120,112,111,110,101,110,116,32,120,41,32,40,111,45,102,105,114,115,116,45,101,120,112,111,110,101,110,116,32,121,41,41,41,10,32,32,32,32,32,32,32,32,32,40,111,60,32,40,111,45,102,105,114,115,116,45,101,120,112,111,110,101,110,116,32,120,41,32,40,111,45,102,105,114,115,116,45,101,120,112,111,110,101,110,116,32,121,41,41,41,10,32,32,32,32,32,32,32,32,40,40,110,111,116,32,40,101,113,117,97,108,32,40,111,45,102,105,114,115,116,45,99,111,101,102,102,105,99,105,101,110,116,32,120,41,32,40,111,45,102,105,114,115,116,45,99,111,101,102,102,105,99,105,101,110,116,32,121,41,41,41,10,32,32,32,32,32,32,32,32,32,40,60,32,40,111,45,102,105,114,115,116,45,99,111,101,102,102,105,99,105,101,110,116,32,120,41,32,40,111,45,102,105,114,115,116,45,99,111,101,102,102,105,99,105,101,110,116,32,121,41,41,41,10,32,32,32,32,32,32,32,32,40,116,32,40,111,60,32,40,111,45,114,101,115,116,32,120,41,32,40,111,45,114,101,115,116,32,121,41,41,41,41,41,10,40,100,101,102,117,110,32,111,45,112,32,40,120,41,32,40,109,101,97,115,117,114,101,32,40,99,111,117,110,116,32,120,41,41,10,32,32,40,105,102,32,40,111,45,102,105,110,112,32,120,41,10,32,32,32,32,32,32,40,110,97,116,112,32,120,41,10,32,32,32,32,40,97,110,100,32,40,99,111,110,115,112,32,40,99,97,114,32,120,41,41,10,32,32,32,32,32,32,32,32,32,40,111,45,112,32,40,111,45,102,105,114,115,116,45,101,120,112,111,110,101,110,116,32,120,41,41,10,32,32,32,32,32,32,32,32,32,40,110,111,116,32,40,101,113,117,97,108,32,40,111,45,102,105,114,115,116,45,101,120,112,111,110,101,110,116,32,120,41,32,48,41,41,10,32,32,32,32,32,32,32,32,32,40,112,111,115,112,32,40,111,45,102,105,114,115,116,45,99,111,101,102,102,105,99,105,101,110,116,32,120,41,41,10,32,32,32,32,32,32,32,32,32,40,111,45,112,32,40,111,45,114,101,115,116,32,120,41,41,10,32,32,32,32,32,32,32,32,32,40,111,60,32,40,111,45,102,105,114,115,116,45,101,120,112,111,110,101,110,116,32,40,111,45,114,101,115,116,32,120,41,41,32,40,111,45,102,105,114,115,116,45,101,120,112,111,110,101,110,116,32,120,41,41,41,41,41,10,40,100,101,102,117,110,32,108,101,110,32,40,120,41,32,40,109,101,97,115,117,114,101,32,40,99,111,117,110,116,32,120,41,41,32,40,105,102,32,40,99,111,110,115,112,32,120,41,32,40,43,32,49,32,40,108,101,110,32,40,99,100,114,32,120,41,41,41,32,48,41,41,10,40,100,101,102,117,110,32,116,114,117,101,45,108,105,115,116,112,32,40,120,41,32,40,109,101,97,115,117,114,101,32,40,99,111,117,110,116,32,120,41,41,32,40,105,102,32,40,99,111,110,115,112,32,120,41,32,40,116,114,117,101,45,108,105,115,116,112,32,40,99,100,114,32,120,41,41,32,40,101,113,117,97,108,32,120,32,110,105,108,41,41,41,10,40,100,101,102,117,110,32,98,105,110,97,114,121,45,97,112,112,101,110,100,32,40,120,32,121,41,32,40,103,117,97,114,100,32,40,116,114,117,101,45,108,105,115,116,112,32,120,41,41,32,40,109,101,97,115,117,114,101,32,40,99,111,117,110,116,32,120,41,41,10,32,32,40,105,102,32,40,99,111,110,115,112,32,120,41,32,40,99,111,110,115,32,40,99,97,114,32,120,41,32,40,98,105,110,97,114,121,45,97,112,112,101,110,100,32,40,99,100,114,32,120,41,32,121,41,41,32,121,41,41,10,40,100,101,102,117,110,32,114,101,118,32,40,120,41,32,40,109,101,97,115,117,114,101,32,40,99,111,117,110,116,32,120,41,41,10,32,32,40,105,102,32,40,99,111,110,115,112,32,120,41,32,40,97,112,112,101,110,100,32,40,114,101,118,32,40,99,100,114,32,120,41,41,32,40,108,105,115,116,32,40,99,97,114,32,120,41,41,41,32,110,105,108,41,41,10,40,100,101,102,117,110,32,109,101,109,98,101,114,45,101,113,117,97,108,32,40,101,32,120,41,32,40,103,117,97,114,100,32,40,116,114,117,101,45,108,105,115,116,112,32,120,41,41,32,40,109,101,97,115,117,114,101,32,40,99,111,117,110,116,32,120,41,41,10,32,32,40,105,102,32,40,99,111,110,115,112,32,120,41,32,40,105,102,32,40,101,113,117,97,108,32,101,32,40,99,97,114,32,120,41,41,32,120,32,40,109,101,109,98,101,114,45,101,113,117,97,108,32,101,32,40,99,100,114,32,120,41,41,41,32,110,105,108,41,41,10,40,100,101,102,117,110,32,97,115,115,111,99,45,101,113,117,97,108,32,40,107,32,97,41,32,40,109,101,97,115,117,114,101,32,40,99,111,117,110,116,32,97,41,41,10,32,32,40,99,111,110,100,32,40,40,110,111,116,32,40,99,111,110,115,112,32,97,41,41,32,110,105,108,41,10,32,32,32,32,32,32,32,32,40,40,97,110,100,32,40,99,111,110,115,112,32,40,99,97,114,32,97,41,41,32,40,101,113,117,97,108,32,107,32,40,99,97,114,32,40,99,97,114,32,97,41,41,41,41,32,40,99,97,114,32,97,41,41,10,32,32,32,32,32,32,32,32,40,116,32,40,97,115,115,111,99,45,101,113,117,97,108,32,107,32,40,99,100,114,32,97,41,41,41,41,41,10,40,100,101,102,117,110,32,110,116,104,32,40,110,32,120,41,32,40,103,117,97,114,100,32,40,97,110,100,32,40,110,97,116,112,32,110,41,32,40,116,114,117,101,45,108,105,115,116,112,32,120,41,41,41,32,40,109,101,97,115,117,114,101,32,40,110,102,105,120,32,110,41,41,10,32,32,40,105,102,32,40,122,112,32,110,41,32,40,99,97,114,32,120,41,32,40,110,116,104,32,40,43,32,45,49,32,110,41,32,40,99,100,114,32,120,41,41,41,41,10,40,100,101,102,117,110,32,117,112,100,97,116,101,45,110,116,104,32,40,110,32,118,32,120,41,32,40,103,117,97,114,100,32,40,97,110,100,32,40,110,97,116,112,32,110,41,32,40,116,114,117,101,45,108,105,115,116,112,32,120,41,41,41,32,40,109,101,97,115,117,114,101,32,40,110,102,105,120,32,110,41,41,10,32,32,40,105,102,32,40,122,112,32,110,41,32,40,99,111,110,115,32,118,32,40,99,100,114,32,120,41,41,32,40,99,111,110,115,32,40,99,97,114,32,120,41,32,40,117,112,100,97,116,101,45,110,116,104,32,40,43,32,45,49,32,110,41,32,118,32,40,99,100,114,32,120,41,41,41,41,41,10]
namespace y8
theorem yN{α:Type}(p:α→Bool)(l:List α):(l.takeWhile p).length+(l.dropWhile p).length=l.length:=by
 rw[←Za4,List.takeWhile_append_dropWhile]
theorem drop_tw{α:Type}(p:α→Bool)(l:List α):l.drop (l.takeWhile p).length=l.dropWhile p:=by
 have h:=List.takeWhile_append_dropWhile (p:=p) (l:=l);have e:(l.takeWhile p++l.dropWhile p).drop (l.takeWhile p).length=l.dropWhile p:=List.drop_left
 rwa [h]at e
theorem a7c:∀(f g i:Nat) (r:aa0),r.length < f→r.length < g→toks f i r=toks g i r:=by
 intro f
 induction f with
 |zero=>intro g i r h;omega
 |succ f ih =>
  intro g i r h1 h2;cases g with
  |zero=>omega
  |succ g =>
   cases r with
   |nil=>rw[toks,toks]
   |cons c r =>
    rw[Za1]at h1 h2;rw[toks,toks];rw[ih g (i+1) r J J];by_cases hb:blk c=true
    ·rw[Za0 hb,Za0 hb]
    rw[lw hb,lw hb];by_cases lM:(c == 40)=true
    ·rw[Za0 lM,Za0 lM]
    rw[lw lM,lw lM];by_cases sK:(c == 41)=true
    ·rw[Za0 sK,Za0 sK]
    rw[lw sK,lw sK];have hl:=yN cst r;rw[ih g _ _ J J]
def tk(i:Nat)(r:aa0):List Tok:=toks (r.length+1) i r
theorem a0c(i:Nat):tk i []=[⟨0,i,[],[]⟩]:=by rw[tk,toks]
theorem b2X{i:Nat}{c:UInt8}{r:aa0}(h:blk c=true):tk i (c::r)=tk (i+1) r:=by
 rw[tk,toks,Za0 h];rfl
theorem b0r{i:Nat}{r:aa0}:tk i (40::r)=⟨1,i,[],[]⟩::tk (i+1) r:=by
 rw[tk,toks,lw O,Za0 O];rfl
theorem a8n{i:Nat}{r:aa0}:tk i (41::r)=⟨2,i,[],[]⟩::tk (i+1) r:=by
 rw[tk,toks,lw O,lw O,Za0 O];rfl
def EN(i:Nat)(w:aa0):Tok:=if isNum w then ⟨5,i,w,[49]⟩ else ⟨6,i,w,[]⟩
theorem b0s{c:UInt8}(h:cst c=true):blk c=false∧(c == 40)=false∧(c == 41)=false:=by
 unfold cst at h;simp only[AC,Za3,Bool.not_eq_true']at h;obtain⟨⟨⟨⟨⟨⟨⟨⟨h1,h2⟩,h3⟩,h4⟩,_⟩,_⟩,_⟩,_⟩,_⟩:=h;refine⟨?_,h3,h4⟩;have ne:∀k:UInt8,k.toNat < 33→(c == k)=false:=fun k hk=>by
  rw[IR];intro e;rw[e]at h1;omega
 unfold blk;rw[ne 32 O,ne 9 O,ne 10 O,ne 13 O];rfl
theorem b0t{i:Nat}{c:UInt8}{r:aa0}(h:cst c=true):tk i (c::r)=EN i ((c::r).takeWhile cst)::tk (i+((c::r).takeWhile cst).length) ((c::r).drop ((c::r).takeWhile cst).length):=by
 obtain⟨h1,h2,h3⟩:=b0s h;rw[drop_tw,List.takeWhile_cons,Za0 h,List.dropWhile_cons,Za0 h];rw[tk,toks,lw (by rw[h1];decide),lw (by rw[h2];decide),lw (by rw[h3];decide)];simp only[Za1];rw[tk,a7c _ ((r.dropWhile cst).length+1) _ _ (by have:=yN cst r;omega) J]
 rfl
theorem YO:∀(i:Nat) (r:aa0),tk i r=tk (i+(r.takeWhile blk).length) (r.drop (r.takeWhile blk).length)
 |i,[]=>rfl
 |i,c::r=>by
  cases h:blk c with
  |false=>rw[List.takeWhile_cons,lw (by rw[h];decide)];rfl
  |true =>
   rw[b2X h,YO (i+1) r,List.takeWhile_cons,Za0 h,Za1,List.drop_succ_cons];congr 1;omega
end y8
theorem a2C:(prog).fieldsOf 28=#[⟨"Package", 9,0,false, "", "", 0⟩,⟨"Name", 9,1,false, "", "", 16⟩]:=by kernel_rfl
theorem Um:prog.underlying 28=some (.struct (prog.fieldsOf 28)):=by kernel_rfl
theorem syH:prog.stoodInHeld 28=false:=by kernel_rfl
theorem syG:prog.eqGuardType prog.depth 28=false:=by kernel_rfl
theorem IP(p s:aa0)(w:World):(part 9 #[str p,str s] 0).run prog w=.ok (str p) w∧(part 9 #[str p,str s] 1).run prog w=.ok (str s) w:=by
 constructor <;> simp[part]
theorem Ox{p s p' s':aa0}(w:World):(Op.equalIn 10000 28 (.agg #[str p,str s]) (.agg #[str p',str s'])).run prog w=.ok (decide (p=p') && decide (s=s')) w:=by
 rw[run_equalIn_agg w 9999 _ _ _ Um syH,a2C];have e1:=run_equalIn_string (P:=prog) w 9998 9 ⟨p.toArray⟩ ⟨p'.toArray⟩ Tryz.underlying9;have e2:=run_equalIn_string (P:=prog) w 9998 9 ⟨s.toArray⟩ ⟨s'.toArray⟩ Tryz.underlying9;rw[VR,VR,BA]at e1 e2;simp only[Op.eqFields,Za8,(IP p s w).1,(IP p s w).2,(IP p' s' w).1,(IP p' s' w).2,Result.andThen_ok,e1,e2,ne_eq,Sem.run_ite,Zab];cases decide (p=p') <;> cases decide (s=s') <;> simp
theorem aO{x y:Operand}{p s p' s':aa0}{r:Bool}(h:(decide (p=p') && decide (s=s'))=r):dS prog .eql 28 x y (.agg #[str p,str s]) (.agg #[str p',str s']) (.bool r):=by
 intro w;rw[←h];simp only[Za8,run_eqGuard_agg w .eql _ x y _ _ syG,Result.andThen_ok,run_eql_struct,Ox]
theorem H7{P:Program}{t:TypeId}{x y:Operand}{k:IntKind}{a b:Int}{r:Bool}(h:decide (a=b)=!r):dS P .neq t x y (.int k a) (.int k b) (.bool r):=by
 refine kV ?_;simp only[lF,decide_true];show some (Value.bool (!(a == b)))=_;rw[BA a b,h,Bool.not_not]
abbrev y7(p n:aa0):AV:=.agg [stA p,stA n]
theorem zn(o:Ob):l7 45 [x9 o] (y9 (Te.G9 o)):=pV [] [] func45 trivial
theorem lZ(o:Ob):l7 13 [x9 o] (y9 (Te.G9 o)):=pV [] [] func13 trivial
theorem a0d(p n:aa0):l7 82 [y7 p n] (x9 ⟨2,[],[],p,n,[],[]⟩):=pV [] [] func82 trivial
theorem DI(p n:aa0):l7 59 [y7 p n] (x9 ⟨2,[],[],p,n,[],[]⟩):=pV [] [] func59 trivial
theorem a0e:l7 48 [] (x9 U6):=pV [.av (x9 U6)] [l7 82 [(y7 [108,105,115,112] [110,105,108])] (x9 U6)] func48 ⟨a0d _ _,Z⟩
theorem SY:l7 47 [] (x9 tO):=pV [.av (x9 tO)] [l7 82 [(y7 [108,105,115,112] [116])] (x9 tO)] func47 ⟨a0d _ _,Z⟩
theorem O1(n:aa0):l7 29 [stA n] (y7 x8 n):=pV [] [] func29 trivial
theorem ry:l7 28 [] (x9 U6):=pV [.av (y7 x8 [110,105,108]),.av (x9 U6)] [l7 29 [(stA [110,105,108])] (y7 x8 [110,105,108]),l7 59 [(y7 x8 [110,105,108])] (x9 U6)] func28 ⟨O1 _,DI _ _,Z⟩
theorem EO:l7 64 [] (x9 tO):=pV [.av (y7 x8 [116]),.av (x9 tO)] [l7 29 [(stA [116])] (y7 x8 [116]),l7 59 [(y7 x8 [116])] (x9 tO)] func64 ⟨O1 _,DI _ _,Z⟩
abbrev BB(p n:aa0)(rs:aa1):AV:=.agg [inA 3,stA p,stA n,inA 0,stA [],stA [],stA [],stA [],stA [],.dt (.row []),.dt (.row rs)]
theorem b2Y(p n:aa0)(rs:aa1):l7 79 [y7 p n,.dt (.row rs)] (BB p n rs):=pV [] [] func79 trivial
theorem IQ(p n:aa0)(rs:aa1):l7 23 [y7 p n,.dt (.row rs)] (BB p n rs):=pV [] [] func23 trivial
theorem a8o(n:aa0)(rs:aa1):l7 43 [stA n,.dt (.row rs)] (BB x8 n rs):=pV [.av (BB x8 n rs)] [l7 79 [(y7 [108,105,115,112] n),(.dt (.row rs))] (.agg [(inA 3),(stA x8),(stA n),(inA 0),(stA []),(stA []),(stA []),(stA []),(stA []),(.dt (.row [])),(.dt (.row rs))])] func43 ⟨b2Y _ _ _,Z⟩
theorem a8p(n:aa0)(rs:aa1):l7 27 [stA n,.dt (.row rs)] (BB x8 n rs):=pV [.av (y7 x8 n),.av (BB x8 n rs)] [l7 29 [(stA n)] (y7 x8 n),l7 23 [(y7 x8 n),(.dt (.row rs))] (.agg [(inA 3),(stA x8),(stA n),(inA 0),(stA []),(stA []),(stA []),(stA []),(stA []),(.dt (.row [])),(.dt (.row rs))])] func27 ⟨O1 n,IQ _ _ _,Z⟩
theorem mg(n:aa0)(l:List Te){rs:aa1}(h:rs=l.map Te.enc):l7 43 [stA n,.dt (.row rs)] (y9 (Te.ap n l)):=by subst h;exact a8o _ _
theorem b0u(n:aa0)(l:List Te){rs:aa1}(h:rs=l.map Te.enc):l7 27 [stA n,.dt (.row rs)] (y9 (Te.ap n l)):=by subst h;exact a8p _ _
theorem a8q{o:Ob}(h:o.Wf):l7 16 [x9 o] (o6 (sameD o U6)) :=
 ⟨V8 func16 rfl (by kernel_rfl),fun ok w vs _ hv=>by
  obtain⟨A,n,c,rfl,hr⟩:=hv.zC;exact (VI ok o h A n c w hr).mono fun _ _ h=>h.pure⟩
theorem b2Z{a:Ob}(h:a.Wf)(b:Ob):l7 112 [x9 a,x9 b] (o6 (sameD a b)) :=
 ⟨V8 func112 rfl (by kernel_rfl),fun ok w vs _ hv=>by
  obtain⟨A,n,c,A',n',c',rfl,hr,hr'⟩:=hv.wP;exact (VE ok ok a.size a b (NE _) h A A' n n' c c' w hr hr').mono fun _ _ h=>h.pure⟩
theorem b21{a:Ob}(h:a.Wf)(b:Ob):l7 50 [x9 a,x9 b] (o6 (sameD a b)) :=
 ⟨V8 func50 rfl (by kernel_rfl),fun ok w vs _ hv=>by
  obtain⟨A,n,c,A',n',c',rfl,hr,hr'⟩:=hv.wP;exact (Nu ok ok a.size a b (NE _) h A A' n n' c c' w hr hr').mono fun _ _ h=>h.pure⟩
theorem isD{t:Te}{n:aa0}{k:Nat}:decide (t.is n k)=(decide (t.kind=3) && (decide (t.np=x8) && decide (t.nn=n) && decide (t.args.length=k))):=by
 show decide (_∧_∧_∧_)=_;simp[Bool.and_assoc]
theorem b48(t:Te)(n:aa0)(k:Nat):l7 86 [y9 t,stA n,inA k] (o6 (decide (t.is n k))):=by
 rw[isD];cases hk:decide (t.kind=3) with
 |false=>exact pV [yF] [Bk .eql 3 8 3 t.kind bF] func86 ⟨F6 hk,Z⟩
 |true =>
  cases hs:decide (t.np=x8) && decide (t.nn=n) with
  |false=>exact pV [yT,.av (y7 x8 n),yF] [Bk .eql 3 8 3 t.kind bT,l7 29 [(stA n)] (y7 x8 n),Bn .eql 28 (.tmp 12) (.tmp 14) (Value.agg #[str t.np,str t.nn]) (Value.agg #[str x8,str n]) bF] func86 ⟨F6 hk,O1 n,aO hs,Z⟩
  |true=>exact pV [yT,.av (y7 x8 n),yT,.av (inA t.args.length),.av (o6 (decide (t.args.length=k)))] [Bk .eql 3 8 3 t.kind bT,l7 29 [(stA n)] (y7 x8 n),Bn .eql 28 (.tmp 12) (.tmp 14) (Value.agg #[str t.np,str t.nn]) (Value.agg #[str x8,str n]) bT,(vi ↑t.args.length)=(vi (↑(List.map Te.enc t.args).length)),Bt .eql 3 20 21 ↑t.args.length ↑k (Value.bool (decide (t.args.length=k)))] func86 ⟨F6 hk,O1 n,aO hs,O6 _,F6 (by rw[Zam];omega),Z⟩
namespace Te
theorem Wf.val{t:Te}(h:t.Wf):t.val.Wf:=by cases h with | mk _ hv hl hx=>exact hv
theorem Wf.len{t:Te}(h:t.Wf):t.args.length≤9223372036854775807:=by cases h with | mk _ hv hl hx=>exact hl
theorem Wf.kids{t x:Te}(h:t.Wf)(hx:x∈t.args):x.Wf:=by cases h with | mk _ hv hl hh=>exact hh x hx
theorem a7d{x y:Te}{a b:List Te}:sameD (x::a) (y::b)=(sameD x y && sameD a b):=by
 unfold sameD;by_cases h1:x=y <;> by_cases h2:a=b <;> simp[h1,h2]
theorem same_iff{a b:Te}:sameD a b=(decide (a.kind=b.kind) && (decide (a.np=b.np) && decide (a.nn=b.nn)) && sameD a.val b.val && sameD a.args b.args):=by
 obtain⟨k,p,n,o,l⟩:=a;obtain⟨k',p',n',o',l'⟩:=b;unfold sameD;rw[Bool.eq_iff_iff];simp[and_assoc]
end Te
abbrev fEq:AV:=.ak 76 []
abbrev eqS(a b:List Te)(i:Int):AS:=⟨stt 32 [(1,O3 b),(2,fEq),(15,O3 a),(16,inA a.length),(17,inA i)],[]⟩
abbrev KY(b:Bool):AS:=⟨stt 32 [(6,o6 b)],[]⟩
abbrev eqN:AS:=⟨stt 32 [],[]⟩
noncomputable abbrev FB:Code:=V5 (ai f113) [1,1,0,1,0,0]
theorem a2D{a b:List Te}{x y:Te}{i:Nat}(hx:a[i]?=some x)(hy:b[i]?=some y)(hl:a.length≤9223372036854775807)(h:l7 76 [y9 x,y9 y] (o6 true)):D7 EX FB (eqS a b i) .I4 (eqS a b ((i+1:Nat):Int)) :=
 tW [yT,.av (.pin ((C9 x).map .dt)),.av (.pin ((C9 y).map .dt)),yT,.av (inA ((i+1:Nat):Int))] [] [1,2,15,16,17] 0 [Bt .lss 3 17 16 ↑i ↑a.length bT,E5 (List.map Te.enc a) ↑i 11 (C9 x),E5 (List.map Te.enc b) ↑i 11 (C9 y),l7 76 [(y9 x),(y9 y)] (o6 true),Bk .add 3 17 1 ↑i (vi (↑(i+1)))]     ⟨F8 (UV (by have:=(Pi.1 hx).1;omega)),Y9 hx,Y9 hy,h,N8 J J (by have:=(Pi.1 hx).1;omega),Z⟩
theorem b7I{a b:List Te}{i:Nat}(hi:i=a.length):D7 EX FB (eqS a b i) (.out 0) eqN :=
 tW [yF] [] [] 0 [Bt .lss 3 17 16 ↑i ↑a.length bF]     ⟨F8 (WF J),Z⟩
theorem b7J{a b:List Te}{x y:Te}{i:Nat}(hx:a[i]?=some x)(hy:b[i]?=some y)(h:l7 76 [y9 x,y9 y] (o6 false)):D7 EX FB (eqS a b i) .ret (KY false) :=
 tW [yT,.av (.pin ((C9 x).map .dt)),.av (.pin ((C9 y).map .dt)),yF] [] [6] 0 [Bt .lss 3 17 16 ↑i ↑a.length bT,E5 (List.map Te.enc a) ↑i 11 (C9 x),E5 (List.map Te.enc b) ↑i 11 (C9 y),l7 76 [(y9 x),(y9 y)] (o6 false)]     ⟨F8 (UV (by have:=(Pi.1 hx).1;omega)),Y9 hx,Y9 hy,h,Z⟩
theorem a8r{a b:List Te}(hl:a.length≤9223372036854775807)(h:∀x∈a,∀y,l7 76 [y9 x,y9 y] (o6 (sameD x y))):l7 113 [O3 a,O3 b,fEq] (o6 (sameD a b)):=by
 by_cases hne:a.length=b.length
 ·have loop:∀(s s':List Te) (i:Nat),a.drop i=s→b.drop i=s'→i≤a.length→(sameD s s'=true→Lps EX FB (eqS a b i) (.out 0) eqN)∧(sameD s s'=false→Lps EX FB (eqS a b i) .ret (KY false)):=by
   intro s
   induction s with
   |nil =>
    intro s' i hd hd' hi;have e1:=congrArg List.length hd;rw[Za7,List.length_nil]at e1;have e2:=congrArg List.length hd';rw[Za7]at e2;obtain rfl:s'=[]:=Za9 J;exact⟨fun _=>.stop (b7I J) (fun h=>by cases h),fun h=>by simp at h⟩
   |cons x s ih =>
    intro s' i hd hd' hi;have hx:a[i]?=some x:=by rw[←Zak,hd];rfl
    have hlt:=(Pi.1 hx).1;cases s' with
    |nil =>
     have e2:=congrArg List.length hd';rw[Za7,List.length_nil]at e2;omega
    |cons y s' =>
     have hy:b[i]?=some y:=by rw[←Zak,hd'];rfl
     have hc:=h x (Za5 hx) y;obtain⟨k1,k2⟩:=ih s' (i+1) (by rw[←Zaj,hd];rfl) (by rw[←Zaj,hd'];rfl) J;rw[Te.a7d];cases hxy:sameD x y with
     |true =>
      rw[hxy]at hc;rw[Zbq];exact⟨fun e=>.more (a2D hx hy hl hc) (k1 e),fun e=>.more (a2D hx hy hl hc) (k2 e)⟩
     |false =>
      rw[hxy]at hc;exact⟨fun e=>by simp at e,fun _=>.stop (b7J hx hy hc) (fun h=>by cases h)⟩
  obtain⟨k1,k2⟩:=loop a b 0 rfl rfl (ww _);cases hab:sameD a b with
  |true=>exact pW [.av (inA a.length),.av (inA b.length),yF,.av (inA a.length)] [.inv [1,2,15,16,17] 0 (.out 0) (eqN)] [(vi ↑a.length)=(vi (↑(List.map Te.enc a).length)),(vi ↑b.length)=(vi (↑(List.map Te.enc b).length)),Bt .neq 3 11 13 ↑a.length ↑b.length bF,(vi ↑a.length)=(vi (↑(List.map Te.enc a).length)),D7 EX (.loop (V5 (ai f113) [1,1,0,1,0,0])) (eqS a b 0) (.out 0) (eqN)] func113 ⟨O6 _,O6 _,H7 (by simp[hne]),O6 _,(k1 hab).tri,Z⟩
  |false=>exact pW [.av (inA a.length),.av (inA b.length),yF,.av (inA a.length)] [.inv [1,2,15,16,17] 0 (.ret) (KY false)] [(vi ↑a.length)=(vi (↑(List.map Te.enc a).length)),(vi ↑b.length)=(vi (↑(List.map Te.enc b).length)),Bt .neq 3 11 13 ↑a.length ↑b.length bF,(vi ↑a.length)=(vi (↑(List.map Te.enc a).length)),D7 EX (.loop (V5 (ai f113) [1,1,0,1,0,0])) (eqS a b 0) (.ret) (KY false)] func113 ⟨O6 _,O6 _,H7 (by simp[hne]),O6 _,(k2 hab).tri,Z⟩
 ·have e:sameD a b=false:=WF fun e=>hne (congrArg List.length e)
  rw[e];exact pV [.av (inA a.length),.av (inA b.length),yT] [(vi ↑a.length)=(vi (↑(List.map Te.enc a).length)),(vi ↑b.length)=(vi (↑(List.map Te.enc b).length)),Bt .neq 3 11 13 ↑a.length ↑b.length bT] func113 ⟨O6 _,O6 _,H7 (by simp;omega),Z⟩
theorem b49:∀(N:Nat) (a b:Te),a.size≤N→a.Wf→l7 76 [y9 a,y9 b] (o6 (sameD a b)):=by
 intro N
 induction N with
 |zero=>intro a b h;have:=Te.size_pos a;omega
 |succ N ih =>
  intro a b hN hw;rw[Te.same_iff];cases hk:decide (a.kind=b.kind) with
  |false=>exact pV [yF] [Bt .eql 3 6 8 a.kind b.kind bF] func76 ⟨F6 hk,Z⟩
  |true =>
   cases hs:decide (a.np=b.np) && decide (a.nn=b.nn) with
   |false=>exact pV [yT,yF] [Bt .eql 3 6 8 a.kind b.kind bT,Bn .eql 28 (.tmp 12) (.tmp 14) (Value.agg #[str a.np,str a.nn]) (Value.agg #[str b.np,str b.nn]) bF] func76 ⟨F6 hk,aO hs,Z⟩
   |true =>
    have h1:=b2Z hw.val b.val;cases hv:sameD a.val b.val with
    |false =>
     rw[hv]at h1;exact pV [yT,yT,yF] [Bt .eql 3 6 8 a.kind b.kind bT,Bn .eql 28 (.tmp 12) (.tmp 14) (Value.agg #[str a.np,str a.nn]) (Value.agg #[str b.np,str b.nn]) bT,_] func76 ⟨F6 hk,aO hs,h1,Z⟩
    |true =>
     rw[hv]at h1;exact pV [yT,yT,yT,.av (o6 (sameD a.args b.args))] [Bt .eql 3 6 8 a.kind b.kind bT,Bn .eql 28 (.tmp 12) (.tmp 14) (Value.agg #[str a.np,str a.nn]) (Value.agg #[str b.np,str b.nn]) bT,_,l7 113 [(.dt (.row (List.map Te.enc a.args))),(.dt (.row (List.map Te.enc b.args))),(.ak 76 [])] (o6 (sameD a.args b.args))] func76 ⟨F6 hk,aO hs,h1,a8r hw.len fun x hx y=>ih x y (by have:=Te.Ci hx;omega) (hw.kids hx),Z⟩
theorem a1z{a:Te}(h:a.Wf)(b:Te):l7 76 [y9 a,y9 b] (o6 (sameD a b)):=b49 _ a b (NE _) h
abbrev yh(c:List Te)(f:FuncId)(cs:List AV)(i:Int):AS:=⟨stt 19 [(0,O3 c),(1,.ak f cs),(7,inA c.length),(8,inA i)],[]⟩
abbrev Un(i:Int):AS:=⟨stt 19 [(4,inA i)],[]⟩
abbrev KZ:AS:=⟨stt 19 [],[]⟩
noncomputable abbrev FC:Code:=V5 (ai f123) [1,0,1,0,0]
theorem a2E{c:List Te}{f:FuncId}{cs:List AV}{x:Te}{i:Nat}(hx:c[i]?=some x)(hl:c.length≤9223372036854775807)(h:l7 f ([y9 x]++cs) (o6 false)):D7 EX FC (yh c f cs i) .I4 (yh c f cs ((i+1:Nat):Int)) :=
 tW [yT,.av (.pin ((C9 x).map .dt)),yF,.av (inA ((i+1:Nat):Int))] [] [0,1,7,8] 0 [Bt .lss 3 8 7 ↑i ↑c.length bT,E5 (List.map Te.enc c) ↑i 11 (C9 x),l7 f ([(y9 x)]++cs) (o6 false),Bk .add 3 8 1 ↑i (vi (↑(i+1)))]     ⟨F8 (UV (by have:=(Pi.1 hx).1;omega)),Y9 hx,h,N8 J J (by have:=(Pi.1 hx).1;omega),Z⟩
theorem b7K{c:List Te}{f:FuncId}{cs:List AV}{i:Nat}(hi:i=c.length):D7 EX FC (yh c f cs i) (.out 0) KZ :=
 tW [yF] [] [] 0 [Bt .lss 3 8 7 ↑i ↑c.length bF]     ⟨F8 (WF J),Z⟩
theorem b7L{c:List Te}{f:FuncId}{cs:List AV}{x:Te}{i:Nat}(hx:c[i]?=some x)(h:l7 f ([y9 x]++cs) (o6 true)):D7 EX FC (yh c f cs i) .ret (Un i) :=
 tW [yT,.av (.pin ((C9 x).map .dt)),yT] [] [4] 0 [Bt .lss 3 8 7 ↑i ↑c.length bT,E5 (List.map Te.enc c) ↑i 11 (C9 x),l7 f ([(y9 x)]++cs) (o6 true)]     ⟨F8 (UV (by have:=(Pi.1 hx).1;omega)),Y9 hx,h,Z⟩
theorem a8s{c:List Te}{f:FuncId}{cs:List AV}{p:Te→Bool}(hl:c.length≤9223372036854775807)(h:∀x∈c,l7 f ([y9 x]++cs) (o6 (p x))):∃k:Int,l7 123 [O3 c,.ak f cs] (inA k)∧decide (0≤k)=c.any p:=by
 have loop:∀(s:List Te) (i:Nat),c.drop i=s→i≤c.length→(s.any p=true→∃j:Nat,Lps EX FC (yh c f cs i) .ret (Un j))∧(s.any p=false→Lps EX FC (yh c f cs i) (.out 0) KZ):=by
  intro s
  induction s with
  |nil =>
   intro i hd hi;have e1:=congrArg List.length hd;rw[Za7,List.length_nil]at e1;exact⟨fun h=>by simp at h,fun _=>.stop (b7K J) (fun h=>by cases h)⟩
  |cons x s ih =>
   intro i hd hi;have hx:c[i]?=some x:=by rw[←Zak,hd];rfl
   have hlt:=(Pi.1 hx).1;have hc:=h x (Za5 hx);obtain⟨k1,k2⟩:=ih (i+1) (by rw[←Zaj,hd];rfl) J;rw[List.any_cons];cases hp:p x with
   |true =>
    rw[hp]at hc;exact⟨fun _=>⟨i,.stop (b7L hx hc) (fun h=>by cases h)⟩,fun e=>by simp at e⟩
   |false =>
    rw[hp]at hc;rw[Bool.false_or];exact⟨fun e=>(k1 e).elim fun j hj=>⟨j,.more (a2E hx hl hc) hj⟩,fun e=>.more (a2E hx hl hc) (k2 e)⟩
 obtain⟨k1,k2⟩:=loop c 0 rfl (ww _);cases hp:c.any p with
 |true =>
  obtain⟨j,hj⟩:=k1 hp;exact⟨j,pW [.av (inA c.length)] [.inv [0,1,7,8] 0 (.ret) (Un j)] [(vi ↑c.length)=(vi (↑(List.map Te.enc c).length)),_] func123 ⟨O6 _,hj.tri,Z⟩,UV J⟩
 |false=>exact⟨-1,pW [.av (inA c.length)] [.inv [0,1,7,8] 0 (.out 0) (KZ)] [(vi ↑c.length)=(vi (↑(List.map Te.enc c).length)),D7 EX (.loop (V5 (ai f123) [1,0,1,0,0])) (yh c f cs 0) (.out 0) (KZ)] func123 ⟨O6 _,(k2 hp).tri,Z⟩,rfl⟩
theorem a8t{c:List Te}{f:FuncId}{cs:List AV}{p:Te→Bool}(hl:c.length≤9223372036854775807)(h:∀x∈c,l7 f ([y9 x]++cs) (o6 (p x))):l7 96 [O3 c,.ak f cs] (o6 (c.any p)):=by
 obtain⟨k,h1,h2⟩:=a8s hl h;rw[←h2];exact pV [.av (inA k),.av (o6 (decide (0≤k)))] [_,Bk .geq 3 7 0 k (Value.bool (decide (0≤k)))] func96 ⟨h1,Z7 rfl,Z⟩
namespace Te
theorem dQ{t:Te}{n:aa0}{k i:Nat}(h:is t n k)(hi:i < k):t.args[i]?=some (t.arg i):=by
 have hl:t.args.length=k:=h.2.2.2;unfold arg;rw[bi,Za2 J];rfl
theorem oH(a:Te):[C9 a]=[a].map Te.enc:=by simp only[ZaC,Zb4,xg]
theorem row3(a b c:Te):[C9 a,C9 b,C9 c]=[a,b,c].map Te.enc:=by simp only[ZaC,Zb4,xg]
end Te
open Te
theorem jS(n:aa0)(a:Te):l7 43 [stA n,.dt (.row [C9 a])] (y9 (Te.ap n [a])):=mg n [a] (oH a)
theorem XA(n:aa0)(a:Te):l7 27 [stA n,.dt (.row [C9 a])] (y9 (Te.ap n [a])):=b0u n [a] (oH a)
theorem XB(n:aa0)(a b c:Te):l7 43 [stA n,.dt (.row [C9 a,C9 b,C9 c])] (y9 (Te.ap n [a,b,c])):=mg n [a,b,c] (row3 a b c)
theorem dh{p:Prop}[Decidable p](h:p):decide p=true:=UV h
theorem bI{p:Prop}[Decidable p](h:¬p):decide p=false:=WF h
end Go.Proofs.YthhknjlmjefklaaGreatDoor
namespace Go.Proofs.YthhknjlmjefklaaGreatDoor
open Go.Proofs.Tryz
open Go.RowKit
section
variable {X:Nat→Prop} {n0:Nat} {w0:World×Mm} {ok0:Nat→Prop} {M:Mm} {nt:Nat} {tm:Nat→AV} {bx:Nat→Option Bx} {a:Act} {w:World}
def Mm.aS(M:Mm)(k:Nat):Mm:=⟨M.m,M.F,fun b=>if b=k then some (none,0,0) else M.o b⟩
theorem Mm.Il(M:Mm)(k:Nat):(M.aS k).o k=some (none,0,0):=Za0 rfl
theorem Io{X':Nat→Prop}{m0:Nat}{k:Nat}(hS:aG X n0 M bx w)(hk:bx k=none):U1 X' m0 M w (M.aS k) w :=
 ⟨aN.refl _ _ _,fun _ _ _=>rfl,fun _ h _=>h,fun _ _ h=>h,fun b A n c h=>by
  by_cases e:b=k
  ·subst e;rw[hS.Dc hk]at h;cases h
  ·exact⟨A,n,c,(lw e).trans h,NE _,fun _=>⟨rfl,rfl⟩⟩⟩
theorem Oy{k:Nat}(hS:aG X n0 M bx w)(le:n0≤w.heap.size)(hk:bx k=none)(e:TypeId)(kk:Nat):aG X n0 (M.aS k) (aJ bx k (.buf e kk [])) w :=
 hS.upd (Io hS hk) le (fun _ hb=>⟨rfl,lw hb⟩) (fun _ _ _=>rfl) (fun q hq=>⟨hS.fz q hq,.inl hq⟩) ⟨none,0,0,M.Il k,aZ.nil _ _ _ _ _⟩
  (fun q ⟨n,c,hq⟩=>by rw[M.Il k]at hq;cases hq) (fun q hq=>by rw[show (M.aS k).m k=M.m k from rfl,hS.zu hk]at hq;cases hq)
theorem YP{k:Nat}{v:Value}(h:RV M w .nil v):RV (M.aS k) w (.own k 0) v:=⟨none,0,none,0,0,h,M.Il k,NE _,fun _=>⟨rfl,rfl⟩⟩
theorem Inv.aS(h:Inv X n0 w0 ok0 M nt tm bx a w){t k:Nat}(ht:tm t=.nil)(hk:bx k=none)(e:TypeId)(kk:Nat) :
  Inv X n0 w0 ok0 (M.aS k) nt (fun i=>if i=t then .own k 0 else tm i) (aJ bx k (.buf e kk [])) a w:=by
 have g:U1 X n0 M w (M.aS k) w:=Io h.J4 hk;refine⟨h.below,h.le,h.defers,h.size,fun i=>?_,Oy h.J4 h.le hk e kk,h.src,h.kL.trans g⟩;by_cases hi:i=t
 ·subst hi;have hv:=h.tmps i;rw[ht]at hv;show RV _ _ (if i=i then _ else _) _;rw[Za0 rfl];exact YP hv
 ·show RV _ _ (if i=t then _ else _) _;rw[lw hi];exact RV.go g _ _ (h.tmps i)
end
def a1A(E:En)(fn:Func)(args:List AV)(an:List An)(ls:List LA):Option (aa1×List Prop):=match fn.body with
 |none=>none
 |some c=>match dY E c ⟨args++List.replicate (fn.ntmps - args.length) (.dt (.val undef)),[]⟩ an ls with
  |some (.out _,_)=>none
  |none=>none
  |some (_,s,ps,_,_)=>match oD E.P s fn.results.toList with
   |some [.aW es]=>some (es,ps)
   |_=>none
theorem b5a{E:En}(hG:∀w w',E.G w→Below w.heap.size w w'→E.G w'){f:FuncId}{fn:Func}(hf:E.P.funcs[f]?=some fn)(hn:(fn.name == "runtime.NumGoroutine")=false)
  {args:List AV} {an:List An} {ls:List LA} {es:aa1} {ps:List Prop} (h:a1A E fn args an ls=some (es,ps)) (hp:I5 ps):wR E.P E.G f args (.aW es):=by
 unfold a1A at h;have key:∃c e s O7 ls',fn.body=some c∧dY E c ⟨args++List.replicate (fn.ntmps - args.length) (.dt (.val undef)),[]⟩ an ls=some (e,s,ps,O7,ls')∧(∀i,e≠.out i)∧oD E.P s fn.results.toList=some [.aW es]:=by
  split at h
  ·cases h
  ·rename_i c hb;split at h
   ·cases h
   ·cases h
   ·rename_i e s ps' O7 ls' hne hc;split at h
    ·rename_i es' hcs;cases h;exact⟨c,e,s,O7,ls',hb,hc,fun i he=>by subst he;exact hne _ rfl,hcs⟩
    ·cases h
 obtain⟨c,e,s,O7,ls',hb,hc,hne,hcs⟩:=key;refine⟨⟨fn,hf,by rw[hb];rfl,hn⟩,fun ok w vs hw hargs=>?_⟩;obtain⟨hlen,EL⟩:=GK hc hp;have hal:=hargs.len;refine calls_of_wp hf hb (wp_mono (EL (fun _=>False) w.heap.size (w,M0 fun b=>ok b∧b < w.heap.size) ok _ w ⟨fun w' hb=>hG w w' hw hb.below,fun _ _=>⟨rfl,rfl⟩⟩ ⟨M0 fun b=>ok b∧b < w.heap.size,?_⟩) ?_)
 ·have oG:∀b x,(AS.mk (args++List.replicate (fn.ntmps - args.length) (.dt (.val undef))) []).G5 b≠some x:=fun b x h=>by simp[AS.G5]at h
  refine⟨aN.refl _ _ _,NE _,rfl,?_,?_,⟨fun b x h=>absurd h (oG b x),fun b x _ h=>absurd h (oG b x),fun b _ x _ _ h=>absurd h (oG b x),(fun b g h=>by cases h),(fun b v h=>by cases h),fun b hb=>hb.2⟩,fun b hb _=>.inl hb.1,U1.refl _ _ _ _⟩
  ·simp[hal]
  ·intro t;have hargs':RL (M0 fun b=>ok b∧b < w.heap.size) w args vs:=RL.zx (fun b hb hl=>⟨hb,hl⟩) hargs;by_cases ht:t < args.length
   ·obtain⟨u,hu1,hu2⟩:=hargs'.get (i:=t) (c:=args[t]) (Za2 ht);have e1:(AS.mk (args++List.replicate (fn.ntmps - args.length) (.dt (.val undef))) []).J8 t=args[t]:=by
     unfold AS.J8;simp[ZaN ht,ht]
    have e2:(vs.toArray++Array.replicate (fn.ntmps - vs.toArray.size) undef).getD t undef=u:=by
     have ht':t < vs.length:=J;simp only[ZaV];rw[Array.getElem?_append_left (by simpa using ht')];simp[hu1]
    rw[e1,e2];exact hu2
   ·have e1:(AS.mk (args++List.replicate (fn.ntmps - args.length) (.dt (.val undef))) []).J8 t=.dt (.val undef):=by
     unfold AS.J8;rw[bi,ZaK J,List.getElem?_replicate];split <;> rfl
    have e2:(vs.toArray++Array.replicate (fn.ntmps - vs.toArray.size) undef).getD t undef=undef:=by
     simp only[ZaV];rw[Array.getElem?_append_right (by simp;omega),Array.getElem?_replicate];split <;> rfl
    rw[e1,e2];exact wM
 ·rintro x a' w' ⟨rfl,M,hI⟩;obtain⟨us,h1,u,Ui,rfl,⟨A,hA,hr⟩,hu2⟩:=CQ hI hcs;obtain rfl:Ui=[]:=hu2;have hR:∃v,(results fn a'.tmps).run E.P w'=.ok v w'∧(fun e w'=>∃v,e=Ending.returned v∧Below w.heap.size w w'∧RV (M0 fun b=>ok b∨w.heap.size≤b) w' (.aW es) v) (.returned v) w':=by
   refine⟨_,Nh h1,_,rfl,hI.below.below,A,hA,?_⟩;subst hA;refine hr.mono fun b hb _=>?_
   by_cases e:b < w.heap.size
   ·rcases hI.src b hb e with h | h
    ·exact .inl h
    ·exact h.elim
   ·exact .inr J
  cases e with
  |I4=>exact⟨hI.defers,hR⟩
  |ret=>exact⟨hI.defers,hR⟩
  |out i=>exact absurd rfl (hne i)
theorem D7.aS{E:En}{c:Code}{s s':AS}{e:AE}(t:Nat)(T:TypeId)(kk:Nat)(hl:t < s.tm.length)(ht:s.J8 t=.nil)(h:D7 E c ⟨s.tm.set t (.own s.bx.length 0),s.bx++[some (.buf T kk [])]⟩ e s'):D7 E c s e s':=by
 obtain⟨h1,h2⟩:=h;have hlen:(s.tm.set t (.own s.bx.length 0)).length=s.tm.length:=List.length_set ..;refine⟨h1.trans hlen,fun X n0 w0 ok0 a w hG ⟨M,hI⟩=>?_⟩;have hb:s.G5 s.bx.length=none:=by unfold AS.G5;rw[Zaf (NE _)]
 have hI2:=hI.aS ht hb T kk;have e1:(AS.mk (s.tm.set t (.own s.bx.length 0)) (s.bx++[some (.buf T kk [])])).J8=fun i=>if i=t then .own s.bx.length 0 else s.J8 i:=by
  funext i;unfold AS.J8;by_cases hi:i=t
  ·subst hi;simp[List.getD_eq_getElem?_getD,hl]
  ·simp[List.getD_eq_getElem?_getD,ZaR hi,hi]
 have e2:(AS.mk (s.tm.set t (.own s.bx.length 0)) (s.bx++[some (.buf T kk [])])).G5=aJ s.G5 s.bx.length (.buf T kk []):=by
  funext k;unfold AS.G5;by_cases hk:k=s.bx.length
  ·subst hk;simp
  ·simp only[lw hk];rcases Zai k s.bx.length with hlt | hge
   ·rw[ZaN hlt]
   ·rw[Zaf (by simp;omega),Zaf hge]
 have hL:Left X n0 w0 ok0 (AS.mk (s.tm.set t (.own s.bx.length 0)) (s.bx++[some (.buf T kk [])])).tm.length (AS.mk (s.tm.set t (.own s.bx.length 0)) (s.bx++[some (.buf T kk [])])).J8 (AS.mk (s.tm.set t (.own s.bx.length 0)) (s.bx++[some (.buf T kk [])])).G5 a w:=by
  rw[e1,e2,show (AS.mk (s.tm.set t (.own s.bx.length 0)) (s.bx++[some (.buf T kk [])])).tm.length=s.tm.length from hlen]
  exact⟨_,hI2⟩
 have:=h2 X n0 w0 ok0 a w hG hL;rw[show (AS.mk (s.tm.set t (.own s.bx.length 0)) (s.bx++[some (.buf T kk [])])).tm.length=s.tm.length from hlen]at this
 exact this
theorem D7.Fh{E:En}{c:Code}{s s':AS}{e:AE}(t b:Nat){T:TypeId}{kk:Nat}{es:aa1}(htl:t < s'.tm.length)(hb:s'.bx[b]?=some (some (.buf T kk es)))(ht:s'.J8 t=.own b es.length)(h:D7 E c s e s'):D7 E c s e ⟨s'.tm.set t (.dt (.row es)),s'.bx.set b (some (.ay es))⟩:=by
 obtain⟨h1,h2⟩:=h;refine⟨(List.length_set ..).trans h1,fun X n0 w0 ok0 a w hG hL=>wp_mono (h2 X n0 w0 ok0 a w hG hL) ?_⟩;rintro x a' w' ⟨rfl,M,hI⟩;refine⟨rfl,?_⟩;have hbl:b < s'.bx.length:=(Pi.1 hb).1;have hbf:s'.G5 b=some (.buf T kk es):=by unfold AS.G5;rw[hb]
 obtain⟨M',g,hS,hm,ho,hF⟩:=hI.J4.Fh hbf;have e1:(AS.mk (s'.tm.set t (.dt (.row es))) (s'.bx.set b (some (.ay es)))).J8=fun i=>if i=t then .dt (.row es) else s'.J8 i:=by
  funext i;unfold AS.J8;by_cases hi:i=t
  ·subst hi;simp[List.getD_eq_getElem?_getD,htl]
  ·simp[List.getD_eq_getElem?_getD,ZaR hi,hi]
 have e2:(AS.mk (s'.tm.set t (.dt (.row es))) (s'.bx.set b (some (.ay es)))).G5=aJ s'.G5 b (.ay es):=by
  funext k;unfold AS.G5;by_cases hk:k=b
  ·subst hk;simp[hbl]
  ·simp only[lw hk];rw[List.getElem?_set_ne (ZaR hk)]
 rw[e1,e2];refine⟨M',hI.below,hI.le,hI.defers,hI.size,fun i=>?_,hS,fun q hq hl=>?_,hI.kL.trans g⟩
 ·by_cases hi:i=t
  ·subst hi;have hv:=hI.tmps i;rw[ht]at hv;obtain⟨A,c1,A',n',c',hv1,hv2,hv3,hv4⟩:=hv;obtain⟨A2,n2,c2,k1,k2⟩:=hS.box b (.ay es) (Za0 rfl);rw[ho,hv2]at k1;cases k1;have hn:=k2.len;obtain⟨rfl,rfl⟩:=hv4 hn;show RV _ _ (if i=i then _ else _) _;rw[Za0 rfl,hv1,hn];exact k2
  ·show RV _ _ (if i=t then _ else _) _;rw[lw hi];exact RV.go g _ _ (hI.tmps i)
 ·rcases hF q hq with e | e | e
  ·exact hI.src q e hl
  ·omega
  ·exact .inr e
end Go.Proofs.YthhknjlmjefklaaGreatDoor
namespace Go.Proofs.YthhknjlmjefklaaGreatDoor
open Go.Proofs.Tryz
open Go.RowKit
open Te
abbrev aT(l:List Te):aa1:=l.map Te.enc
theorem IU(l:List Te):S9 11 (aT l):=by
 intro x hx;obtain⟨t,_,rfl⟩:=List.mem_map.1 hx;rw[xg];refine⟨rfl,fun d hd=>?_⟩;simp only[Zao,ZaO,or_false]at hd;rcases hd with rfl | rfl | rfl | rfl | rfl | rfl | rfl | rfl | rfl | rfl | rfl <;> rfl
theorem Dj(t:Te):S9 11 [C9 t]:=oH t ▸ IU [t]
theorem b5b(d:aa1):S9 1 [[.row d]]:=by
 intro x hx;rw[ut]at hx;subst hx;exact⟨rfl,fun d hd=>by rw[ut]at hd;subst hd;rfl⟩
theorem ig{b n:Nat}(hb:b≤200)(h:n≤1000000):X8 b n:=⟨by show n≤2 ^ 63 - 1;omega,by
 have:=Nat.mul_le_mul h hb;omega⟩
theorem a0f(qs:List Te)(hl:qs.length≤9223372036854775807):l7 94 [O3 qs] (.aW (aT qs)) :=
 b5a (E:=EX) (fun _ _ h hb=>h.below hb) func94 (by kernel_rfl) (an:=[.av (inA qs.length),.av (inA qs.length),.av (.dt (.row (qs.map Te.enc)))]) (ls:=[]) (ps:=[(vi ↑qs.length)=(vi (↑(List.map Te.enc qs).length)),(vi ↑qs.length)=(vi (↑(List.map Te.enc qs).length)),fU (List.map Te.enc qs) 11 ((none:Option Int).getD 0) ((some (qs.length:Int)).getD ((List.map Te.enc qs).length:Int)) (List.map Te.enc qs),(some (qs.length:Int))=(none:Option Int)∨(some (qs.length:Int))=(some (qs.length:Int))]) (by kernel_rfl)
  ⟨O6 _,O6 _,⟨Int.le_refl _,by show (0:Int)≤(qs.length:Int);omega,by show (qs.length:Int)≤_;rw[EQ];omega,by
   show _=List.drop 0 (List.take ((qs.length:Int)).toNat _);rw[Int.toNat_natCast,Zb5,Zae (by rw[EQ];omega)],.inl rfl⟩,.inr rfl,Z⟩
theorem CW(qs:List Te)(a:Te):aT qs++[C9 a]=aT (qs++[a]):=by rw[oH];exact ZaL.symm
namespace Te
theorem DJ:V9.Wf:=.mk _ O O O O O O O O (fun x hx=>by cases hx)
end Te
theorem XC:∀(l out:List Te),(addN out l).length≤out.length+l.length
 |[],out=>by rw[addN];exact NE _
 |x::l,out=>by
  rw[addN,Za1];refine Za6 (XC l _) ?_;split
  ·omega
  ·rw[Za4,Zaw];omega
end Go.Proofs.YthhknjlmjefklaaGreatDoor
namespace Go.Proofs.YthhknjlmjefklaaGreatDoor
open Go.Proofs.Tryz
open Go.RowKit
abbrev wr(n:Int):Int:=IntKind.i64.wrap n
abbrev J3(r:Raw):AV:=.agg [inA r.kind,inA r.n,stA r.s,.dt (.row (r.l.map Raw.enc))]
abbrev encR(r:Raw):List Dt:=[.val (.int .i64 r.kind),.val (.int .i64 r.n),.val (str r.s),.row (r.l.map Raw.enc)]
theorem b5c(r:Raw):r.enc=encR r:=Raw.pO r
theorem uG{l:List Raw}{i:Nat}{o:Raw}(h:l[i]?=some o):E5 (l.map Raw.enc) (i:Int) 4 (encR o):=⟨Int.natCast_nonneg _,by
 rw[Int.toNat_natCast,Zag,h];exact congrArg some (b5c o),rfl⟩
theorem fG(l:List Raw):Value.int .i64 (l.length:Int)=Value.int .i64 ((l.map Raw.enc).length:Int):=by rw[EQ]
theorem IV(l:aa0):Value.int .i64 (l.length:Int)=Value.int .i64 (l.length:Int):=rfl
theorem dU(n m:Int)(hm:0 < m)(hm1:m≤1000000):l7 9 [inA n,inA m] (inA (n % m)) :=
 ⟨V8 func9 rfl (by kernel_rfl),fun ok w vs ht hv=>by
  obtain⟨u,us,rfl,h1,h2⟩:=hv;obtain rfl:=RL.iD h2;rw[Rd.Z9 h1];refine (a98 n m w hm hm1).mono ?_;rintro e w' ⟨rfl,rfl⟩;exact⟨_,rfl,Below.refl _ _,.val _⟩⟩
mutual
def jw:Raw→Int→Int
 |⟨_,_,s,l⟩,m=>if 12 < s.length then -1 else if 6 < l.length then -1 else jW l (wr (m - 1))
def jW:List Raw→Int→Int
 |[],m=>m
 |x::r,m=>if 0≤m then jW r (jw x m) else m
end
theorem XD(r:Raw)(m:Int):jw r m=if 12 < r.s.length then -1 else if 6 < r.l.length then -1 else jW r.l (wr (m - 1)):=by
 cases r;rw[jw]
theorem a6s{l:List Raw}{m:Int}(h:m < 0):jW l m=m:=by
 cases l with
 |nil=>rw[jW]
 |cons x r=>rw[jW,lw J]
theorem b5d{n:Int}(h0:-9223372036854775808≤n)(h1:n≤9223372036854775807):wr n=n:=by
 show IntKind.i64.wrap n=n;rw[IntKind.wrap_i64];omega
def jI(r:Raw)(m:Int):Bool:=decide (0≤jw r m)
abbrev sN(r:Raw)(i m:Int):AS:=⟨stt 37 [(1,inA m),(2,.ptr 0 0),(4,inA 0),(5,inA i)],[some (.cells [inA r.kind,inA r.n,stA r.s,.dt (.row (r.l.map Raw.enc))])]⟩
noncomputable abbrev La:Code:=V5 (ai f53) [1,1,1,0,1,0,0]
theorem b7M{r x:Raw}{i:Nat}{m k:Int}(hx:r.l[i]?=some x)(hl:r.l.length≤6)(h0:0≤m)(hk:l7 53 [J3 x,inA m] (inA k)):D7 EX La (sN r i m) .I4 (sN r ((i+1:Nat):Int) k) :=
 tW [.av (inA r.l.length),yT,yT,.av (.pin ((encR x).map .dt)),.av (inA k),.av (inA ((i+1:Nat):Int))] [] [1,2,4,5] 1 [(vi ↑r.l.length)=(vi (↑(List.map Raw.enc r.l).length)),Bt .lss 3 18 21 ↑i ↑r.l.length bT,Bk .geq 3 24 0 m bT,E5 (List.map Raw.enc r.l) ↑i 4 (encR x),l7 53 [(J3 x),(inA m)] (inA k),Bk .add 3 27 1 ↑i (vi (↑(i+1)))]     ⟨fG _,F8 (UV (by have:=(Pi.1 hx).1;omega)),Z7 (UV h0),uG hx,hk,N8 J J (by have:=(Pi.1 hx).1;omega),Z⟩
theorem b7N{r:Raw}{i:Nat}{m:Int}(hi:i=r.l.length):D7 EX La (sN r i m) (.out 0) (sN r i m) :=
 tW [.av (inA r.l.length),yF] [] [1,2,4,5] 1 [(vi ↑r.l.length)=(vi (↑(List.map Raw.enc r.l).length)),Bt .lss 3 18 21 ↑i ↑r.l.length bF]     ⟨fG _,F8 (WF J),Z⟩
theorem b7O{r:Raw}{i:Nat}{m:Int}(hi:i < r.l.length)(h0:m < 0):D7 EX La (sN r i m) (.out 0) (sN r i m) :=
 tW [.av (inA r.l.length),yT,yF] [] [1,2,4,5] 1 [(vi ↑r.l.length)=(vi (↑(List.map Raw.enc r.l).length)),Bt .lss 3 18 21 ↑i ↑r.l.length bT,Bk .geq 3 24 0 m bF]     ⟨fG _,F8 (UV J),Z7 (WF J),Z⟩
theorem b23:∀(N:Nat) (r:Raw) (m:Int),r.size≤N→l7 53 [J3 r,inA m] (inA (jw r m)):=by
 intro N
 induction N with
 |zero=>intro r m h;have:=r.size_pos;omega
 |succ N ih =>
  intro r m hN;rw[XD];by_cases h12:12 < r.s.length
  ·rw[Za0 h12];exact pV [.av (inA r.s.length),yT] [(vi ↑r.s.length)=(vi (↑r.s.length)),Bk .gtr 3 8 12 ↑r.s.length bT] func53 ⟨IV _,dA (UV J),Z⟩
  rw[lw h12];by_cases h6:6 < r.l.length
  ·rw[Za0 h6];exact pV [.av (inA r.s.length),yF,.av (inA r.l.length),yT] [(vi ↑r.s.length)=(vi (↑r.s.length)),Bk .gtr 3 8 12 ↑r.s.length bF,(vi ↑r.l.length)=(vi (↑(List.map Raw.enc r.l).length)),Bk .gtr 3 13 6 ↑r.l.length bT] func53 ⟨IV _,dA (WF J),fG _,dA (UV J),Z⟩
  rw[lw h6];have loop:∀(l:List Raw) (i:Nat) (m:Int),r.l.drop i=l→i≤r.l.length→(∀x∈l,x.size≤N)→∃j:Nat,Lps EX La (sN r i m) (.out 0) (sN r j (jW l m)):=by
   intro l
   induction l with
   |nil =>
    intro i m hd hi _;have:i=r.l.length:=by
     have:=congrArg List.length hd;rw[Za7,List.length_nil]at this;omega
    rw[jW];exact⟨i,.stop (b7N this) (fun h=>by cases h)⟩
   |cons x l ihl =>
    intro i m hd hi hs;have hx:r.l[i]?=some x:=by rw[←Zak,hd];rfl
    have hlt:=(Pi.1 hx).1;rw[jW];by_cases h0:0≤m
    ·rw[Za0 h0];obtain⟨j,hj⟩:=ihl (i+1) (jw x m) (by rw[←Zaj,hd];rfl) J (fun y hy=>hs y (lm _ hy));exact⟨j,.more (b7M hx J h0 (ih x m (hs x (PP ..)))) hj⟩
    ·rw[lw h0];exact⟨i,.stop (b7O hlt J) (fun h=>by cases h)⟩
  obtain⟨j,hj⟩:=loop r.l 0 (wr (m - 1)) rfl (ww _) (fun x hx=>by have:=Raw.zI hx;omega);generalize jW r.l (wr (m - 1))=k at *;exact pW [.av (inA r.s.length),yF,.av (inA r.l.length),yF,.no] [.inv [1,2,4,5] 1 (.out 0) (sN r j k)] [(vi ↑r.s.length)=(vi (↑r.s.length)),Bk .gtr 3 8 12 ↑r.s.length bF,(vi ↑r.l.length)=(vi (↑(List.map Raw.enc r.l).length)),Bk .gtr 3 13 6 ↑r.l.length bF,_] func53 ⟨IV _,dA (WF J),fG _,dA (WF J),hj.tri,Z⟩
theorem Jz(r:Raw)(m:Int):l7 18 [J3 r,inA m] (o6 (jI r m)) :=
 pV [.av (inA (jw r m)),.av (o6 (jI r m))] [l7 53 [(J3 r),(inA m)] (inA (jw r m)),Bk .geq 3 7 0 (jw r m) (Value.bool (jI r m))] func18 ⟨b23 _ r m (NE _),Z7 rfl,Z⟩
theorem RV.ofRaw{M:Mm}{w:World}{o:Raw}{A:Option Addr}{n c:Nat}(h:Rd M.F w (.slice A n c) (.row (o.l.map Raw.enc))):RV M w (J3 o) (JM o (.slice A n c)) :=
 ⟨_,rfl,_,_,rfl,.val _,_,_,rfl,.val _,_,_,rfl,.val _,_,_,rfl,h,rfl⟩
namespace Te
abbrev b7P(n:aa0):Te:=⟨1,G6,n,V9,[]⟩
abbrev kY:aa0:=[99,111,110,115,112]
abbrev eH:aa0:=[101,113,117,97,108]
end Te
open Te
theorem DK(n:aa0):l7 20 [stA n] (y7 G6 n):=pV [] [] func20 trivial
abbrev dD(n:aa0):List Dt:=[.val (str G6),.val (str n)]
abbrev JA:aa1:=[dD [120],dD [121],dD [122],dD [117]]
theorem b0v:l7 19 [inA 4] (.dt (.row JA)):=pV [.av (y7 G6 [120]),.av (y7 G6 [121]),.av (y7 G6 [122]),.av (y7 G6 [117]),.no,.no,.no] [l7 20 [(stA [120])] (y7 G6 [120]),l7 20 [(stA [121])] (y7 G6 [121]),l7 20 [(stA [122])] (y7 G6 [122]),l7 20 [(stA [117])] (y7 G6 [117]),fU JA 2 0 4 JA,(none:Option Int)=none∨(none:Option Int)=some (if (if 4 < 4 then 4 else 4) > 0 then if 4 < 4 then 4 else 4 else 0)] func19 ⟨DK _,DK _,DK _,DK _,⟨O,O,O,rfl,.inl rfl⟩,.inl rfl,Z⟩
theorem b24(n:aa0):l7 92 [y7 G6 n] (y9 (b7P n)):=pV [] [] func92 trivial
end Go.Proofs.YthhknjlmjefklaaGreatDoor
namespace Go.Proofs.YthhknjlmjefklaaGreatDoor
open Go.Proofs.Tryz
open Go.RowKit
open Te
theorem bP.b26{P:Program}{G:World→Prop}{f:FuncId}{args:List AV}{T:TypeId}{kk:Nat}(h:bP P G f args [] .nil []):bP P G f args [] (.own 0 0) [some (.buf T kk [])]:=by
 refine⟨h.1,fun X M w vs hG hS hargs=>(h.2 X M w vs hG hS hargs).mono ?_⟩;rintro e w' ⟨v,M',h1,h2,h3,h4,h5⟩;have hk:lk [] 0=none:=rfl;refine⟨v,M'.aS 0,h1,h2.trans (Io h3 hk),?_,h4,YP h5⟩;have:=Oy h3 h2.below.size hk T kk
 rwa [show aJ (lk []) 0 (.buf T kk [])=lk [some (.buf T kk [])] from funext fun b=>by
  match b with
  |0=>rfl
  |b+1=>rfl]at this
theorem bP.empty{P:Program}{G:World→Prop}{f:FuncId}{xs xs':List (Option Bx)}{r:AV}(h0:∀c,bP P G f [.dt (.val (.slice none 0 c))] xs r xs')(h1:∀A c,bP P G f [.dt (.val (.slice (some A) 0 c))] xs r xs'):bP P G f [.dt (.row [])] xs r xs':=by
 refine⟨(h0 0).1,fun X M w vs hG hS hargs=>?_⟩;obtain⟨v,us,rfl,hv,hu⟩:=hargs;obtain rfl:us=[]:=hu;have hv:Rd M.F w v (.row []):=hv;cases hv with
 |nil A c =>
  cases A with
  |none=>exact (h0 c).2 X M w _ hG hS ⟨_,[],rfl,Rd.val _,rfl⟩
  |some A=>exact (h1 A c).2 X M w _ hG hS ⟨_,[],rfl,Rd.val _,rfl⟩
 |row b o n c k l f hn h0=>cases hn;exact absurd h0 (Nat.lt_irrefl _)
theorem YQ{t e:TypeId}{x y:Operand}{A:Option Addr}{n c:Nat}(hu:prog.underlying t=some (.slice e)):Bn .eql t x y (.slice A n c) (.slice none 0 0) (.bool A.isNone):=by
 intro w;have:=Lib.run_eql_slice_nil (P:=prog) w t e A n c 0 0 hu;simp only[eqGuard,Za8,Zab,Result.andThen,Bool.not_true,ZaY,ZaM,this]
theorem a1B:qm 0 0:=⟨O,O,O⟩
theorem jq{P:Program}{t:TypeId}{x y:Operand}{k:IntKind}{a b:Int}{r:Bool}(h:decide (a≤b)=r):dS P .leq t x y (.int k a) (.int k b) (.bool r):=by
 subst h;exact kV (by simp[lF])
theorem b7Q:prog.eqGuardType prog.depth 28=false:=by kernel_rfl
theorem CX{x y:Operand}{p s p' s':aa0}{r:Bool}(h:(decide (p=p') && decide (s=s'))=!r):dS prog .neq 28 x y (.agg #[str p,str s]) (.agg #[str p',str s']) (.bool r):=by
 intro w;rw[show r=!(decide (p=p') && decide (s=s')) by rw[h,Bool.not_not]]
 simp only[Za8,run_eqGuard_agg w .neq _ x y _ _ b7Q,Result.andThen_ok,run_neq_struct,Ox]
theorem WR{o:Ob}(h:o.Wf):l7 101 [x9 o] (inA (aC o)) :=
 uN (V8 func101 rfl (by kernel_rfl)) fun ok A n c w _ hr=>VJ ok o h A n c w hr
theorem a7e{o:Ob}(h:o.Wf)(hs:o.Sm):l7 118 [x9 o] (o6 o.pU) :=
 uN (V8 func118 rfl (by kernel_rfl)) fun ok A n c w _ hr=>VK ok o h hs A n c w hr
theorem RL.b29{M:Mm}{w:World}{p n:aa0}{vs:List Value}(h:RL M w [y7 p n] vs):vs=[zL ⟨p,n⟩]:=by
 obtain⟨u,us,rfl,⟨ws,rfl,u0,us0,rfl,h0,u1,us1,rfl,h1,h2⟩,h3⟩:=h;obtain rfl:us=[]:=h3;obtain rfl:us1=[]:=h2;rw[Rd.Z9 h0,Rd.Z9 h1]
theorem YR(p n:aa0)(hp:p.length≤9223372036854775807)(hn:n.length≤9223372036854775807):l7 155 [y7 p n] (o6 (Y8 ⟨p,n⟩)) :=
 ⟨V8 func155 rfl (by kernel_rfl),fun ok w vs _ hv=>by
  obtain rfl:=hv.b29;exact (UX ⟨p,n⟩ w hp hn).mono fun _ _ h=>h.pure⟩
end Go.Proofs.YthhknjlmjefklaaGreatDoor
namespace Go.Proofs.YthhknjlmjefklaaGreatDoor
open Go.Proofs.Tryz
open Go.RowKit
abbrev iK(c:UInt8):AV:=.dt (.val (.int .u8 (c.toNat:Int)))
theorem u8d{c k:UInt8}{n:Int}(h:(k.toNat:Int)=n):decide ((c.toNat:Int)=n)=(c == k):=by
 rw[Bool.eq_iff_iff,decide_eq_true_iff,beq_iff_eq,←h];exact⟨fun e=>UInt8.toNat_inj.1 J,fun e=>by rw[e]⟩
theorem X9{c k:UInt8}{n:Int}(h:(k.toNat:Int)=n){b:Bool}(e:(c == k)=b):decide ((c.toNat:Int)=n)=b:=(u8d h).trans e
theorem a6t(s:ByteArray)(i:Nat):s[i]?=s.data.toList[i]?:=by
 rw[Array.getElem?_toList];by_cases h:i < s.size
 ·have h':i < s.data.size:=h;rw[getElem?_pos s i h,Array.getElem?_eq_getElem h'];rfl
 ·have h':¬i < s.data.size:=h;rw[getElem?_neg s i h,ZaQ J]
theorem oI{s:aa0}{i:Nat}{c:UInt8}(h:s[i]?=some c):jL ⟨s.toArray⟩ (i:Int) (.int .u8 (c.toNat:Int)):=⟨c,Int.natCast_nonneg _,by
 rw[a6t,Int.toNat_natCast];exact h,rfl⟩
theorem gU(s:aa0):Value.int .i64 (s.length:Int)=Value.int .i64 (s.length:Int):=rfl
theorem YS(c:UInt8):l7 177 [iK c] (o6 (y8.blk c)):=by
 unfold y8.blk;cases h1:c == 32 with
 |true=>exact pV [yT] [Bu .eql 5 3 32 ↑c.toNat bT] func177 ⟨F6 (X9 rfl h1),Z⟩
 |false =>
  cases h2:c == 9 with
  |true=>exact pV [yF,yT] [Bu .eql 5 3 32 ↑c.toNat bF,Bu .eql 5 6 9 ↑c.toNat bT] func177 ⟨F6 (X9 rfl h1),F6 (X9 rfl h2),Z⟩
  |false =>
   cases h3:c == 10 with
   |true=>exact pV [yF,yF,yT] [Bu .eql 5 3 32 ↑c.toNat bF,Bu .eql 5 6 9 ↑c.toNat bF,Bu .eql 5 10 10 ↑c.toNat bT] func177 ⟨F6 (X9 rfl h1),F6 (X9 rfl h2),F6 (X9 rfl h3),Z⟩
   |false=>exact pV [yF,yF,yF,.av (o6 (c == 13))] [Bu .eql 5 3 32 ↑c.toNat bF,Bu .eql 5 6 9 ↑c.toNat bF,Bu .eql 5 10 10 ↑c.toNat bF,Bu .eql 5 14 13 ↑c.toNat (Value.bool (c == 13))] func177 ⟨F6 (X9 rfl h1),F6 (X9 rfl h2),F6 (X9 rfl h3),F6 (u8d (k:=13) rfl),Z⟩
theorem JB(c:UInt8):l7 181 [iK c] (o6 (y8.cst c)):=by
 unfold y8.cst;cases h0:decide (33≤c.toNat) with
 |false=>exact pV [yF] [Bu .geq 5 3 33 ↑c.toNat bF] func181 ⟨Z7 (by rw[←h0];rw[Zam];omega),Z⟩
 |true =>
  cases h1:decide (c.toNat≤126) with
  |false=>exact pV [yT,yF] [Bu .geq 5 3 33 ↑c.toNat bT,Bu .leq 5 6 126 ↑c.toNat bF] func181 ⟨Z7 (by rw[←h0];rw[Zam];omega),jq (by rw[←h1];rw[Zam];omega),Z⟩
  |true =>
   cases h2:c == 40 with
   |true=>exact pV [yT,yT,yF] [Bu .geq 5 3 33 ↑c.toNat bT,Bu .leq 5 6 126 ↑c.toNat bT,Bu .neq 5 10 40 ↑c.toNat bF] func181 ⟨Z7 (by rw[←h0];rw[Zam];omega),jq (by rw[←h1];rw[Zam];omega),H7 (X9 rfl h2),Z⟩
   |false =>
    cases h3:c == 41 with
    |true=>exact pV [yT,yT,yT,yF] [Bu .geq 5 3 33 ↑c.toNat bT,Bu .leq 5 6 126 ↑c.toNat bT,Bu .neq 5 10 40 ↑c.toNat bT,Bu .neq 5 14 41 ↑c.toNat bF] func181 ⟨Z7 (by rw[←h0];rw[Zam];omega),jq (by rw[←h1];rw[Zam];omega),H7 (X9 rfl h2),H7 (X9 rfl h3),Z⟩
    |false =>
     cases h4:c == 39 with
     |true=>exact pV [yT,yT,yT,yT,yF] [Bu .geq 5 3 33 ↑c.toNat bT,Bu .leq 5 6 126 ↑c.toNat bT,Bu .neq 5 10 40 ↑c.toNat bT,Bu .neq 5 14 41 ↑c.toNat bT,Bu .neq 5 18 39 ↑c.toNat bF] func181 ⟨Z7 (by rw[←h0];rw[Zam];omega),jq (by rw[←h1];rw[Zam];omega),H7 (X9 rfl h2),H7 (X9 rfl h3),H7 (X9 rfl h4),Z⟩
     |false =>
      cases h5:c == 34 with
      |true=>exact pV [yT,yT,yT,yT,yT,yF] [Bu .geq 5 3 33 ↑c.toNat bT,Bu .leq 5 6 126 ↑c.toNat bT,Bu .neq 5 10 40 ↑c.toNat bT,Bu .neq 5 14 41 ↑c.toNat bT,Bu .neq 5 18 39 ↑c.toNat bT,Bu .neq 5 22 34 ↑c.toNat bF] func181 ⟨Z7 (by rw[←h0];rw[Zam];omega),jq (by rw[←h1];rw[Zam];omega),H7 (X9 rfl h2),H7 (X9 rfl h3),H7 (X9 rfl h4),H7 (X9 rfl h5),Z⟩
      |false =>
       cases h6:c == 59 with
       |true=>exact pV [yT,yT,yT,yT,yT,yT,yF] [Bu .geq 5 3 33 ↑c.toNat bT,Bu .leq 5 6 126 ↑c.toNat bT,Bu .neq 5 10 40 ↑c.toNat bT,Bu .neq 5 14 41 ↑c.toNat bT,Bu .neq 5 18 39 ↑c.toNat bT,Bu .neq 5 22 34 ↑c.toNat bT,Bu .neq 5 26 59 ↑c.toNat bF] func181 ⟨Z7 (by rw[←h0];rw[Zam];omega),jq (by rw[←h1];rw[Zam];omega),H7 (X9 rfl h2),H7 (X9 rfl h3),H7 (X9 rfl h4),H7 (X9 rfl h5),H7 (X9 rfl h6),Z⟩
       |false =>
        cases h7:c == 124 with
        |true=>exact pV [yT,yT,yT,yT,yT,yT,yT,yF] [Bu .geq 5 3 33 ↑c.toNat bT,Bu .leq 5 6 126 ↑c.toNat bT,Bu .neq 5 10 40 ↑c.toNat bT,Bu .neq 5 14 41 ↑c.toNat bT,Bu .neq 5 18 39 ↑c.toNat bT,Bu .neq 5 22 34 ↑c.toNat bT,Bu .neq 5 26 59 ↑c.toNat bT,Bu .neq 5 30 124 ↑c.toNat bF] func181 ⟨Z7 (by rw[←h0];rw[Zam];omega),jq (by rw[←h1];rw[Zam];omega),H7 (X9 rfl h2),H7 (X9 rfl h3),H7 (X9 rfl h4),H7 (X9 rfl h5),H7 (X9 rfl h6),H7 (X9 rfl h7),Z⟩
        |false =>
         cases h8:c == 58 with
         |true=>exact pV [yT,yT,yT,yT,yT,yT,yT,yT,yF] [Bu .geq 5 3 33 ↑c.toNat bT,Bu .leq 5 6 126 ↑c.toNat bT,Bu .neq 5 10 40 ↑c.toNat bT,Bu .neq 5 14 41 ↑c.toNat bT,Bu .neq 5 18 39 ↑c.toNat bT,Bu .neq 5 22 34 ↑c.toNat bT,Bu .neq 5 26 59 ↑c.toNat bT,Bu .neq 5 30 124 ↑c.toNat bT,Bu .neq 5 34 58 ↑c.toNat bF] func181 ⟨Z7 (by rw[←h0];rw[Zam];omega),jq (by rw[←h1];rw[Zam];omega),H7 (X9 rfl h2),H7 (X9 rfl h3),H7 (X9 rfl h4),H7 (X9 rfl h5),H7 (X9 rfl h6),H7 (X9 rfl h7),H7 (X9 rfl h8),Z⟩
         |false=>exact pV [yT,yT,yT,yT,yT,yT,yT,yT,yT] [Bu .geq 5 3 33 ↑c.toNat bT,Bu .leq 5 6 126 ↑c.toNat bT,Bu .neq 5 10 40 ↑c.toNat bT,Bu .neq 5 14 41 ↑c.toNat bT,Bu .neq 5 18 39 ↑c.toNat bT,Bu .neq 5 22 34 ↑c.toNat bT,Bu .neq 5 26 59 ↑c.toNat bT,Bu .neq 5 30 124 ↑c.toNat bT,Bu .neq 5 34 58 ↑c.toNat bT] func181 ⟨Z7 (by rw[←h0];rw[Zam];omega),jq (by rw[←h1];rw[Zam];omega),H7 (X9 rfl h2),H7 (X9 rfl h3),H7 (X9 rfl h4),H7 (X9 rfl h5),H7 (X9 rfl h6),H7 (X9 rfl h7),H7 (X9 rfl h8),Z⟩
theorem Ql{s:aa0}{i:Nat}{a b:UInt8}(_hl:s.length≤6000)(hi:i≤6000)(h:∀c∈s,(c == a)=false):l7 178 [stA s,inA i,iK a,iK b] (o6 false):=by
 by_cases hlt:i+1 < s.length
 ·obtain⟨c,hc⟩:∃c,s[i]?=some c:=⟨s[i],Za2 J⟩;exact pV [yT,.av (inA ((i+1:Nat):Int)),.av (inA s.length),yT,.av (iK c),yF] [Bk .geq 3 9 0 ↑i bT,Bk .add 3 12 1 ↑i (vi (↑(i+1))),(vi ↑s.length)=(vi (↑s.length)),Bt .lss 3 13 15 (↑(i+1)) ↑s.length bT,jL ({ data:=s.toArray:ByteArray }) ↑i (Value.int .u8 ↑c.toNat),Bn .eql 5 (.tmp 21) (.tmp 22) (Value.int .u8 ↑c.toNat) (Value.int .u8 ↑a.toNat) bF] func178 ⟨Z7 (UV J),N8 J J J,gU _,F8 (UV J),oI hc,F6 (X9 rfl (h c (Za5 hc))),Z⟩
 ·exact pV [yT,.av (inA ((i+1:Nat):Int)),.av (inA s.length),yF] [Bk .geq 3 9 0 ↑i bT,Bk .add 3 12 1 ↑i (vi (↑(i+1))),(vi ↑s.length)=(vi (↑s.length)),Bt .lss 3 13 15 (↑(i+1)) ↑s.length bF] func178 ⟨Z7 (UV J),N8 J J J,gU _,F8 (WF J),Z⟩
abbrev sO(s:aa0)(i:Int):AS:=⟨stt 18 [(0,stA s),(1,inA i)],[]⟩
noncomputable abbrev Lc:Code:=V5 (ai f182) [1,0,0,0]
theorem b7R{s:aa0}{i:Nat}{c:UInt8}(hc:s[i]?=some c)(hl:s.length≤6000)(h:y8.cst c=true):D7 EX Lc (sO s i) .I4 (sO s ((i+1:Nat):Int)) :=
 tW [.av (inA s.length),yT,.av (iK c),yT,.av (inA ((i+1:Nat):Int))] [] [0,1] 0 [(vi ↑s.length)=(vi (↑s.length)),Bt .lss 3 5 7 ↑i ↑s.length bT,jL ({ data:=s.toArray:ByteArray }) ↑i (Value.int .u8 ↑c.toNat),l7 181 [(.dt (.val (Value.int .u8 ↑c.toNat)))] (o6 true),Bk .add 3 15 1 ↑i (vi (↑(i+1)))]     ⟨gU _,F8 (UV (by have:=(Pi.1 hc).1;omega)),oI hc,h ▸ JB c,N8 J J (by have:=(Pi.1 hc).1;omega),Z⟩
theorem b7S{s:aa0}{i:Nat}(hi:i=s.length):D7 EX Lc (sO s i) (.out 0) (sO s i) :=
 tW [.av (inA s.length),yF] [] [0,1] 0 [(vi ↑s.length)=(vi (↑s.length)),Bt .lss 3 5 7 ↑i ↑s.length bF]     ⟨gU _,F8 (WF J),Z⟩
theorem b7T{s:aa0}{i:Nat}{c:UInt8}(hc:s[i]?=some c)(h:y8.cst c=false):D7 EX Lc (sO s i) (.out 0) (sO s i) :=
 tW [.av (inA s.length),yT,.av (iK c),yF] [] [0,1] 0 [(vi ↑s.length)=(vi (↑s.length)),Bt .lss 3 5 7 ↑i ↑s.length bT,jL ({ data:=s.toArray:ByteArray }) ↑i (Value.int .u8 ↑c.toNat),l7 181 [(.dt (.val (Value.int .u8 ↑c.toNat)))] (o6 false)]     ⟨gU _,F8 (UV (by have:=(Pi.1 hc).1;omega)),oI hc,h ▸ JB c,Z⟩
theorem b0w{s:aa0}(hl:s.length≤6000):∀(r:aa0) (i:Nat),s.drop i=r→i≤s.length→Lps EX Lc (sO s i) (.out 0) (sO s ((i+(r.takeWhile y8.cst).length:Nat):Int)):=by
 intro r
 induction r with
 |nil =>
  intro i hd hi;have e1:=congrArg List.length hd;rw[Za7,List.length_nil]at e1;exact .stop (b7S J) (fun h=>by cases h)
 |cons c r ih =>
  intro i hd hi;have hc:s[i]?=some c:=by rw[←Zak,hd];rfl
  have hlt:=(Pi.1 hc).1;cases h:y8.cst c with
  |false =>
   rw[List.takeWhile_cons,lw (by rw[h];decide)];exact .stop (b7T hc h) (fun h=>by cases h)
  |true =>
   rw[List.takeWhile_cons,Za0 h,Za1,show i+((r.takeWhile y8.cst).length+1)=i+1+(r.takeWhile y8.cst).length by omega]
   exact .more (b7R hc hl h) (ih (i+1) (by rw[←Zaj,hd];rfl) J)
theorem a0g{s:aa0}{i:Nat}(hl:s.length≤6000)(hi:i≤s.length):l7 182 [stA s,inA i] (inA ((i+((s.drop i).takeWhile y8.cst).length:Nat):Int)):=by
 have ht:=(b0w hl _ i rfl hi).tri;generalize ((i+((s.drop i).takeWhile y8.cst).length:Nat):Int)=k at *;exact pW [] [.inv [0,1] 0 (.out 0) (sO s k)] [_] func182 ⟨ht,Z⟩
abbrev sQ(s:aa0)(i:Int):AS:=⟨stt 69 [(0,stA s),(1,inA i)],[]⟩
abbrev Uo(i:Int):AS:=⟨stt 69 [(4,inA i),(5,o6 true)],[]⟩
noncomputable abbrev FD:Code:=V5 (ai f124) [1,0,0,0]
theorem a2F{s:aa0}{i:Nat}{c:UInt8}(hc:s[i]?=some c)(hl:s.length≤6000)(h:y8.blk c=true):D7 EX FD (sQ s i) .I4 (sQ s ((i+1:Nat):Int)) :=
 tW [.av (inA s.length),yT,.av (iK c),yT,.av (inA ((i+1:Nat):Int))] [] [0,1] 0 [(vi ↑s.length)=(vi (↑s.length)),Bt .lss 3 7 9 ↑i ↑s.length bT,jL ({ data:=s.toArray:ByteArray }) ↑i (Value.int .u8 ↑c.toNat),l7 177 [(.dt (.val (Value.int .u8 ↑c.toNat)))] (o6 true),Bk .add 3 17 1 ↑i (vi (↑(i+1)))]     ⟨gU _,F8 (UV (by have:=(Pi.1 hc).1;omega)),oI hc,h ▸ YS c,N8 J J (by have:=(Pi.1 hc).1;omega),Z⟩
theorem b7U{s:aa0}{i:Nat}(hi:i=s.length):D7 EX FD (sQ s i) (.out 0) (sQ s i) :=
 tW [.av (inA s.length),yF] [] [0,1] 0 [(vi ↑s.length)=(vi (↑s.length)),Bt .lss 3 7 9 ↑i ↑s.length bF]     ⟨gU _,F8 (WF J),Z⟩
theorem b7V{s:aa0}{i:Nat}{c:UInt8}(hc:s[i]?=some c)(hl:s.length≤6000)(h:y8.blk c=false)(h1:(c == 59)=false)(h2:∀c∈s,(c == 35)=false):D7 EX FD (sQ s i) .ret (Uo i) :=
 tW [.av (inA s.length),yT,.av (iK c),yF,.av (iK c),yF,yF] [] [4,5] 0 [(vi ↑s.length)=(vi (↑s.length)),Bt .lss 3 7 9 ↑i ↑s.length bT,jL ({ data:=s.toArray:ByteArray }) ↑i (Value.int .u8 ↑c.toNat),l7 177 [(.dt (.val (Value.int .u8 ↑c.toNat)))] (o6 false),jL ({ data:=s.toArray:ByteArray }) ↑i (Value.int .u8 ↑c.toNat),Bu .eql 5 22 59 ↑c.toNat bF,l7 178 [(stA s),(inA ↑i),(.dt (.val (Value.int .u8 35))),(.dt (.val (Value.int .u8 124)))] (o6 false)]     ⟨gU _,F8 (UV (by have:=(Pi.1 hc).1;omega)),oI hc,h ▸ YS c,oI hc,F6 (X9 rfl h1),Ql (a:=35) (b:=124) hl (by have:=(Pi.1 hc).1;omega) h2,Z⟩
theorem b0x{s:aa0}(hl:s.length≤6000)(h1:∀c∈s,(c == 59)=false)(h2:∀c∈s,(c == 35)=false):∀(r:aa0) (i:Nat),s.drop i=r→i≤s.length→Lps EX FD (sQ s i) (.out 0) (sQ s ((i+(r.takeWhile y8.blk).length:Nat):Int))∨Lps EX FD (sQ s i) .ret (Uo ((i+(r.takeWhile y8.blk).length:Nat):Int)):=by
 intro r
 induction r with
 |nil =>
  intro i hd hi;have e1:=congrArg List.length hd;rw[Za7,List.length_nil]at e1;exact .inl (.stop (b7U J) (fun h=>by cases h))
 |cons c r ih =>
  intro i hd hi;have hc:s[i]?=some c:=by rw[←Zak,hd];rfl
  have hlt:=(Pi.1 hc).1;cases h:y8.blk c with
  |false =>
   rw[List.takeWhile_cons,lw (by rw[h];decide)];exact .inr (.stop (b7V hc hl h (h1 c (Za5 hc)) h2) (fun h=>by cases h))
  |true =>
   rw[List.takeWhile_cons,Za0 h,Za1,show i+((r.takeWhile y8.blk).length+1)=i+1+(r.takeWhile y8.blk).length by omega]
   rcases ih (i+1) (by rw[←Zaj,hd];rfl) J with k | k
   ·exact .inl (.more (a2F hc hl h) k)
   ·exact .inr (.more (a2F hc hl h) k)
theorem a0h{s:aa0}{i:Nat}(hl:s.length≤6000)(h1:∀c∈s,(c == 59)=false)(h2:∀c∈s,(c == 35)=false)(hi:i≤s.length):l7 124 [stA s,inA i] (.o7 [inA ((i+((s.drop i).takeWhile y8.blk).length:Nat):Int),o6 true]):=by
 rcases b0x hl h1 h2 _ i rfl hi with h | h
 ·have ht:=h.tri;generalize ((i+((s.drop i).takeWhile y8.blk).length:Nat):Int)=k at *;exact pW [] [.inv [0,1] 0 (.out 0) (sQ s k)] [_] func124 ⟨ht,Z⟩
 ·have ht:=h.tri;generalize ((i+((s.drop i).takeWhile y8.blk).length:Nat):Int)=k at *;exact pW [] [.inv [0,1] 0 (.ret) (Uo k)] [_] func124 ⟨ht,Z⟩
end Go.Proofs.YthhknjlmjefklaaGreatDoor
