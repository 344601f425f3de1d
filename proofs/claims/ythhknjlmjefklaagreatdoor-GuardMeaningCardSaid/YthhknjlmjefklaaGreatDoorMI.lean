/- Reading and translating, as plain functions: the words, tokens, objects and terms of a text, for the texts that use few letters. -/
import Derived.Test.YthhknjlmjefklaaGreatDoorMH
import Derived.Test.YthhknjlmjefklaaGreatDoorMD
import Derived.Lib.SliceRun
namespace Go.Proofs.YthhknjlmjefklaaGreatDoor
open Go.RowKit
namespace Rdr
def blk (c:UInt8):Bool:=c == 32 || c == 9 || c == 10 || c == 13
def cst (c:UInt8):Bool:=decide (33≤c.toNat) && decide (c.toNat≤126) && !(c == 40) && !(c == 41) && !(c == 39) && !(c == 34) && !(c == 59) && !(c == 124) && !(c == 58)
def dig (c:UInt8):Bool:=decide (48≤c.toNat) && decide (c.toNat≤57)
def few (c:UInt8):Bool:=blk c || c == 40 || c == 41 || (cst c && !(c == 35) && !(c == 46) && !(c == 47))
def isNum (w:List UInt8):Bool :=
 let r:=if w.head?=some 45 then w.drop 1 else w
 !(r.takeWhile dig).isEmpty && (r.takeWhile dig).length == r.length
structure Tok where
 kind:Int
 pos:Nat
 text:List UInt8
 den:List UInt8
def toks:Nat→Nat→List UInt8→List Tok
 | 0,_,_=>[]
 | _+1,i,[]=>[⟨0,i,[],[]⟩]
 | f+1,i,c::r =>
  if blk c then toks f (i+1) r
  else if c == 40 then ⟨1,i,[],[]⟩::toks f (i+1) r
  else if c == 41 then ⟨2,i,[],[]⟩::toks f (i+1) r
  else (if isNum (c::r.takeWhile cst) then ⟨5,i,c::r.takeWhile cst,[49]⟩ else ⟨6,i,c::r.takeWhile cst,[]⟩)::toks f (i+((r.takeWhile cst).length+1)) (r.dropWhile cst)
def wOK (w:List UInt8):Bool:=if isNum w then w == [48] || w == [49] || w == [45,49] else decide (w.length≤40) && (match w with | []=>false | c::_=>!(c == 45) && !dig c) && !(w == [46])
def toksOK (l:List Tok):Bool:=l.all fun t=>if t.kind=5∨t.kind=6 then wOK t.text else true
def numOf (w:List UInt8):Rat:=if w=[49] then 1 else if w=[45,49] then -1 else 0
mutual
def prO:Nat→Nat→List Tok→Option (Tr×List Tok)
 | 0,_,_=>none
 | f+1,d,ts=>match ts with
  | []=>none
  | t::r =>
   if t.kind=5 then some (.num (numOf t.text),r)
   else if t.kind=6 then some (.sym lispB t.text,r)
   else if t.kind=1∧d≤200 then match prL f (d+1) r with
    | some (l,r')=>some (Tr.list l,r')
    | none=>none
   else none
def prL:Nat→Nat→List Tok→Option (List Tr×List Tok)
 | 0,_,_=>none
 | f+1,d,ts=>match ts with
  | []=>none
  | t::r =>
   if t.kind=2 then some ([],r)
   else match prO f d (t::r) with
    | some (x,r1)=>match prL f d r1 with
     | some (l,r2)=>some (x::l,r2)
     | none=>none
    | none=>none
end
def prs:Nat→List Tok→Option (List Tr)
 | 0,_=>none
 | f+1,ts=>match ts with
  | []=>none
  | t::r =>
   if t.kind=0 then some []
   else match prO f 0 (t::r) with
    | some (x,r1)=>match prs f r1 with
     | some l=>some (x::l)
     | none=>none
    | none=>none
def items:Tr→Option (List Tr)
 | .cons a d=>match items d with
  | some l=>some (a::l)
  | none=>none
 | .sym p n=>if p=lispB∧n=nilB then some [] else none
 | _=>none
def call (n:List UInt8) (l:List Tr):Tr:=.cons (.sym lispB n) (Tr.list l)
def nilX:Tr:=.sym lispB nilB
def tX:Tr:=.sym lispB [116]
def expand (n:List UInt8) (l:List Tr):Option Tr :=
 if n=[108,105,115,116] then match l with
  | []=>some nilX
  | x::r=>some (call [99,111,110,115] [x,call n r])
 else if n=[97,112,112,101,110,100] then match l with
  | []=>some nilX
  | [x]=>some x
  | x::r=>some (call [98,105,110,97,114,121,45,97,112,112,101,110,100] [x,call n r])
 else if n=[97,110,100] then match l with
  | []=>some tX
  | [x]=>some x
  | x::r=>some (call Te.ifB [x,call n r,nilX])
 else if n=[111,114] then match l with
  | []=>some nilX
  | [x]=>some x
  | x::r=>some (call Te.ifB [x,x,call n r])
 else if n=[99,111,110,100] then match l with
  | []=>some nilX
  | x::r=>match items x with
   | some [a,b]=>some (call Te.ifB [a,b,call n r])
   | _=>none
 else if n=[43] then match l with
  | [x,y]=>some (call [98,105,110,97,114,121,45,43] [x,y])
  | x::y::z::r=>some (call [98,105,110,97,114,121,45,43] [x,call n (y::z::r)])
  | _=>none
 else none
def macros:List (List UInt8):=[[108,105,115,116],[108,105,115,116,42],[97,110,100],[111,114],[99,111,110,100],[43],[42],[45],[47],[60,61],[62],[62,61],[97,112,112,101,110,100]]
def special:List (List UInt8):=[[113,117,111,116,101],[108,101,116],[108,101,116,42]]
mutual
def trn (ar:List UInt8→Option Nat):Nat→Int→Tr→Option (Te×Int)
 | 0,_,_=>none
 | f+1,m,x=>match x with
  | .num q=>if q=0∨q=1∨q=-1 then some (Te.con (Tr.num q).ob,m) else none
  | .txt _=>none
  | .sym p n=>if p.length≤1000∧n.length≤1000 then (if Te.varB p n then some (⟨1,p,n,Te.zOb,[]⟩,m) else some (Te.con (Tr.sym p n).ob,m)) else none
  | .cons a d=>match items (.cons a d) with
   | some (.sym p n::l) =>
    if p=lispB∧n.length≤1000∧n ∉ special∧l.length≤500 then
     if n∈macros then match expand n l with
      | some o=>if 1≤m then trn ar f (m - 1) o else none
      | none=>none
     else match trnL ar f m l with
      | some (ts,m')=>if ar n=some ts.length then some (⟨3,p,n,Te.zOb,ts⟩,m') else none
      | none=>none
    else none
   | _=>none
def trnL (ar:List UInt8→Option Nat):Nat→Int→List Tr→Option (List Te×Int)
 | 0,_,_=>none
 | f+1,m,l=>match l with
  | []=>some ([],m)
  | x::r=>match trn ar f m x with
   | some (t,m1)=>match trnL ar f m1 r with
    | some (ts,m2)=>some (t::ts,m2)
    | none=>none
   | none=>none
end
structure Fnc where
 nm:List UInt8
 ps:List (List UInt8)
 guard:Te
 body:Te
 measure:Te
def pars:List Tr→Option (List (List UInt8))
 | []=>some []
 | .sym p n::r=>if p=lispB then (pars r).map (n::·) else none
 | _=>none
def option (nm:List UInt8):List Tr→Option (Option Tr)
 | x::y::r=>match items x with
  | some [.sym p n,b]=>if p=lispB∧n=nm then some (some b) else option nm (y::r)
  | _=>none
 | _=>some none
def prim (prims:List (List UInt8×Nat)) (n:List UInt8):Option Nat:=(prims.find? fun x=>x.1 == n).map (·.2)
def arity (prims:List (List UInt8×Nat)) (ws:List Fnc) (nm:List UInt8) (ps:List (List UInt8)) (n:List UInt8):Option Nat :=
 if nm=n then some ps.length else match prim prims n with
  | some k=>some k
  | none=>(ws.find? fun f=>f.nm == n).map (·.ps.length)
def trm (ar:List UInt8→Option Nat) (x:Tr):Option Te:=match trn ar 100 500 x with
 | some (t,_)=>if t.valid then some t else none
 | none=>none
def optT (ar:List UInt8→Option Nat) (d:Te):Option (Option Tr)→Option Te
 | none=>none
 | some none=>some d
 | some (some o)=>trm ar o
def guardB:List UInt8:=[103,117,97,114,100]
def measB:List UInt8:=[109,101,97,115,117,114,101]
def entry (prims:List (List UInt8×Nat)) (ws:List Fnc) (form:Tr):Option Fnc:=match items form with
 | some (d::.sym p nm::px::y::r)=>match items px with
  | some pl=>match pars pl with
   | some ps =>
    if p=lispB∧nm.length≤1000∧ps≠[]∧ps.length≤8∧r.length≤100 then
     match trm (arity prims ws nm ps) ((y::r).getLast (by simp)),optT (arity prims ws nm ps) Te.yesT (option guardB (y::r)),optT (arity prims ws nm ps) Te.zTe (option measB (y::r)) with
     | some b,some g,some m=>some ⟨nm,ps,g,b,m⟩
     | _,_,_=>none
    else none
   | none=>none
  | none=>none
 | _=>none
def world (prims:List (List UInt8×Nat)):List Tr→List Fnc→Option (List Fnc)
 | [],ws=>some ws
 | x::r,ws=>match entry prims ws x with
  | some f=>world prims r (ws++[f])
  | none=>none
end Rdr
def textB:List UInt8:=[40,100,101,102,117,110,32,110,111,116,32,40,112,41,32,40,105,102,32,112,32,110,105,108,32,116,41,41,10,40,100,101,102,117,110,32,105,109,112,108,105,101,115,32,40,112,32,113,41,32,40,105,102,32,112,32,40,105,102,32,113,32,116,32,110,105,108,41,32,116,41,41,10,40,100,101,102,117,110,32,105,102,102,32,40,112,32,113,41,32,40,105,102,32,112,32,40,105,102,32,113,32,116,32,110,105,108,41,32,40,105,102,32,113,32,110,105,108,32,116,41,41,41,10,40,100,101,102,117,110,32,98,111,111,108,101,97,110,112,32,40,120,41,32,40,105,102,32,40,101,113,117,97,108,32,120,32,116,41,32,116,32,40,101,113,117,97,108,32,120,32,110,105,108,41,41,41,10,40,100,101,102,117,110,32,115,121,110,116,97,120,112,32,40,120,41,32,116,41,10,40,100,101,102,117,110,32,97,116,111,109,32,40,120,41,32,40,110,111,116,32,40,99,111,110,115,112,32,120,41,41,41,10,40,100,101,102,117,110,32,101,110,100,112,32,40,120,41,32,40,103,117,97,114,100,32,40,111,114,32,40,99,111,110,115,112,32,120,41,32,40,101,113,117,97,108,32,120,32,110,105,108,41,41,41,32,40,110,111,116,32,40,99,111,110,115,112,32,120,41,41,41,10,40,100,101,102,117,110,32,102,105,120,32,40,120,41,32,40,105,102,32,40,114,97,116,105,111,110,97,108,112,32,120,41,32,120,32,48,41,41,10,40,100,101,102,117,110,32,105,102,105,120,32,40,120,41,32,40,105,102,32,40,105,110,116,101,103,101,114,112,32,120,41,32,120,32,48,41,41,10,40,100,101,102,117,110,32,110,97,116,112,32,40,120,41,32,40,105,102,32,40,105,110,116,101,103,101,114,112,32,120,41,32,40,110,111,116,32,40,60,32,120,32,48,41,41,32,110,105,108,41,41,10,40,100,101,102,117,110,32,112,111,115,112,32,40,120,41,32,40,105,102,32,40,105,110,116,101,103,101,114,112,32,120,41,32,40,60,32,48,32,120,41,32,110,105,108,41,41,10,40,100,101,102,117,110,32,110,102,105,120,32,40,120,41,32,40,105,102,32,40,110,97,116,112,32,120,41,32,120,32,48,41,41,10,40,100,101,102,117,110,32,122,112,32,40,120,41,32,40,103,117,97,114,100,32,40,110,97,116,112,32,120,41,41,32,40,105,102,32,40,105,110,116,101,103,101,114,112,32,120,41,32,40,110,111,116,32,40,60,32,48,32,120,41,41,32,116,41,41,10,40,100,101,102,117,110,32,99,111,117,110,116,32,40,120,41,32,40,109,101,97,115,117,114,101,32,40,99,111,117,110,116,32,120,41,41,32,40,105,102,32,40,99,111,110,115,112,32,120,41,32,40,43,32,49,32,40,99,111,117,110,116,32,40,99,97,114,32,120,41,41,32,40,99,111,117,110,116,32,40,99,100,114,32,120,41,41,41,32,48,41,41,10,40,100,101,102,117,110,32,111,45,102,105,110,112,32,40,120,41,32,40,110,111,116,32,40,99,111,110,115,112,32,120,41,41,41,10,40,100,101,102,117,110,32,111,45,102,105,114,115,116,45,101,120,112,111,110,101,110,116,32,40,120,41,32,40,105,102,32,40,99,111,110,115,112,32,120,41,32,40,99,97,114,32,40,99,97,114,32,120,41,41,32,48,41,41,10,40,100,101,102,117,110,32,111,45,102,105,114,115,116,45,99,111,101,102,102,105,99,105,101,110,116,32,40,120,41,32,40,105,102,32,40,99,111,110,115,112,32,120,41,32,40,99,100,114,32,40,99,97,114,32,120,41,41,32,120,41,41,10,40,100,101,102,117,110,32,111,45,114,101,115,116,32,40,120,41,32,40,105,102,32,40,99,111,110,115,112,32,120,41,32,40,99,100,114,32,120,41,32,48,41,41,10,40,100,101,102,117,110,32,111,60,32,40,120,32,121,41,32,40,109,101,97,115,117,114,101,32,40,99,111,117,110,116,32,120,41,41,10,32,32,40,99,111,110,100,32,40,40,111,45,102,105,110,112,32,120,41,32,40,105,102,32,40,99,111,110,115,112,32,121,41,32,116,32,40,60,32,120,32,121,41,41,41,10,32,32,32,32,32,32,32,32,40,40,111,45,102,105,110,112,32,121,41,32,110,105,108,41,10,32,32,32,32,32,32,32,32,40,40,110,111,116,32,40,101,113,117,97,108,32,40,111,45,102,105,114,115,116,45,101,120,112,111,110,101,110,116,32,120,41,32,40,111,45,102,105,114,115,116,45,101,120,112,111,110,101,110,116,32,121,41,41,41,10,32,32,32,32,32,32,32,32,32,40,111,60,32,40,111,45,102,105,114,115,116,45,101,120,112,111,110,101,110,116,32,120,41,32,40,111,45,102,105,114,115,116,45,101,120,112,111,110,101,110,116,32,121,41,41,41,10,32,32,32,32,32,32,32,32,40,40,110,111,116,32,40,101,113,117,97,108,32,40,111,45,102,105,114,115,116,45,99,111,101,102,102,105,99,105,101,110,116,32,120,41,32,40,111,45,102,105,114,115,116,45,99,111,101,102,102,105,99,105,101,110,116,32,121,41,41,41,10,32,32,32,32,32,32,32,32,32,40,60,32,40,111,45,102,105,114,115,116,45,99,111,101,102,102,105,99,105,101,110,116,32,120,41,32,40,111,45,102,105,114,115,116,45,99,111,101,102,102,105,99,105,101,110,116,32,121,41,41,41,10,32,32,32,32,32,32,32,32,40,116,32,40,111,60,32,40,111,45,114,101,115,116,32,120,41,32,40,111,45,114,101,115,116,32,121,41,41,41,41,41,10,40,100,101,102,117,110,32,111,45,112,32,40,120,41,32,40,109,101,97,115,117,114,101,32,40,99,111,117,110,116,32,120,41,41,10,32,32,40,105,102,32,40,111,45,102,105,110,112,32,120,41,10,32,32,32,32,32,32,40,110,97,116,112,32,120,41,10,32,32,32,32,40,97,110,100,32,40,99,111,110,115,112,32,40,99,97,114,32,120,41,41,10,32,32,32,32,32,32,32,32,32,40,111,45,112,32,40,111,45,102,105,114,115,116,45,101,120,112,111,110,101,110,116,32,120,41,41,10,32,32,32,32,32,32,32,32,32,40,110,111,116,32,40,101,113,117,97,108,32,40,111,45,102,105,114,115,116,45,101,120,112,111,110,101,110,116,32,120,41,32,48,41,41,10,32,32,32,32,32,32,32,32,32,40,112,111,115,112,32,40,111,45,102,105,114,115,116,45,99,111,101,102,102,105,99,105,101,110,116,32,120,41,41,10,32,32,32,32,32,32,32,32,32,40,111,45,112,32,40,111,45,114,101,115,116,32,120,41,41,10,32,32,32,32,32,32,32,32,32,40,111,60,32,40,111,45,102,105,114,115,116,45,101,120,112,111,110,101,110,116,32,40,111,45,114,101,115,116,32,120,41,41,32,40,111,45,102,105,114,115,116,45,101,120,112,111,110,101,110,116,32,120,41,41,41,41,41,10,40,100,101,102,117,110,32,108,101,110,32,40,120,41,32,40,109,101,97,115,117,114,101,32,40,99,111,117,110,116,32,120,41,41,32,40,105,102,32,40,99,111,110,115,112,32,120,41,32,40,43,32,49,32,40,108,101,110,32,40,99,100,114,32,120,41,41,41,32,48,41,41,10,40,100,101,102,117,110,32,116,114,117,101,45,108,105,115,116,112,32,40,120,41,32,40,109,101,97,115,117,114,101,32,40,99,111,117,110,116,32,120,41,41,32,40,105,102,32,40,99,111,110,115,112,32,120,41,32,40,116,114,117,101,45,108,105,115,116,112,32,40,99,100,114,32,120,41,41,32,40,101,113,117,97,108,32,120,32,110,105,108,41,41,41,10,40,100,101,102,117,110,32,98,105,110,97,114,121,45,97,112,112,101,110,100,32,40,120,32,121,41,32,40,103,117,97,114,100,32,40,116,114,117,101,45,108,105,115,116,112,32,120,41,41,32,40,109,101,97,115,117,114,101,32,40,99,111,117,110,116,32,120,41,41,10,32,32,40,105,102,32,40,99,111,110,115,112,32,120,41,32,40,99,111,110,115,32,40,99,97,114,32,120,41,32,40,98,105,110,97,114,121,45,97,112,112,101,110,100,32,40,99,100,114,32,120,41,32,121,41,41,32,121,41,41,10,40,100,101,102,117,110,32,114,101,118,32,40,120,41,32,40,109,101,97,115,117,114,101,32,40,99,111,117,110,116,32,120,41,41,10,32,32,40,105,102,32,40,99,111,110,115,112,32,120,41,32,40,97,112,112,101,110,100,32,40,114,101,118,32,40,99,100,114,32,120,41,41,32,40,108,105,115,116,32,40,99,97,114,32,120,41,41,41,32,110,105,108,41,41,10,40,100,101,102,117,110,32,109,101,109,98,101,114,45,101,113,117,97,108,32,40,101,32,120,41,32,40,103,117,97,114,100,32,40,116,114,117,101,45,108,105,115,116,112,32,120,41,41,32,40,109,101,97,115,117,114,101,32,40,99,111,117,110,116,32,120,41,41,10,32,32,40,105,102,32,40,99,111,110,115,112,32,120,41,32,40,105,102,32,40,101,113,117,97,108,32,101,32,40,99,97,114,32,120,41,41,32,120,32,40,109,101,109,98,101,114,45,101,113,117,97,108,32,101,32,40,99,100,114,32,120,41,41,41,32,110,105,108,41,41,10,40,100,101,102,117,110,32,97,115,115,111,99,45,101,113,117,97,108,32,40,107,32,97,41,32,40,109,101,97,115,117,114,101,32,40,99,111,117,110,116,32,97,41,41,10,32,32,40,99,111,110,100,32,40,40,110,111,116,32,40,99,111,110,115,112,32,97,41,41,32,110,105,108,41,10,32,32,32,32,32,32,32,32,40,40,97,110,100,32,40,99,111,110,115,112,32,40,99,97,114,32,97,41,41,32,40,101,113,117,97,108,32,107,32,40,99,97,114,32,40,99,97,114,32,97,41,41,41,41,32,40,99,97,114,32,97,41,41,10,32,32,32,32,32,32,32,32,40,116,32,40,97,115,115,111,99,45,101,113,117,97,108,32,107,32,40,99,100,114,32,97,41,41,41,41,41,10,40,100,101,102,117,110,32,110,116,104,32,40,110,32,120,41,32,40,103,117,97,114,100,32,40,97,110,100,32,40,110,97,116,112,32,110,41,32,40,116,114,117,101,45,108,105,115,116,112,32,120,41,41,41,32,40,109,101,97,115,117,114,101,32,40,110,102,105,120,32,110,41,41,10,32,32,40,105,102,32,40,122,112,32,110,41,32,40,99,97,114,32,120,41,32,40,110,116,104,32,40,43,32,45,49,32,110,41,32,40,99,100,114,32,120,41,41,41,41,10,40,100,101,102,117,110,32,117,112,100,97,116,101,45,110,116,104,32,40,110,32,118,32,120,41,32,40,103,117,97,114,100,32,40,97,110,100,32,40,110,97,116,112,32,110,41,32,40,116,114,117,101,45,108,105,115,116,112,32,120,41,41,41,32,40,109,101,97,115,117,114,101,32,40,110,102,105,120,32,110,41,41,10,32,32,40,105,102,32,40,122,112,32,110,41,32,40,99,111,110,115,32,118,32,40,99,100,114,32,120,41,41,32,40,99,111,110,115,32,40,99,97,114,32,120,41,32,40,117,112,100,97,116,101,45,110,116,104,32,40,43,32,45,49,32,110,41,32,118,32,40,99,100,114,32,120,41,41,41,41,41,10]
end Go.Proofs.YthhknjlmjefklaaGreatDoor
namespace Go.Proofs.YthhknjlmjefklaaGreatDoor
open Go.RowKit
namespace Rdr
theorem len_take_drop {α:Type} (p:α→Bool) (l:List α):(l.takeWhile p).length+(l.dropWhile p).length=l.length:=by
 rw [← List.length_append,List.takeWhile_append_dropWhile]
theorem drop_tw {α:Type} (p:α→Bool) (l:List α):l.drop (l.takeWhile p).length=l.dropWhile p:=by
 have h:=List.takeWhile_append_dropWhile (p:=p) (l:=l)
 have e:(l.takeWhile p++l.dropWhile p).drop (l.takeWhile p).length=l.dropWhile p:=List.drop_left
 rwa [h] at e
theorem toks_fuel:∀ (f g i:Nat) (r:List UInt8),r.length < f→r.length < g→toks f i r=toks g i r:=by
 intro f
 induction f with
 | zero=>intro g i r h;omega
 | succ f ih =>
  intro g i r h1 h2
  cases g with
  | zero=>omega
  | succ g =>
   cases r with
   | nil=>rw [toks,toks]
   | cons c r =>
    rw [List.length_cons] at h1 h2
    rw [toks,toks]
    rw [ih g (i+1) r (by omega) (by omega)]
    by_cases hb:blk c=true
    ·rw [if_pos hb,if_pos hb]
    rw [if_neg hb,if_neg hb]
    by_cases h40:(c == 40)=true
    ·rw [if_pos h40,if_pos h40]
    rw [if_neg h40,if_neg h40]
    by_cases h41:(c == 41)=true
    ·rw [if_pos h41,if_pos h41]
    rw [if_neg h41,if_neg h41]
    have hl:=len_take_drop cst r
    rw [ih g _ _ (by omega) (by omega)]
def tk (i:Nat) (r:List UInt8):List Tok:=toks (r.length+1) i r
theorem tk_nil (i:Nat):tk i []=[⟨0,i,[],[]⟩]:=by rw [tk,toks]
theorem tk_blk {i:Nat} {c:UInt8} {r:List UInt8} (h:blk c=true):tk i (c::r)=tk (i+1) r:=by
 rw [tk,toks,if_pos h]
 rfl
theorem tk_open {i:Nat} {r:List UInt8}:tk i (40::r)=⟨1,i,[],[]⟩::tk (i+1) r:=by
 rw [tk,toks,if_neg (by decide),if_pos (by decide)]
 rfl
theorem tk_close {i:Nat} {r:List UInt8}:tk i (41::r)=⟨2,i,[],[]⟩::tk (i+1) r:=by
 rw [tk,toks,if_neg (by decide),if_neg (by decide),if_pos (by decide)]
 rfl
def wTok (i:Nat) (w:List UInt8):Tok:=if isNum w then ⟨5,i,w,[49]⟩ else ⟨6,i,w,[]⟩
theorem cst_not {c:UInt8} (h:cst c=true):blk c=false∧(c == 40)=false∧(c == 41)=false:=by
 unfold cst at h
 simp only [Bool.and_eq_true,decide_eq_true_eq,Bool.not_eq_true'] at h
 obtain ⟨⟨⟨⟨⟨⟨⟨⟨h1,h2⟩,h3⟩,h4⟩,_⟩,_⟩,_⟩,_⟩,_⟩:=h
 refine ⟨?_,h3,h4⟩
 have ne:∀ k:UInt8,k.toNat < 33→(c == k)=false:=fun k hk=>by
  rw [beq_eq_false_iff_ne]
  intro e
  rw [e] at h1
  omega
 unfold blk
 rw [ne 32 (by decide),ne 9 (by decide),ne 10 (by decide),ne 13 (by decide)]
 rfl
theorem tk_word {i:Nat} {c:UInt8} {r:List UInt8} (h:cst c=true):tk i (c::r)=wTok i ((c::r).takeWhile cst)::tk (i+((c::r).takeWhile cst).length) ((c::r).drop ((c::r).takeWhile cst).length):=by
 obtain ⟨h1,h2,h3⟩:=cst_not h
 rw [drop_tw,List.takeWhile_cons,if_pos h,List.dropWhile_cons,if_pos h]
 rw [tk,toks,if_neg (by rw [h1];decide),if_neg (by rw [h2];decide),if_neg (by rw [h3];decide)]
 simp only [List.length_cons]
 rw [tk,toks_fuel _ ((r.dropWhile cst).length+1) _ _ (by have:=len_take_drop cst r;omega) (by omega)]
 rfl
theorem tk_skip:∀ (i:Nat) (r:List UInt8),tk i r=tk (i+(r.takeWhile blk).length) (r.drop (r.takeWhile blk).length)
 | i,[]=>rfl
 | i,c::r=>by
  cases h:blk c with
  | false=>rw [List.takeWhile_cons,if_neg (by rw [h];decide)];rfl
  | true =>
   rw [tk_blk h,tk_skip (i+1) r,List.takeWhile_cons,if_pos h,List.length_cons,List.drop_succ_cons]
   congr 1
   omega
end Rdr
end Go.Proofs.YthhknjlmjefklaaGreatDoor
namespace Go.Proofs.YthhknjlmjefklaaGreatDoor
open Go.RowKit
theorem syFs:(Tryz.prog).fieldsOf 28=#[⟨"Package", 9,0,false, "", "", 0⟩,⟨"Name", 9,1,false, "", "", 16⟩]:=by kernel_rfl
theorem syU:Tryz.prog.underlying 28=some (.struct (Tryz.prog.fieldsOf 28)):=by kernel_rfl
theorem syH:Tryz.prog.stoodInHeld 28=false:=by kernel_rfl
theorem syG:Tryz.prog.eqGuardType Tryz.prog.depth 28=false:=by kernel_rfl
theorem part_s (p s:List UInt8) (w:World):(part 9 #[str p,str s] 0).run Tryz.prog w=.ok (str p) w∧(part 9 #[str p,str s] 1).run Tryz.prog w=.ok (str s) w:=by
 constructor <;> simp [part]
theorem sy_equal {p s p' s':List UInt8} (w:World):(Op.equalIn 10000 28 (.agg #[str p,str s]) (.agg #[str p',str s'])).run Tryz.prog w=.ok (decide (p=p') && decide (s=s')) w:=by
 rw [run_equalIn_agg w 9999 _ _ _ syU syH,syFs]
 have e1:=run_equalIn_string (P:=Tryz.prog) w 9998 9 ⟨p.toArray⟩ ⟨p'.toArray⟩ Tryz.underlying9
 have e2:=run_equalIn_string (P:=Tryz.prog) w 9998 9 ⟨s.toArray⟩ ⟨s'.toArray⟩ Tryz.underlying9
 rw [toList_str,toList_str,eqD] at e1 e2
 simp only [Op.eqFields,Sem.run_bind,(part_s p s w).1,(part_s p s w).2,(part_s p' s' w).1,(part_s p' s' w).2,Result.andThen_ok,e1,e2,ne_eq,Sem.run_ite,Sem.run_pure]
 cases decide (p=p') <;> cases decide (s=s') <;> simp
theorem bin_syeq {x y:Operand} {p s p' s':List UInt8} {r:Bool} (h:(decide (p=p') && decide (s=s'))=r):BinIs Tryz.prog .eql 28 x y (.agg #[str p,str s]) (.agg #[str p',str s']) (.bool r):=by
 intro w
 rw [← h]
 simp only [Sem.run_bind,run_eqGuard_agg w .eql _ x y _ _ syG,Result.andThen_ok,run_eql_struct,sy_equal]
theorem bin_ine {P:Program} {t:TypeId} {x y:Operand} {k:IntKind} {a b:Int} {r:Bool} (h:decide (a=b)=!r):BinIs P .neq t x y (.int k a) (.int k b) (.bool r):=by
 refine sbin_is ?_
 simp only [sbin,decide_true]
 show some (Value.bool (!(a == b)))=_
 rw [eqD a b,h,Bool.not_not]
abbrev syA (p n:List UInt8):AV:=.agg [stA p,stA n]
theorem p_tConst (o:Ob):Puk 45 [obA o] (teA (Te.con o)):=pwalk (an:=[]) (ls:=[]) (ps:=[]) Tryz.func45 (by kernel_rfl) (by kernel_rfl) trivial
theorem p_rConst (o:Ob):Puk 13 [obA o] (teA (Te.con o)):=pwalk (an:=[]) (ls:=[]) (ps:=[]) Tryz.func13 (by kernel_rfl) (by kernel_rfl) trivial
theorem p_oSym (p n:List UInt8):Puk 82 [syA p n] (obA ⟨2,[],[],p,n,[],[]⟩):=pwalk (an:=[]) (ls:=[]) (ps:=[]) Tryz.func82 (by kernel_rfl) (by kernel_rfl) trivial
theorem p_rSym (p n:List UInt8):Puk 59 [syA p n] (obA ⟨2,[],[],p,n,[],[]⟩):=pwalk (an:=[]) (ls:=[]) (ps:=[]) Tryz.func59 (by kernel_rfl) (by kernel_rfl) trivial
theorem p_oNil:Puk 48 [] (obA nilO):=pwalk (an:=[.av (obA nilO)]) (ls:=[]) (ps:=[Puk 82 [(syA [108,105,115,112] [110,105,108])] (obA nilO)]) Tryz.func48 (by kernel_rfl) (by kernel_rfl) ⟨p_oSym _ _,trivial⟩
theorem p_oT:Puk 47 [] (obA tO):=pwalk (an:=[.av (obA tO)]) (ls:=[]) (ps:=[Puk 82 [(syA [108,105,115,112] [116])] (obA tO)]) Tryz.func47 (by kernel_rfl) (by kernel_rfl) ⟨p_oSym _ _,trivial⟩
theorem p_lisp (n:List UInt8):Puk 29 [stA n] (syA lispB n):=pwalk (an:=[]) (ls:=[]) (ps:=[]) Tryz.func29 (by kernel_rfl) (by kernel_rfl) trivial
theorem p_rNil:Puk 28 [] (obA nilO):=pwalk (an:=[.av (syA lispB [110,105,108]),.av (obA nilO)]) (ls:=[]) (ps:=[Puk 29 [(stA [110,105,108])] (syA lispB [110,105,108]),Puk 59 [(syA lispB [110,105,108])] (obA nilO)]) Tryz.func28 (by kernel_rfl) (by kernel_rfl) ⟨p_lisp _,p_rSym _ _,trivial⟩
theorem p_rT:Puk 64 [] (obA tO):=pwalk (an:=[.av (syA lispB [116]),.av (obA tO)]) (ls:=[]) (ps:=[Puk 29 [(stA [116])] (syA lispB [116]),Puk 59 [(syA lispB [116])] (obA tO)]) Tryz.func64 (by kernel_rfl) (by kernel_rfl) ⟨p_lisp _,p_rSym _ _,trivial⟩
abbrev rcT (p n:List UInt8) (rs:List (List Dt)):AV:=.agg [inA 3,stA p,stA n,inA 0,stA [],stA [],stA [],stA [],stA [],.dt (.row []),.dt (.row rs)]
theorem p_tApp (p n:List UInt8) (rs:List (List Dt)):Puk 79 [syA p n,.dt (.row rs)] (rcT p n rs):=pwalk (an:=[]) (ls:=[]) (ps:=[]) Tryz.func79 (by kernel_rfl) (by kernel_rfl) trivial
theorem p_rApp (p n:List UInt8) (rs:List (List Dt)):Puk 23 [syA p n,.dt (.row rs)] (rcT p n rs):=pwalk (an:=[]) (ls:=[]) (ps:=[]) Tryz.func23 (by kernel_rfl) (by kernel_rfl) trivial
theorem p_tLisp' (n:List UInt8) (rs:List (List Dt)):Puk 43 [stA n,.dt (.row rs)] (rcT lispB n rs):=pwalk (an:=[.av (rcT lispB n rs)]) (ls:=[]) (ps:=[Puk 79 [(syA [108,105,115,112] n),(.dt (.row rs))] (.agg [(inA 3),(stA lispB),(stA n),(inA 0),(stA []),(stA []),(stA []),(stA []),(stA []),(.dt (.row [])),(.dt (.row rs))])]) Tryz.func43 (by kernel_rfl) (by kernel_rfl) ⟨p_tApp _ _ _,trivial⟩
theorem p_rLisp' (n:List UInt8) (rs:List (List Dt)):Puk 27 [stA n,.dt (.row rs)] (rcT lispB n rs):=pwalk (an:=[.av (syA lispB n),.av (rcT lispB n rs)]) (ls:=[]) (ps:=[Puk 29 [(stA n)] (syA lispB n),Puk 23 [(syA lispB n),(.dt (.row rs))] (.agg [(inA 3),(stA lispB),(stA n),(inA 0),(stA []),(stA []),(stA []),(stA []),(stA []),(.dt (.row [])),(.dt (.row rs))])]) Tryz.func27 (by kernel_rfl) (by kernel_rfl) ⟨p_lisp n,p_rApp _ _ _,trivial⟩
theorem p_tLisp (n:List UInt8) (l:List Te) {rs:List (List Dt)} (h:rs=l.map Te.enc):Puk 43 [stA n,.dt (.row rs)] (teA (Te.ap n l)):=by subst h;exact p_tLisp' _ _
theorem p_rLisp (n:List UInt8) (l:List Te) {rs:List (List Dt)} (h:rs=l.map Te.enc):Puk 27 [stA n,.dt (.row rs)] (teA (Te.ap n l)):=by subst h;exact p_rLisp' _ _
theorem p_rIsNil {o:Ob} (h:o.Wf):Puk 16 [obA o] (boA (sameD o nilO)) :=
 ⟨fnm Tryz.func16 rfl (by kernel_rfl),fun ok w vs _ hv=>by
  obtain ⟨A,n,c,rfl,hr⟩:=hv.one_obj
  exact (rIsNil_any ok o h A n c w hr).mono fun _ _ h=>h.pure⟩
theorem p_oEqO {a:Ob} (h:a.Wf) (b:Ob):Puk 112 [obA a,obA b] (boA (sameD a b)) :=
 ⟨fnm Tryz.func112 rfl (by kernel_rfl),fun ok w vs _ hv=>by
  obtain ⟨A,n,c,A',n',c',rfl,hr,hr'⟩:=hv.two_obj
  exact (oEqual_any ok ok a.size a b (Nat.le_refl _) h A A' n n' c c' w hr hr').mono fun _ _ h=>h.pure⟩
theorem p_rEqO {a:Ob} (h:a.Wf) (b:Ob):Puk 50 [obA a,obA b] (boA (sameD a b)) :=
 ⟨fnm Tryz.func50 rfl (by kernel_rfl),fun ok w vs _ hv=>by
  obtain ⟨A,n,c,A',n',c',rfl,hr,hr'⟩:=hv.two_obj
  exact (rEqual_any ok ok a.size a b (Nat.le_refl _) h A A' n n' c c' w hr hr').mono fun _ _ h=>h.pure⟩
theorem isD {t:Te} {n:List UInt8} {k:Nat}:decide (t.is n k)=(decide (t.kind=3) && (decide (t.np=lispB) && decide (t.nn=n) && decide (t.args.length=k))):=by
 show decide (_∧_∧_∧_)=_
 simp [Bool.and_assoc]
theorem p_rIs (t:Te) (n:List UInt8) (k:Nat):Puk 86 [teA t,stA n,inA k] (boA (decide (t.is n k))):=by
 rw [isD]
 cases hk:decide (t.kind=3) with
 | false=>exact pwalk (an:=[yF]) (ls:=[]) (ps:=[Bn .eql 3 (.tmp 8) (.const (vi 3)) (vi t.kind) (vi 3) bF]) Tryz.func86 (by kernel_rfl) (by kernel_rfl) ⟨bin_ieq hk,trivial⟩
 | true =>
  cases hs:decide (t.np=lispB) && decide (t.nn=n) with
  | false=>exact pwalk (an:=[yT,.av (syA lispB n),yF]) (ls:=[]) (ps:=[Bn .eql 3 (.tmp 8) (.const (vi 3)) (vi t.kind) (vi 3) bT,Puk 29 [(stA n)] (syA lispB n),Bn .eql 28 (.tmp 12) (.tmp 14) (Value.agg #[str t.np,str t.nn]) (Value.agg #[str lispB,str n]) bF]) Tryz.func86 (by kernel_rfl) (by kernel_rfl) ⟨bin_ieq hk,p_lisp n,bin_syeq hs,trivial⟩
  | true=>exact pwalk (an:=[yT,.av (syA lispB n),yT,.av (inA t.args.length),.av (boA (decide (t.args.length=k)))]) (ls:=[]) (ps:=[Bn .eql 3 (.tmp 8) (.const (vi 3)) (vi t.kind) (vi 3) bT,Puk 29 [(stA n)] (syA lispB n),Bn .eql 28 (.tmp 12) (.tmp 14) (Value.agg #[str t.np,str t.nn]) (Value.agg #[str lispB,str n]) bT,(vi ↑t.args.length)=(vi (↑(List.map Te.enc t.args).length)),Bn .eql 3 (.tmp 20) (.tmp 21) (vi ↑t.args.length) (vi ↑k) (Value.bool (decide (t.args.length=k)))]) Tryz.func86 (by kernel_rfl) (by kernel_rfl) ⟨bin_ieq hk,p_lisp n,bin_syeq hs,lenEncT _,bin_ieq (by rw [decide_eq_decide];omega),trivial⟩
end Go.Proofs.YthhknjlmjefklaaGreatDoor
namespace Go.Proofs.YthhknjlmjefklaaGreatDoor
open Go.RowKit
namespace Te
theorem Wf.val {t:Te} (h:t.Wf):t.val.Wf:=by cases h with | mk _ hv hl hx=>exact hv
theorem Wf.len {t:Te} (h:t.Wf):t.args.length≤9223372036854775807:=by cases h with | mk _ hv hl hx=>exact hl
theorem Wf.kids {t x:Te} (h:t.Wf) (hx:x∈t.args):x.Wf:=by cases h with | mk _ hv hl hh=>exact hh x hx
theorem same_cons {x y:Te} {a b:List Te}:sameD (x::a) (y::b)=(sameD x y && sameD a b):=by
 unfold sameD
 by_cases h1:x=y <;> by_cases h2:a=b <;> simp [h1,h2]
theorem same_iff {a b:Te}:sameD a b=(decide (a.kind=b.kind) && (decide (a.np=b.np) && decide (a.nn=b.nn)) && sameD a.val b.val && sameD a.args b.args):=by
 obtain ⟨k,p,n,o,l⟩:=a
 obtain ⟨k',p',n',o',l'⟩:=b
 unfold sameD
 rw [Bool.eq_iff_iff]
 simp [and_assoc]
end Te
abbrev fEq:AV:=.clf 76 []
abbrev eqS (a b:List Te) (i:Int):AS:=⟨stt 32 [(1,tesA b),(2,fEq),(15,tesA a),(16,inA a.length),(17,inA i)],[]⟩
abbrev eqR (b:Bool):AS:=⟨stt 32 [(6,boA b)],[]⟩
abbrev eqN:AS:=⟨stt 32 [],[]⟩
noncomputable abbrev eqB:Code:=subC (bodyOf Tryz.f113) [1,1,0,1,0,0]
theorem eqB1 {a b:List Te} {x y:Te} {i:Nat} (hx:a[i]?=some x) (hy:b[i]?=some y) (hl:a.length≤9223372036854775807) (h:Puk 76 [teA x,teA y] (boA true)):Tri EX eqB (eqS a b i) .nxt (eqS a b ((i+1:Nat):Int)) :=
 twalk (c:=subC (bodyOf Tryz.f113) [1,1,0,1,0,0]) (s:=eqS a b i) (an:=[yT,.av (.pin ((encT x).map .dt)),.av (.pin ((encT y).map .dt)),yT,.av (inA ((i+1:Nat):Int))]) (ls:=[]) (ft:=[1,2,15,16,17]) (nb:=0) (e:=.nxt) (s':=eqS a b ((i+1:Nat):Int)) (ps:=[Bn .lss 3 (.tmp 17) (.tmp 16) (vi ↑i) (vi ↑a.length) bT,IxAt (List.map Te.enc a) ↑i 11 (encT x),IxAt (List.map Te.enc b) ↑i 11 (encT y),Puk 76 [(teA x),(teA y)] (boA true),Bn .add 3 (.tmp 17) (.const (vi 1)) (vi ↑i) (vi 1) (vi (↑(i+1)))]) (by kernel_rfl)
  ⟨bin_ilt (decide_eq_true (by have:=(List.getElem?_eq_some_iff.1 hx).1;omega)),ix_te hx,ix_te hy,h,bin_iadd (by omega) (by omega) (by have:=(List.getElem?_eq_some_iff.1 hx).1;omega),trivial⟩
theorem eqB2 {a b:List Te} {i:Nat} (hi:i=a.length):Tri EX eqB (eqS a b i) (.out 0) eqN :=
 twalk (c:=subC (bodyOf Tryz.f113) [1,1,0,1,0,0]) (s:=eqS a b i) (an:=[yF]) (ls:=[]) (ft:=[]) (nb:=0) (e:=.out 0) (s':=eqN) (ps:=[Bn .lss 3 (.tmp 17) (.tmp 16) (vi ↑i) (vi ↑a.length) bF]) (by kernel_rfl)
  ⟨bin_ilt (decide_eq_false (by omega)),trivial⟩
theorem eqB3 {a b:List Te} {x y:Te} {i:Nat} (hx:a[i]?=some x) (hy:b[i]?=some y) (h:Puk 76 [teA x,teA y] (boA false)):Tri EX eqB (eqS a b i) .ret (eqR false) :=
 twalk (c:=subC (bodyOf Tryz.f113) [1,1,0,1,0,0]) (s:=eqS a b i) (an:=[yT,.av (.pin ((encT x).map .dt)),.av (.pin ((encT y).map .dt)),yF]) (ls:=[]) (ft:=[6]) (nb:=0) (e:=.ret) (s':=eqR false) (ps:=[Bn .lss 3 (.tmp 17) (.tmp 16) (vi ↑i) (vi ↑a.length) bT,IxAt (List.map Te.enc a) ↑i 11 (encT x),IxAt (List.map Te.enc b) ↑i 11 (encT y),Puk 76 [(teA x),(teA y)] (boA false)]) (by kernel_rfl)
  ⟨bin_ilt (decide_eq_true (by have:=(List.getElem?_eq_some_iff.1 hx).1;omega)),ix_te hx,ix_te hy,h,trivial⟩
theorem p_eqFunc {a b:List Te} (hl:a.length≤9223372036854775807) (h:∀ x∈a,∀ y,Puk 76 [teA x,teA y] (boA (sameD x y))):Puk 113 [tesA a,tesA b,fEq] (boA (sameD a b)):=by
 by_cases hne:a.length=b.length
 ·have loop:∀ (s s':List Te) (i:Nat),a.drop i=s→b.drop i=s'→i≤a.length→(sameD s s'=true→Lps EX eqB (eqS a b i) (.out 0) eqN)∧(sameD s s'=false→Lps EX eqB (eqS a b i) .ret (eqR false)):=by
   intro s
   induction s with
   | nil =>
    intro s' i hd hd' hi
    have e1:=congrArg List.length hd
    rw [List.length_drop,List.length_nil] at e1
    have e2:=congrArg List.length hd'
    rw [List.length_drop] at e2
    obtain rfl:s'=[]:=List.eq_nil_of_length_eq_zero (by omega)
    exact ⟨fun _=>.stop (eqB2 (by omega)) (fun h=>by cases h),fun h=>by simp at h⟩
   | cons x s ih =>
    intro s' i hd hd' hi
    have hx:a[i]?=some x:=by rw [← List.head?_drop,hd];rfl
    have hlt:=(List.getElem?_eq_some_iff.1 hx).1
    cases s' with
    | nil =>
     have e2:=congrArg List.length hd'
     rw [List.length_drop,List.length_nil] at e2
     omega
    | cons y s' =>
     have hy:b[i]?=some y:=by rw [← List.head?_drop,hd'];rfl
     have hc:=h x (List.mem_of_getElem? hx) y
     obtain ⟨k1,k2⟩:=ih s' (i+1) (by rw [← List.drop_drop,hd];rfl) (by rw [← List.drop_drop,hd'];rfl) (by omega)
     rw [Te.same_cons]
     cases hxy:sameD x y with
     | true =>
      rw [hxy] at hc
      rw [Bool.true_and]
      exact ⟨fun e=>.more (eqB1 hx hy hl hc) (k1 e),fun e=>.more (eqB1 hx hy hl hc) (k2 e)⟩
     | false =>
      rw [hxy] at hc
      exact ⟨fun e=>by simp at e,fun _=>.stop (eqB3 hx hy hc) (fun h=>by cases h)⟩
  obtain ⟨k1,k2⟩:=loop a b 0 rfl rfl (Nat.zero_le _)
  cases hab:sameD a b with
  | true=>exact pwalk (an:=[.av (inA a.length),.av (inA b.length),yF,.av (inA a.length)]) (ls:=[.inv [1,2,15,16,17] 0 (.out 0) (eqN)]) (ps:=[(vi ↑a.length)=(vi (↑(List.map Te.enc a).length)),(vi ↑b.length)=(vi (↑(List.map Te.enc b).length)),Bn .neq 3 (.tmp 11) (.tmp 13) (vi ↑a.length) (vi ↑b.length) bF,(vi ↑a.length)=(vi (↑(List.map Te.enc a).length)),Tri EX (.loop (subC (bodyOf Tryz.f113) [1,1,0,1,0,0])) (eqS a b 0) (.out 0) (eqN)]) Tryz.func113 (by kernel_rfl) (by kernel_rfl) ⟨lenEncT _,lenEncT _,bin_ine (by simp [hne]),lenEncT _,(k1 hab).tri,trivial⟩
  | false=>exact pwalk (an:=[.av (inA a.length),.av (inA b.length),yF,.av (inA a.length)]) (ls:=[.inv [1,2,15,16,17] 0 (.ret) (eqR false)]) (ps:=[(vi ↑a.length)=(vi (↑(List.map Te.enc a).length)),(vi ↑b.length)=(vi (↑(List.map Te.enc b).length)),Bn .neq 3 (.tmp 11) (.tmp 13) (vi ↑a.length) (vi ↑b.length) bF,(vi ↑a.length)=(vi (↑(List.map Te.enc a).length)),Tri EX (.loop (subC (bodyOf Tryz.f113) [1,1,0,1,0,0])) (eqS a b 0) (.ret) (eqR false)]) Tryz.func113 (by kernel_rfl) (by kernel_rfl) ⟨lenEncT _,lenEncT _,bin_ine (by simp [hne]),lenEncT _,(k2 hab).tri,trivial⟩
 ·have e:sameD a b=false:=decide_eq_false fun e=>hne (congrArg List.length e)
  rw [e]
  exact pwalk (an:=[.av (inA a.length),.av (inA b.length),yT]) (ls:=[]) (ps:=[(vi ↑a.length)=(vi (↑(List.map Te.enc a).length)),(vi ↑b.length)=(vi (↑(List.map Te.enc b).length)),Bn .neq 3 (.tmp 11) (.tmp 13) (vi ↑a.length) (vi ↑b.length) bT]) Tryz.func113 (by kernel_rfl) (by kernel_rfl) ⟨lenEncT _,lenEncT _,bin_ine (by simp;omega),trivial⟩
theorem p_tEq:∀ (N:Nat) (a b:Te),a.size≤N→a.Wf→Puk 76 [teA a,teA b] (boA (sameD a b)):=by
 intro N
 induction N with
 | zero=>intro a b h;have:=Te.size_pos a;omega
 | succ N ih =>
  intro a b hN hw
  rw [Te.same_iff]
  cases hk:decide (a.kind=b.kind) with
  | false=>exact pwalk (an:=[yF]) (ls:=[]) (ps:=[Bn .eql 3 (.tmp 6) (.tmp 8) (vi a.kind) (vi b.kind) bF]) Tryz.func76 (by kernel_rfl) (by kernel_rfl) ⟨bin_ieq hk,trivial⟩
  | true =>
   cases hs:decide (a.np=b.np) && decide (a.nn=b.nn) with
   | false=>exact pwalk (an:=[yT,yF]) (ls:=[]) (ps:=[Bn .eql 3 (.tmp 6) (.tmp 8) (vi a.kind) (vi b.kind) bT,Bn .eql 28 (.tmp 12) (.tmp 14) (Value.agg #[str a.np,str a.nn]) (Value.agg #[str b.np,str b.nn]) bF]) Tryz.func76 (by kernel_rfl) (by kernel_rfl) ⟨bin_ieq hk,bin_syeq hs,trivial⟩
   | true =>
    have h1:=p_oEqO hw.val b.val
    cases hv:sameD a.val b.val with
    | false =>
     rw [hv] at h1
     exact pwalk (an:=[yT,yT,yF]) (ls:=[]) (ps:=[Bn .eql 3 (.tmp 6) (.tmp 8) (vi a.kind) (vi b.kind) bT,Bn .eql 28 (.tmp 12) (.tmp 14) (Value.agg #[str a.np,str a.nn]) (Value.agg #[str b.np,str b.nn]) bT,Puk 112 [(obA a.val),(obA b.val)] (boA false)]) Tryz.func76 (by kernel_rfl) (by kernel_rfl) ⟨bin_ieq hk,bin_syeq hs,h1,trivial⟩
    | true =>
     rw [hv] at h1
     exact pwalk (an:=[yT,yT,yT,.av (boA (sameD a.args b.args))]) (ls:=[]) (ps:=[Bn .eql 3 (.tmp 6) (.tmp 8) (vi a.kind) (vi b.kind) bT,Bn .eql 28 (.tmp 12) (.tmp 14) (Value.agg #[str a.np,str a.nn]) (Value.agg #[str b.np,str b.nn]) bT,Puk 112 [(obA a.val),(obA b.val)] (boA true),Puk 113 [(.dt (.row (List.map Te.enc a.args))),(.dt (.row (List.map Te.enc b.args))),(.clf 76 [])] (boA (sameD a.args b.args))]) Tryz.func76 (by kernel_rfl) (by kernel_rfl) ⟨bin_ieq hk,bin_syeq hs,h1,p_eqFunc hw.len fun x hx y=>ih x y (by have:=Te.size_args hx;omega) (hw.kids hx),trivial⟩
theorem p_teq {a:Te} (h:a.Wf) (b:Te):Puk 76 [teA a,teA b] (boA (sameD a b)):=p_tEq _ a b (Nat.le_refl _) h
end Go.Proofs.YthhknjlmjefklaaGreatDoor
namespace Go.Proofs.YthhknjlmjefklaaGreatDoor
open Go.RowKit
abbrev ixS (c:List Te) (f:FuncId) (cs:List AV) (i:Int):AS:=⟨stt 19 [(0,tesA c),(1,.clf f cs),(7,inA c.length),(8,inA i)],[]⟩
abbrev ixR (i:Int):AS:=⟨stt 19 [(4,inA i)],[]⟩
abbrev ixN:AS:=⟨stt 19 [],[]⟩
noncomputable abbrev ixB:Code:=subC (bodyOf Tryz.f123) [1,0,1,0,0]
theorem ixB1 {c:List Te} {f:FuncId} {cs:List AV} {x:Te} {i:Nat} (hx:c[i]?=some x) (hl:c.length≤9223372036854775807) (h:Puk f ([teA x]++cs) (boA false)):Tri EX ixB (ixS c f cs i) .nxt (ixS c f cs ((i+1:Nat):Int)) :=
 twalk (c:=subC (bodyOf Tryz.f123) [1,0,1,0,0]) (s:=ixS c f cs i) (an:=[yT,.av (.pin ((encT x).map .dt)),yF,.av (inA ((i+1:Nat):Int))]) (ls:=[]) (ft:=[0,1,7,8]) (nb:=0) (e:=.nxt) (s':=ixS c f cs ((i+1:Nat):Int)) (ps:=[Bn .lss 3 (.tmp 8) (.tmp 7) (vi ↑i) (vi ↑c.length) bT,IxAt (List.map Te.enc c) ↑i 11 (encT x),Puk f ([(teA x)]++cs) (boA false),Bn .add 3 (.tmp 8) (.const (vi 1)) (vi ↑i) (vi 1) (vi (↑(i+1)))]) (by kernel_rfl)
  ⟨bin_ilt (decide_eq_true (by have:=(List.getElem?_eq_some_iff.1 hx).1;omega)),ix_te hx,h,bin_iadd (by omega) (by omega) (by have:=(List.getElem?_eq_some_iff.1 hx).1;omega),trivial⟩
theorem ixB2 {c:List Te} {f:FuncId} {cs:List AV} {i:Nat} (hi:i=c.length):Tri EX ixB (ixS c f cs i) (.out 0) ixN :=
 twalk (c:=subC (bodyOf Tryz.f123) [1,0,1,0,0]) (s:=ixS c f cs i) (an:=[yF]) (ls:=[]) (ft:=[]) (nb:=0) (e:=.out 0) (s':=ixN) (ps:=[Bn .lss 3 (.tmp 8) (.tmp 7) (vi ↑i) (vi ↑c.length) bF]) (by kernel_rfl)
  ⟨bin_ilt (decide_eq_false (by omega)),trivial⟩
theorem ixB3 {c:List Te} {f:FuncId} {cs:List AV} {x:Te} {i:Nat} (hx:c[i]?=some x) (h:Puk f ([teA x]++cs) (boA true)):Tri EX ixB (ixS c f cs i) .ret (ixR i) :=
 twalk (c:=subC (bodyOf Tryz.f123) [1,0,1,0,0]) (s:=ixS c f cs i) (an:=[yT,.av (.pin ((encT x).map .dt)),yT]) (ls:=[]) (ft:=[4]) (nb:=0) (e:=.ret) (s':=ixR i) (ps:=[Bn .lss 3 (.tmp 8) (.tmp 7) (vi ↑i) (vi ↑c.length) bT,IxAt (List.map Te.enc c) ↑i 11 (encT x),Puk f ([(teA x)]++cs) (boA true)]) (by kernel_rfl)
  ⟨bin_ilt (decide_eq_true (by have:=(List.getElem?_eq_some_iff.1 hx).1;omega)),ix_te hx,h,trivial⟩
theorem p_ixFunc {c:List Te} {f:FuncId} {cs:List AV} {p:Te→Bool} (hl:c.length≤9223372036854775807) (h:∀ x∈c,Puk f ([teA x]++cs) (boA (p x))):∃ k:Int,Puk 123 [tesA c,.clf f cs] (inA k)∧decide (0≤k)=c.any p:=by
 have loop:∀ (s:List Te) (i:Nat),c.drop i=s→i≤c.length→(s.any p=true→∃ j:Nat,Lps EX ixB (ixS c f cs i) .ret (ixR j))∧(s.any p=false→Lps EX ixB (ixS c f cs i) (.out 0) ixN):=by
  intro s
  induction s with
  | nil =>
   intro i hd hi
   have e1:=congrArg List.length hd
   rw [List.length_drop,List.length_nil] at e1
   exact ⟨fun h=>by simp at h,fun _=>.stop (ixB2 (by omega)) (fun h=>by cases h)⟩
  | cons x s ih =>
   intro i hd hi
   have hx:c[i]?=some x:=by rw [← List.head?_drop,hd];rfl
   have hlt:=(List.getElem?_eq_some_iff.1 hx).1
   have hc:=h x (List.mem_of_getElem? hx)
   obtain ⟨k1,k2⟩:=ih (i+1) (by rw [← List.drop_drop,hd];rfl) (by omega)
   rw [List.any_cons]
   cases hp:p x with
   | true =>
    rw [hp] at hc
    exact ⟨fun _=>⟨i,.stop (ixB3 hx hc) (fun h=>by cases h)⟩,fun e=>by simp at e⟩
   | false =>
    rw [hp] at hc
    rw [Bool.false_or]
    exact ⟨fun e=>(k1 e).elim fun j hj=>⟨j,.more (ixB1 hx hl hc) hj⟩,fun e=>.more (ixB1 hx hl hc) (k2 e)⟩
 obtain ⟨k1,k2⟩:=loop c 0 rfl (Nat.zero_le _)
 cases hp:c.any p with
 | true =>
  obtain ⟨j,hj⟩:=k1 hp
  exact ⟨j,pwalk (an:=[.av (inA c.length)]) (ls:=[.inv [0,1,7,8] 0 (.ret) (ixR j)]) (ps:=[(vi ↑c.length)=(vi (↑(List.map Te.enc c).length)),Tri EX (.loop (subC (bodyOf Tryz.f123) [1,0,1,0,0])) (ixS c f cs 0) (.ret) (ixR j)]) Tryz.func123 (by kernel_rfl) (by kernel_rfl) ⟨lenEncT _,hj.tri,trivial⟩,decide_eq_true (by omega)⟩
 | false=>exact ⟨-1,pwalk (an:=[.av (inA c.length)]) (ls:=[.inv [0,1,7,8] 0 (.out 0) (ixN)]) (ps:=[(vi ↑c.length)=(vi (↑(List.map Te.enc c).length)),Tri EX (.loop (subC (bodyOf Tryz.f123) [1,0,1,0,0])) (ixS c f cs 0) (.out 0) (ixN)]) Tryz.func123 (by kernel_rfl) (by kernel_rfl) ⟨lenEncT _,(k2 hp).tri,trivial⟩,rfl⟩
theorem p_ctFunc {c:List Te} {f:FuncId} {cs:List AV} {p:Te→Bool} (hl:c.length≤9223372036854775807) (h:∀ x∈c,Puk f ([teA x]++cs) (boA (p x))):Puk 96 [tesA c,.clf f cs] (boA (c.any p)):=by
 obtain ⟨k,h1,h2⟩:=p_ixFunc hl h
 rw [← h2]
 exact pwalk (an:=[.av (inA k),.av (boA (decide (0≤k)))]) (ls:=[]) (ps:=[Puk 123 [(.dt (.row (List.map Te.enc c))),(.clf f cs)] (inA k),Bn .geq 3 (.tmp 7) (.const (vi 0)) (vi k) (vi 0) (Value.bool (decide (0≤k)))]) Tryz.func96 (by kernel_rfl) (by kernel_rfl) ⟨h1,bin_ige rfl,trivial⟩
end Go.Proofs.YthhknjlmjefklaaGreatDoor
namespace Go.Proofs.YthhknjlmjefklaaGreatDoor
open Go.RowKit
namespace Te
theorem arg_at {t:Te} {n:List UInt8} {k i:Nat} (h:is t n k) (hi:i < k):t.args[i]?=some (t.arg i):=by
 have hl:t.args.length=k:=h.2.2.2
 unfold arg
 rw [List.getD_eq_getElem?_getD,List.getElem?_eq_getElem (by omega)]
 rfl
theorem row1 (a:Te):[encT a]=[a].map Te.enc:=by simp only [List.map_cons,List.map_nil,enc_T]
theorem row3 (a b c:Te):[encT a,encT b,encT c]=[a,b,c].map Te.enc:=by simp only [List.map_cons,List.map_nil,enc_T]
end Te
open Te
theorem p_tLisp1 (n:List UInt8) (a:Te):Puk 43 [stA n,.dt (.row [encT a])] (teA (Te.ap n [a])):=p_tLisp n [a] (row1 a)
theorem p_rLisp1 (n:List UInt8) (a:Te):Puk 27 [stA n,.dt (.row [encT a])] (teA (Te.ap n [a])):=p_rLisp n [a] (row1 a)
theorem p_tLisp3 (n:List UInt8) (a b c:Te):Puk 43 [stA n,.dt (.row [encT a,encT b,encT c])] (teA (Te.ap n [a,b,c])):=p_tLisp n [a,b,c] (row3 a b c)
theorem yesD {p:Prop} [Decidable p] (h:p):decide p=true:=decide_eq_true h
theorem noD {p:Prop} [Decidable p] (h:¬ p):decide p=false:=decide_eq_false h
end Go.Proofs.YthhknjlmjefklaaGreatDoor
namespace Go.Proofs.YthhknjlmjefklaaGreatDoor
open Go.RowKit
section
variable {X:Nat→Prop} {n0:Nat} {w0:World×Mm} {ok0:Nat→Prop} {M:Mm} {nt:Nat} {tm:Nat→AV} {bx:Nat→Option Bx} {a:Act} {w:World}
def Mm.own0 (M:Mm) (k:Nat):Mm:=⟨M.m,M.F,fun b=>if b=k then some (none,0,0) else M.o b⟩
theorem Mm.own0_at (M:Mm) (k:Nat):(M.own0 k).o k=some (none,0,0):=if_pos rfl
theorem go_own0 {X':Nat→Prop} {m0:Nat} {k:Nat} (hS:Sto X n0 M bx w) (hk:bx k=none):Go1 X' m0 M w (M.own0 k) w :=
 ⟨Bel.refl _ _ _,fun _ _ _=>rfl,fun _ h _=>h,fun _ _ h=>h,fun b A n c h=>by
  by_cases e:b=k
  ·subst e;rw [hS.fresh_o hk] at h;cases h
  ·exact ⟨A,n,c,(if_neg e).trans h,Nat.le_refl _,fun _=>⟨rfl,rfl⟩⟩⟩
theorem sto_own0 {k:Nat} (hS:Sto X n0 M bx w) (le:n0≤w.heap.size) (hk:bx k=none) (e:TypeId) (kk:Nat):Sto X n0 (M.own0 k) (updX1 bx k (.buf e kk [])) w :=
 hS.upd (go_own0 hS hk) le (fun _ hb=>⟨rfl,if_neg hb⟩) (fun _ _ _=>rfl) (fun q hq=>⟨hS.fz q hq,.inl hq⟩) ⟨none,0,0,M.own0_at k,OwnD.nil _ _ _ _ _⟩
  (fun q ⟨n,c,hq⟩=>by rw [M.own0_at k] at hq;cases hq) (fun q hq=>by rw [show (M.own0 k).m k=M.m k from rfl,hS.fresh_m hk] at hq;cases hq)
theorem rv_own0 {k:Nat} {v:Value} (h:RV M w .nil v):RV (M.own0 k) w (.own k 0) v:=⟨none,0,none,0,0,h,M.own0_at k,Nat.le_refl _,fun _=>⟨rfl,rfl⟩⟩
theorem Inv.own0 (h:Inv X n0 w0 ok0 M nt tm bx a w) {t k:Nat} (ht:tm t=.nil) (hk:bx k=none) (e:TypeId) (kk:Nat) :
  Inv X n0 w0 ok0 (M.own0 k) nt (fun i=>if i=t then .own k 0 else tm i) (updX1 bx k (.buf e kk [])) a w:=by
 have g:Go1 X n0 M w (M.own0 k) w:=go_own0 h.sto hk
 refine ⟨h.below,h.le,h.defers,h.size,fun i=>?_,sto_own0 h.sto h.le hk e kk,h.src,h.anc.trans g⟩
 by_cases hi:i=t
 ·subst hi
  have hv:=h.tmps i
  rw [ht] at hv
  show RV _ _ (if i=i then _ else _) _
  rw [if_pos rfl]
  exact rv_own0 hv
 ·show RV _ _ (if i=t then _ else _) _
  rw [if_neg hi]
  exact RV.go g _ _ (h.tmps i)
end
def afunF (E:En) (fn:Func) (args:List AV) (an:List An) (ls:List LA):Option (List (List Dt)×List Prop):=match fn.body with
 | none=>none
 | some c=>match acode E c ⟨args++List.replicate (fn.ntmps - args.length) (.dt (.val undef)),[]⟩ an ls with
  | some (.out _,_)=>none
  | none=>none
  | some (_,s,ps,_,_)=>match ares E.P s fn.results.toList with
   | some [.ful es]=>some (es,ps)
   | _=>none
theorem walkF {E:En} (hG:∀ w w',E.G w→Below w.heap.size w w'→E.G w') {f:FuncId} {fn:Func} (hf:E.P.funcs[f]?=some fn) (hn:(fn.name == "runtime.NumGoroutine")=false)
  {args:List AV} {an:List An} {ls:List LA} {es:List (List Dt)} {ps:List Prop} (h:afunF E fn args an ls=some (es,ps)) (hp:AllP ps):PureOK E.P E.G f args (.ful es):=by
 unfold afunF at h
 have key:∃ c e s an' ls',fn.body=some c∧acode E c ⟨args++List.replicate (fn.ntmps - args.length) (.dt (.val undef)),[]⟩ an ls=some (e,s,ps,an',ls')∧(∀ i,e≠.out i)∧ares E.P s fn.results.toList=some [.ful es]:=by
  split at h
  ·cases h
  ·rename_i c hb
   split at h
   ·cases h
   ·cases h
   ·rename_i e s ps' an' ls' hne hc
    split at h
    ·rename_i es' hcs
     cases h
     exact ⟨c,e,s,an',ls',hb,hc,fun i he=>by subst he;exact hne _ rfl,hcs⟩
    ·cases h
 obtain ⟨c,e,s,an',ls',hb,hc,hne,hcs⟩:=key
 refine ⟨⟨fn,hf,by rw [hb];rfl,hn⟩,fun ok w vs hw hargs=>?_⟩
 obtain ⟨hlen,htri⟩:=acode_sound hc hp
 have hal:=hargs.len
 refine calls_of_wp hf hb (wp_mono (htri (fun _=>False) w.heap.size (w,M0 fun b=>ok b∧b < w.heap.size) ok _ w ⟨fun w' hb=>hG w w' hw hb.below,fun _ _=>⟨rfl,rfl⟩⟩ ⟨M0 fun b=>ok b∧b < w.heap.size,?_⟩) ?_)
 ·have nobx:∀ b x,(AS.mk (args++List.replicate (fn.ntmps - args.length) (.dt (.val undef))) []).bxf b≠some x:=fun b x h=>by simp [AS.bxf] at h
  refine ⟨Bel.refl _ _ _,Nat.le_refl _,rfl,?_,?_,⟨fun b x h=>absurd h (nobx b x),fun b x _ h=>absurd h (nobx b x),fun b _ x _ _ h=>absurd h (nobx b x),(fun b g h=>by cases h),(fun b v h=>by cases h),fun b hb=>hb.2⟩,fun b hb _=>.inl hb.1,Go1.refl _ _ _ _⟩
  ·simp [hal]
  ·intro t
   have hargs':RL (M0 fun b=>ok b∧b < w.heap.size) w args vs:=RL.flatter (fun b hb hl=>⟨hb,hl⟩) hargs
   by_cases ht:t < args.length
   ·obtain ⟨u,hu1,hu2⟩:=hargs'.get (i:=t) (c:=args[t]) (List.getElem?_eq_getElem ht)
    have e1:(AS.mk (args++List.replicate (fn.ntmps - args.length) (.dt (.val undef))) []).tmf t=args[t]:=by
     unfold AS.tmf
     simp [List.getElem?_append_left ht,ht]
    have e2:(vs.toArray++Array.replicate (fn.ntmps - vs.toArray.size) undef).getD t undef=u:=by
     have ht':t < vs.length:=by omega
     simp only [Array.getD_eq_getD_getElem?]
     rw [Array.getElem?_append_left (by simpa using ht')]
     simp [hu1]
    rw [e1,e2]
    exact hu2
   ·have e1:(AS.mk (args++List.replicate (fn.ntmps - args.length) (.dt (.val undef))) []).tmf t=.dt (.val undef):=by
     unfold AS.tmf
     rw [List.getD_eq_getElem?_getD,List.getElem?_append_right (by omega),List.getElem?_replicate]
     split <;> rfl
    have e2:(vs.toArray++Array.replicate (fn.ntmps - vs.toArray.size) undef).getD t undef=undef:=by
     simp only [Array.getD_eq_getD_getElem?]
     rw [Array.getElem?_append_right (by simp;omega),Array.getElem?_replicate]
     split <;> rfl
    rw [e1,e2]
    exact rv_undef
 ·rintro x a' w' ⟨rfl,M,hI⟩
  obtain ⟨us,h1,u,us',rfl,⟨A,hA,hr⟩,hu2⟩:=ares_run hI hcs
  obtain rfl:us'=[]:=hu2
  have hR:∃ v,(results fn a'.tmps).run E.P w'=.ok v w'∧(fun e w'=>∃ v,e=Ending.returned v∧Below w.heap.size w w'∧RV (M0 fun b=>ok b∨w.heap.size≤b) w' (.ful es) v) (.returned v) w':=by
   refine ⟨_,results_run h1,_,rfl,hI.below.below,A,hA,?_⟩
   subst hA
   refine hr.mono fun b hb _=>?_
   by_cases e:b < w.heap.size
   ·rcases hI.src b hb e with h | h
    ·exact .inl h
    ·exact h.elim
   ·exact .inr (by omega)
  cases e with
  | nxt=>exact ⟨hI.defers,hR⟩
  | ret=>exact ⟨hI.defers,hR⟩
  | out i=>exact absurd rfl (hne i)
theorem Tri.own0 {E:En} {c:Code} {s s':AS} {e:AE} (t:Nat) (T:TypeId) (kk:Nat) (hl:t < s.tm.length) (ht:s.tmf t=.nil) (h:Tri E c ⟨s.tm.set t (.own s.bx.length 0),s.bx++[some (.buf T kk [])]⟩ e s'):Tri E c s e s':=by
 obtain ⟨h1,h2⟩:=h
 have hlen:(s.tm.set t (.own s.bx.length 0)).length=s.tm.length:=List.length_set ..
 refine ⟨h1.trans hlen,fun X n0 w0 ok0 a w hG ⟨M,hI⟩=>?_⟩
 have hb:s.bxf s.bx.length=none:=by unfold AS.bxf;rw [List.getElem?_eq_none (Nat.le_refl _)]
 have hI2:=hI.own0 ht hb T kk
 have e1:(AS.mk (s.tm.set t (.own s.bx.length 0)) (s.bx++[some (.buf T kk [])])).tmf=fun i=>if i=t then .own s.bx.length 0 else s.tmf i:=by
  funext i
  unfold AS.tmf
  by_cases hi:i=t
  ·subst hi
   simp [List.getD_eq_getElem?_getD,hl]
  ·simp [List.getD_eq_getElem?_getD,Ne.symm hi,hi]
 have e2:(AS.mk (s.tm.set t (.own s.bx.length 0)) (s.bx++[some (.buf T kk [])])).bxf=updX1 s.bxf s.bx.length (.buf T kk []):=by
  funext k
  unfold AS.bxf
  by_cases hk:k=s.bx.length
  ·subst hk
   simp
  ·simp only [if_neg hk]
   rcases Nat.lt_or_ge k s.bx.length with hlt | hge
   ·rw [List.getElem?_append_left hlt]
   ·rw [List.getElem?_eq_none (by simp;omega),List.getElem?_eq_none hge]
 have hL:Left X n0 w0 ok0 (AS.mk (s.tm.set t (.own s.bx.length 0)) (s.bx++[some (.buf T kk [])])).tm.length (AS.mk (s.tm.set t (.own s.bx.length 0)) (s.bx++[some (.buf T kk [])])).tmf (AS.mk (s.tm.set t (.own s.bx.length 0)) (s.bx++[some (.buf T kk [])])).bxf a w:=by
  rw [e1,e2,show (AS.mk (s.tm.set t (.own s.bx.length 0)) (s.bx++[some (.buf T kk [])])).tm.length=s.tm.length from hlen]
  exact ⟨_,hI2⟩
 have:=h2 X n0 w0 ok0 a w hG hL
 rw [show (AS.mk (s.tm.set t (.own s.bx.length 0)) (s.bx++[some (.buf T kk [])])).tm.length=s.tm.length from hlen] at this
 exact this
theorem Tri.frz {E:En} {c:Code} {s s':AS} {e:AE} (t b:Nat) {T:TypeId} {kk:Nat} {es:List (List Dt)} (htl:t < s'.tm.length) (hb:s'.bx[b]?=some (some (.buf T kk es))) (ht:s'.tmf t=.own b es.length) (h:Tri E c s e s'):Tri E c s e ⟨s'.tm.set t (.dt (.row es)),s'.bx.set b (some (.fzn es))⟩:=by
 obtain ⟨h1,h2⟩:=h
 refine ⟨(List.length_set ..).trans h1,fun X n0 w0 ok0 a w hG hL=>wp_mono (h2 X n0 w0 ok0 a w hG hL) ?_⟩
 rintro x a' w' ⟨rfl,M,hI⟩
 refine ⟨rfl,?_⟩
 have hbl:b < s'.bx.length:=(List.getElem?_eq_some_iff.1 hb).1
 have hbf:s'.bxf b=some (.buf T kk es):=by unfold AS.bxf;rw [hb]
 obtain ⟨M',g,hS,hm,ho,hF⟩:=hI.sto.frz hbf
 have e1:(AS.mk (s'.tm.set t (.dt (.row es))) (s'.bx.set b (some (.fzn es)))).tmf=fun i=>if i=t then .dt (.row es) else s'.tmf i:=by
  funext i
  unfold AS.tmf
  by_cases hi:i=t
  ·subst hi
   simp [List.getD_eq_getElem?_getD,htl]
  ·simp [List.getD_eq_getElem?_getD,Ne.symm hi,hi]
 have e2:(AS.mk (s'.tm.set t (.dt (.row es))) (s'.bx.set b (some (.fzn es)))).bxf=updX1 s'.bxf b (.fzn es):=by
  funext k
  unfold AS.bxf
  by_cases hk:k=b
  ·subst hk
   simp [hbl]
  ·simp only [if_neg hk]
   rw [List.getElem?_set_ne (Ne.symm hk)]
 rw [e1,e2]
 refine ⟨M',hI.below,hI.le,hI.defers,hI.size,fun i=>?_,hS,fun q hq hl=>?_,hI.anc.trans g⟩
 ·by_cases hi:i=t
  ·subst hi
   have hv:=hI.tmps i
   rw [ht] at hv
   obtain ⟨A,c1,A',n',c',hv1,hv2,hv3,hv4⟩:=hv
   obtain ⟨A2,n2,c2,k1,k2⟩:=hS.box b (.fzn es) (if_pos rfl)
   rw [ho,hv2] at k1
   cases k1
   have hn:=k2.len
   obtain ⟨rfl,rfl⟩:=hv4 hn
   show RV _ _ (if i=i then _ else _) _
   rw [if_pos rfl,hv1,hn]
   exact k2
  ·show RV _ _ (if i=t then _ else _) _
   rw [if_neg hi]
   exact RV.go g _ _ (hI.tmps i)
 ·rcases hF q hq with e | e | e
  ·exact hI.src q e hl
  ·omega
  ·exact .inr e
end Go.Proofs.YthhknjlmjefklaaGreatDoor
namespace Go.Proofs.YthhknjlmjefklaaGreatDoor
open Go.RowKit
open Te
abbrev encTs (l:List Te):List (List Dt):=l.map Te.enc
theorem src_te (l:List Te):SrcOK 11 (encTs l):=by
 intro x hx
 obtain ⟨t,_,rfl⟩:=List.mem_map.1 hx
 rw [enc_T]
 refine ⟨rfl,fun d hd=>?_⟩
 simp only [List.mem_cons,List.not_mem_nil,or_false] at hd
 rcases hd with rfl | rfl | rfl | rfl | rfl | rfl | rfl | rfl | rfl | rfl | rfl <;> rfl
theorem src_te1 (t:Te):SrcOK 11 [encT t]:=row1 t ▸ src_te [t]
theorem src_c (d:List (List Dt)):SrcOK 1 [[.row d]]:=by
 intro x hx
 rw [List.mem_singleton] at hx
 subst hx
 exact ⟨rfl,fun d hd=>by rw [List.mem_singleton] at hd;subst hd;rfl⟩
theorem fit_of {b n:Nat} (hb:b≤200) (h:n≤1000000):FitB b n:=⟨by show n≤2 ^ 63 - 1;omega,by
 have:=Nat.mul_le_mul h hb
 omega⟩
end Go.Proofs.YthhknjlmjefklaaGreatDoor
namespace Go.Proofs.YthhknjlmjefklaaGreatDoor
open Go.RowKit
open Te
theorem p_clip (qs:List Te) (hl:qs.length≤9223372036854775807):Puk 94 [tesA qs] (.ful (encTs qs)) :=
 walkF (E:=EX) (fun _ _ h hb=>h.below hb) Tryz.func94 (by kernel_rfl) (an:=[.av (inA qs.length),.av (inA qs.length),.av (.dt (.row (qs.map Te.enc)))]) (ls:=[]) (ps:=[(vi ↑qs.length)=(vi (↑(List.map Te.enc qs).length)),(vi ↑qs.length)=(vi (↑(List.map Te.enc qs).length)),SlcOK (List.map Te.enc qs) 11 ((none:Option Int).getD 0) ((some (qs.length:Int)).getD ((List.map Te.enc qs).length:Int)) (List.map Te.enc qs),(some (qs.length:Int))=(none:Option Int)∨(some (qs.length:Int))=(some (qs.length:Int))]) (by kernel_rfl)
  ⟨lenEncT _,lenEncT _,⟨Int.le_refl _,by show (0:Int)≤(qs.length:Int);omega,by show (qs.length:Int)≤_;rw [List.length_map];omega,by
   show _=List.drop 0 (List.take ((qs.length:Int)).toNat _)
   rw [Int.toNat_natCast,List.drop_zero,List.take_of_length_le (by rw [List.length_map];omega)],.inl rfl⟩,.inr rfl,trivial⟩
theorem enc_snoc (qs:List Te) (a:Te):encTs qs++[encT a]=encTs (qs++[a]):=by rw [row1];exact List.map_append.symm
end Go.Proofs.YthhknjlmjefklaaGreatDoor
namespace Go.Proofs.YthhknjlmjefklaaGreatDoor
open Go.RowKit
open Te
namespace Te
theorem zOb_wf:zOb.Wf:=.mk _ (by decide) (by decide) (by decide) (by decide) (by decide) (by decide) (by decide) (by decide) (fun x hx=>by cases hx)
end Te
end Go.Proofs.YthhknjlmjefklaaGreatDoor
namespace Go.Proofs.YthhknjlmjefklaaGreatDoor
open Go.RowKit
abbrev wr (n:Int):Int:=IntKind.i64.wrap n
abbrev rawA (r:Raw):AV:=.agg [inA r.kind,inA r.n,stA r.s,.dt (.row (r.l.map Raw.enc))]
abbrev encR (r:Raw):List Dt:=[.val (.int .i64 r.kind),.val (.int .i64 r.n),.val (str r.s),.row (r.l.map Raw.enc)]
theorem enc_R (r:Raw):r.enc=encR r:=Raw.enc_eq r
theorem ix_raw {l:List Raw} {i:Nat} {o:Raw} (h:l[i]?=some o):IxAt (l.map Raw.enc) (i:Int) 4 (encR o):=⟨Int.natCast_nonneg _,by
 rw [Int.toNat_natCast,List.getElem?_map,h]
 exact congrArg some (enc_R o),rfl⟩
theorem lenEncR (l:List Raw):Value.int .i64 (l.length:Int)=Value.int .i64 ((l.map Raw.enc).length:Int):=by rw [List.length_map]
theorem lenStr (l:List UInt8):Value.int .i64 (l.length:Int)=Value.int .i64 (l.length:Int):=rfl
theorem p_mod (n m:Int) (hm:0 < m) (hm1:m≤1000000):Puk 9 [inA n,inA m] (inA (n % m)) :=
 ⟨fnm Tryz.func9 rfl (by kernel_rfl),fun ok w vs ht hv=>by
  obtain ⟨u,us,rfl,h1,h2⟩:=hv
  obtain rfl:=RL.one_val h2
  rw [Rd.val_eq h1]
  refine (mod_any n m w hm hm1).mono ?_
  rintro e w' ⟨rfl,rfl⟩
  exact ⟨_,rfl,Below.refl _ _,.val _⟩⟩
mutual
def leftW:Raw→Int→Int
 | ⟨_,_,s,l⟩,m=>if 12 < s.length then -1 else if 6 < l.length then -1 else leftWL l (wr (m - 1))
def leftWL:List Raw→Int→Int
 | [],m=>m
 | x::r,m=>if 0≤m then leftWL r (leftW x m) else m
end
theorem leftW_eq (r:Raw) (m:Int):leftW r m=if 12 < r.s.length then -1 else if 6 < r.l.length then -1 else leftWL r.l (wr (m - 1)):=by
 cases r;rw [leftW]
theorem leftWL_neg {l:List Raw} {m:Int} (h:m < 0):leftWL l m=m:=by
 cases l with
 | nil=>rw [leftWL]
 | cons x r=>rw [leftWL,if_neg (by omega)]
theorem wr_id {n:Int} (h0:-9223372036854775808≤n) (h1:n≤9223372036854775807):wr n=n:=by
 show IntKind.i64.wrap n=n
 rw [IntKind.wrap_i64];omega
def fewR (r:Raw) (m:Int):Bool:=decide (0≤leftW r m)
abbrev lfS (r:Raw) (i m:Int):AS:=⟨stt 37 [(1,inA m),(2,.ptr 0 0),(4,inA 0),(5,inA i)],[some (.cells [inA r.kind,inA r.n,stA r.s,.dt (.row (r.l.map Raw.enc))])]⟩
noncomputable abbrev lfB:Code:=subC (bodyOf Tryz.f53) [1,1,1,0,1,0,0]
theorem lfB1 {r x:Raw} {i:Nat} {m k:Int} (hx:r.l[i]?=some x) (hl:r.l.length≤6) (h0:0≤m) (hk:Puk 53 [rawA x,inA m] (inA k)):Tri EX lfB (lfS r i m) .nxt (lfS r ((i+1:Nat):Int) k) :=
 twalk (c:=subC (bodyOf Tryz.f53) [1,1,1,0,1,0,0]) (s:=lfS r i m) (an:=[.av (inA r.l.length),yT,yT,.av (.pin ((encR x).map .dt)),.av (inA k),.av (inA ((i+1:Nat):Int))]) (ls:=[]) (ft:=[1,2,4,5]) (nb:=1) (e:=.nxt) (s':=lfS r ((i+1:Nat):Int) k) (ps:=[(vi ↑r.l.length)=(vi (↑(List.map Raw.enc r.l).length)),Bn .lss 3 (.tmp 18) (.tmp 21) (vi ↑i) (vi ↑r.l.length) bT,Bn .geq 3 (.tmp 24) (.const (vi 0)) (vi m) (vi 0) bT,IxAt (List.map Raw.enc r.l) ↑i 4 (encR x),Puk 53 [(rawA x),(inA m)] (inA k),Bn .add 3 (.tmp 27) (.const (vi 1)) (vi ↑i) (vi 1) (vi (↑(i+1)))]) (by kernel_rfl)
  ⟨lenEncR _,bin_ilt (decide_eq_true (by have:=(List.getElem?_eq_some_iff.1 hx).1;omega)),bin_ige (decide_eq_true h0),ix_raw hx,hk,bin_iadd (by omega) (by omega) (by have:=(List.getElem?_eq_some_iff.1 hx).1;omega),trivial⟩
theorem lfB2 {r:Raw} {i:Nat} {m:Int} (hi:i=r.l.length):Tri EX lfB (lfS r i m) (.out 0) (lfS r i m) :=
 twalk (c:=subC (bodyOf Tryz.f53) [1,1,1,0,1,0,0]) (s:=lfS r i m) (an:=[.av (inA r.l.length),yF]) (ls:=[]) (ft:=[1,2,4,5]) (nb:=1) (e:=.out 0) (s':=lfS r i m) (ps:=[(vi ↑r.l.length)=(vi (↑(List.map Raw.enc r.l).length)),Bn .lss 3 (.tmp 18) (.tmp 21) (vi ↑i) (vi ↑r.l.length) bF]) (by kernel_rfl)
  ⟨lenEncR _,bin_ilt (decide_eq_false (by omega)),trivial⟩
theorem lfB3 {r:Raw} {i:Nat} {m:Int} (hi:i < r.l.length) (h0:m < 0):Tri EX lfB (lfS r i m) (.out 0) (lfS r i m) :=
 twalk (c:=subC (bodyOf Tryz.f53) [1,1,1,0,1,0,0]) (s:=lfS r i m) (an:=[.av (inA r.l.length),yT,yF]) (ls:=[]) (ft:=[1,2,4,5]) (nb:=1) (e:=.out 0) (s':=lfS r i m) (ps:=[(vi ↑r.l.length)=(vi (↑(List.map Raw.enc r.l).length)),Bn .lss 3 (.tmp 18) (.tmp 21) (vi ↑i) (vi ↑r.l.length) bT,Bn .geq 3 (.tmp 24) (.const (vi 0)) (vi m) (vi 0) bF]) (by kernel_rfl)
  ⟨lenEncR _,bin_ilt (decide_eq_true (by omega)),bin_ige (decide_eq_false (by omega)),trivial⟩
theorem p_left:∀ (N:Nat) (r:Raw) (m:Int),r.size≤N→Puk 53 [rawA r,inA m] (inA (leftW r m)):=by
 intro N
 induction N with
 | zero=>intro r m h;have:=r.size_pos;omega
 | succ N ih =>
  intro r m hN
  rw [leftW_eq]
  by_cases h12:12 < r.s.length
  ·rw [if_pos h12]
   exact pwalk (an:=[.av (inA r.s.length),yT]) (ls:=[]) (ps:=[(vi ↑r.s.length)=(vi (↑r.s.length)),Bn .gtr 3 (.tmp 8) (.const (vi 12)) (vi ↑r.s.length) (vi 12) bT]) Tryz.func53 (by kernel_rfl) (by kernel_rfl) ⟨lenStr _,bin_igt (decide_eq_true (by omega)),trivial⟩
  rw [if_neg h12]
  by_cases h6:6 < r.l.length
  ·rw [if_pos h6]
   exact pwalk (an:=[.av (inA r.s.length),yF,.av (inA r.l.length),yT]) (ls:=[]) (ps:=[(vi ↑r.s.length)=(vi (↑r.s.length)),Bn .gtr 3 (.tmp 8) (.const (vi 12)) (vi ↑r.s.length) (vi 12) bF,(vi ↑r.l.length)=(vi (↑(List.map Raw.enc r.l).length)),Bn .gtr 3 (.tmp 13) (.const (vi 6)) (vi ↑r.l.length) (vi 6) bT]) Tryz.func53 (by kernel_rfl) (by kernel_rfl) ⟨lenStr _,bin_igt (decide_eq_false (by omega)),lenEncR _,bin_igt (decide_eq_true (by omega)),trivial⟩
  rw [if_neg h6]
  have loop:∀ (l:List Raw) (i:Nat) (m:Int),r.l.drop i=l→i≤r.l.length→(∀ x∈l,x.size≤N)→∃ j:Nat,Lps EX lfB (lfS r i m) (.out 0) (lfS r j (leftWL l m)):=by
   intro l
   induction l with
   | nil =>
    intro i m hd hi _
    have:i=r.l.length:=by
     have:=congrArg List.length hd
     rw [List.length_drop,List.length_nil] at this
     omega
    rw [leftWL]
    exact ⟨i,.stop (lfB2 this) (fun h=>by cases h)⟩
   | cons x l ihl =>
    intro i m hd hi hs
    have hx:r.l[i]?=some x:=by rw [← List.head?_drop,hd];rfl
    have hlt:=(List.getElem?_eq_some_iff.1 hx).1
    rw [leftWL]
    by_cases h0:0≤m
    ·rw [if_pos h0]
     obtain ⟨j,hj⟩:=ihl (i+1) (leftW x m) (by rw [← List.drop_drop,hd];rfl) (by omega) (fun y hy=>hs y (List.mem_cons_of_mem _ hy))
     exact ⟨j,.more (lfB1 hx (by omega) h0 (ih x m (hs x (List.mem_cons_self ..)))) hj⟩
    ·rw [if_neg h0]
     exact ⟨i,.stop (lfB3 hlt (by omega)) (fun h=>by cases h)⟩
  obtain ⟨j,hj⟩:=loop r.l 0 (wr (m - 1)) rfl (Nat.zero_le _) (fun x hx=>by have:=Raw.size_l hx;omega)
  generalize leftWL r.l (wr (m - 1))=k at *
  exact pwalk (an:=[.av (inA r.s.length),yF,.av (inA r.l.length),yF,.no]) (ls:=[.inv [1,2,4,5] 1 (.out 0) (lfS r j k)]) (ps:=[(vi ↑r.s.length)=(vi (↑r.s.length)),Bn .gtr 3 (.tmp 8) (.const (vi 12)) (vi ↑r.s.length) (vi 12) bF,(vi ↑r.l.length)=(vi (↑(List.map Raw.enc r.l).length)),Bn .gtr 3 (.tmp 13) (.const (vi 6)) (vi ↑r.l.length) (vi 6) bF,Tri EX (.loop (subC (bodyOf Tryz.f53) [1,1,1,0,1,0,0])) (lfS r 0 (wr (m - 1))) (.out 0) (lfS r j k)]) Tryz.func53 (by kernel_rfl) (by kernel_rfl) ⟨lenStr _,bin_igt (decide_eq_false (by omega)),lenEncR _,bin_igt (decide_eq_false (by omega)),hj.tri,trivial⟩
theorem p_Few (r:Raw) (m:Int):Puk 18 [rawA r,inA m] (boA (fewR r m)) :=
 pwalk (an:=[.av (inA (leftW r m)),.av (boA (fewR r m))]) (ls:=[]) (ps:=[Puk 53 [(rawA r),(inA m)] (inA (leftW r m)),Bn .geq 3 (.tmp 7) (.const (vi 0)) (vi (leftW r m)) (vi 0) (Value.bool (fewR r m))]) Tryz.func18 (by kernel_rfl) (by kernel_rfl) ⟨p_left _ r m (Nat.le_refl _),bin_ige rfl,trivial⟩
namespace Te
abbrev conspB:List UInt8:=[99,111,110,115,112]
abbrev equalB:List UInt8:=[101,113,117,97,108]
end Te
open Te
abbrev srow (n:List UInt8):List Dt:=[.val (str userB),.val (str n)]
end Go.Proofs.YthhknjlmjefklaaGreatDoor
namespace Go.Proofs.YthhknjlmjefklaaGreatDoor
open Go.RowKit
open Te
theorem SOK.retNil {P:Program} {G:World→Prop} {f:FuncId} {args:List AV} {T:TypeId} {kk:Nat} (h:SOK P G f args [] .nil []):SOK P G f args [] (.own 0 0) [some (.buf T kk [])]:=by
 refine ⟨h.1,fun X M w vs hG hS hargs=>(h.2 X M w vs hG hS hargs).mono ?_⟩
 rintro e w' ⟨v,M',h1,h2,h3,h4,h5⟩
 have hk:lk [] 0=none:=rfl
 refine ⟨v,M'.own0 0,h1,h2.trans (go_own0 h3 hk),?_,h4,rv_own0 h5⟩
 have:=sto_own0 h3 h2.below.size hk T kk
 rwa [show updX1 (lk []) 0 (.buf T kk [])=lk [some (.buf T kk [])] from funext fun b=>by
  match b with
  | 0=>rfl
  | b+1=>rfl] at this
theorem SOK.empty {P:Program} {G:World→Prop} {f:FuncId} {xs xs':List (Option Bx)} {r:AV} (h0:∀ c,SOK P G f [.dt (.val (.slice none 0 c))] xs r xs') (h1:∀ A c,SOK P G f [.dt (.val (.slice (some A) 0 c))] xs r xs'):SOK P G f [.dt (.row [])] xs r xs':=by
 refine ⟨(h0 0).1,fun X M w vs hG hS hargs=>?_⟩
 obtain ⟨v,us,rfl,hv,hu⟩:=hargs
 obtain rfl:us=[]:=hu
 have hv:Rd M.F w v (.row []):=hv
 cases hv with
 | nil A c =>
  cases A with
  | none=>exact (h0 c).2 X M w _ hG hS ⟨_,[],rfl,Rd.val _,rfl⟩
  | some A=>exact (h1 A c).2 X M w _ hG hS ⟨_,[],rfl,Rd.val _,rfl⟩
 | row b o n c k l f hn h0=>cases hn;exact absurd h0 (Nat.lt_irrefl _)
theorem bin_nil {t e:TypeId} {x y:Operand} {A:Option Addr} {n c:Nat} (hu:Tryz.prog.underlying t=some (.slice e)):Bn .eql t x y (.slice A n c) (.slice none 0 0) (.bool A.isNone):=by
 intro w
 have:=Lib.run_eql_slice_nil (P:=Tryz.prog) w t e A n c 0 0 hu
 simp only [eqGuard,Sem.run_bind,Sem.run_pure,Result.andThen,Bool.not_true,Bool.false_eq_true,if_false,this]
theorem fitM0:FitM 0 0:=⟨by decide,by decide,by decide⟩
end Go.Proofs.YthhknjlmjefklaaGreatDoor
namespace Go.Proofs.YthhknjlmjefklaaGreatDoor
open Go.RowKit
open Te
theorem bin_ile {P:Program} {t:TypeId} {x y:Operand} {k:IntKind} {a b:Int} {r:Bool} (h:decide (a≤b)=r):BinIs P .leq t x y (.int k a) (.int k b) (.bool r):=by
 subst h
 exact sbin_is (by simp [sbin])
theorem syGn:Tryz.prog.eqGuardType Tryz.prog.depth 28=false:=by kernel_rfl
theorem bin_syne {x y:Operand} {p s p' s':List UInt8} {r:Bool} (h:(decide (p=p') && decide (s=s'))=!r):BinIs Tryz.prog .neq 28 x y (.agg #[str p,str s]) (.agg #[str p',str s']) (.bool r):=by
 intro w
 rw [show r=!(decide (p=p') && decide (s=s')) by rw [h,Bool.not_not]]
 simp only [Sem.run_bind,run_eqGuard_agg w .neq _ x y _ _ syGn,Result.andThen_ok,run_neq_struct,sy_equal]
theorem p_rNodesO {o:Ob} (h:o.Wf):Puk 101 [obA o] (inA (nodesP o)) :=
 pk_ov (fnm Tryz.func101 rfl (by kernel_rfl)) fun ok A n c w _ hr=>rNodes_any ok o h A n c w hr
theorem p_rValidO {o:Ob} (h:o.Wf) (hs:o.Sm):Puk 118 [obA o] (boA o.validB) :=
 pk_ov (fnm Tryz.func118 rfl (by kernel_rfl)) fun ok A n c w _ hr=>rValid_any ok o h hs A n c w hr
theorem RL.one_sy {M:Mm} {w:World} {p n:List UInt8} {vs:List Value} (h:RL M w [syA p n] vs):vs=[symAgg ⟨p,n⟩]:=by
 obtain ⟨u,us,rfl,⟨ws,rfl,u0,us0,rfl,h0,u1,us1,rfl,h1,h2⟩,h3⟩:=h
 obtain rfl:us=[]:=h3
 obtain rfl:us1=[]:=h2
 rw [Rd.val_eq h0,Rd.val_eq h1]
theorem p_ref4V (p n:List UInt8) (hp:p.length≤9223372036854775807) (hn:n.length≤9223372036854775807):Puk 155 [syA p n] (boA (symOk ⟨p,n⟩)) :=
 ⟨fnm Tryz.func155 rfl (by kernel_rfl),fun ok w vs _ hv=>by
  obtain rfl:=hv.one_sy
  exact (ref4Valid_any ⟨p,n⟩ w hp hn).mono fun _ _ h=>h.pure⟩
end Go.Proofs.YthhknjlmjefklaaGreatDoor
namespace Go.Proofs.YthhknjlmjefklaaGreatDoor
open Go.RowKit
abbrev u8A (c:UInt8):AV:=.dt (.val (.int .u8 (c.toNat:Int)))
theorem u8d {c k:UInt8} {n:Int} (h:(k.toNat:Int)=n):decide ((c.toNat:Int)=n)=(c == k):=by
 rw [Bool.eq_iff_iff,decide_eq_true_iff,beq_iff_eq,← h]
 exact ⟨fun e=>UInt8.toNat_inj.1 (by omega),fun e=>by rw [e]⟩
theorem u8n {c k:UInt8} {n:Int} (h:(k.toNat:Int)=n) {b:Bool} (e:(c == k)=b):decide ((c.toNat:Int)=n)=b:=(u8d h).trans e
theorem bytes_getY (s:ByteArray) (i:Nat):s[i]?=s.data.toList[i]?:=by
 rw [Array.getElem?_toList]
 by_cases h:i < s.size
 ·have h':i < s.data.size:=h
  rw [getElem?_pos s i h,Array.getElem?_eq_getElem h']
  rfl
 ·have h':¬ i < s.data.size:=h
  rw [getElem?_neg s i h,Array.getElem?_eq_none (by omega)]
theorem ix_s {s:List UInt8} {i:Nat} {c:UInt8} (h:s[i]?=some c):IxS ⟨s.toArray⟩ (i:Int) (.int .u8 (c.toNat:Int)):=⟨c,Int.natCast_nonneg _,by
 rw [bytes_getY,Int.toNat_natCast];exact h,rfl⟩
theorem lenS (s:List UInt8):Value.int .i64 (s.length:Int)=Value.int .i64 (s.length:Int):=rfl
theorem p_blank (c:UInt8):Puk 177 [u8A c] (boA (Rdr.blk c)):=by
 unfold Rdr.blk
 cases h1:c == 32 with
 | true=>exact pwalk (an:=[yT]) (ls:=[]) (ps:=[Bn .eql 5 (.tmp 3) (.const (Value.int .u8 32)) (Value.int .u8 ↑c.toNat) (Value.int .u8 32) bT]) Tryz.func177 (by kernel_rfl) (by kernel_rfl) ⟨bin_ieq (u8n rfl h1),trivial⟩
 | false =>
  cases h2:c == 9 with
  | true=>exact pwalk (an:=[yF,yT]) (ls:=[]) (ps:=[Bn .eql 5 (.tmp 3) (.const (Value.int .u8 32)) (Value.int .u8 ↑c.toNat) (Value.int .u8 32) bF,Bn .eql 5 (.tmp 6) (.const (Value.int .u8 9)) (Value.int .u8 ↑c.toNat) (Value.int .u8 9) bT]) Tryz.func177 (by kernel_rfl) (by kernel_rfl) ⟨bin_ieq (u8n rfl h1),bin_ieq (u8n rfl h2),trivial⟩
  | false =>
   cases h3:c == 10 with
   | true=>exact pwalk (an:=[yF,yF,yT]) (ls:=[]) (ps:=[Bn .eql 5 (.tmp 3) (.const (Value.int .u8 32)) (Value.int .u8 ↑c.toNat) (Value.int .u8 32) bF,Bn .eql 5 (.tmp 6) (.const (Value.int .u8 9)) (Value.int .u8 ↑c.toNat) (Value.int .u8 9) bF,Bn .eql 5 (.tmp 10) (.const (Value.int .u8 10)) (Value.int .u8 ↑c.toNat) (Value.int .u8 10) bT]) Tryz.func177 (by kernel_rfl) (by kernel_rfl) ⟨bin_ieq (u8n rfl h1),bin_ieq (u8n rfl h2),bin_ieq (u8n rfl h3),trivial⟩
   | false=>exact pwalk (an:=[yF,yF,yF,.av (boA (c == 13))]) (ls:=[]) (ps:=[Bn .eql 5 (.tmp 3) (.const (Value.int .u8 32)) (Value.int .u8 ↑c.toNat) (Value.int .u8 32) bF,Bn .eql 5 (.tmp 6) (.const (Value.int .u8 9)) (Value.int .u8 ↑c.toNat) (Value.int .u8 9) bF,Bn .eql 5 (.tmp 10) (.const (Value.int .u8 10)) (Value.int .u8 ↑c.toNat) (Value.int .u8 10) bF,Bn .eql 5 (.tmp 14) (.const (Value.int .u8 13)) (Value.int .u8 ↑c.toNat) (Value.int .u8 13) (Value.bool (c == 13))]) Tryz.func177 (by kernel_rfl) (by kernel_rfl) ⟨bin_ieq (u8n rfl h1),bin_ieq (u8n rfl h2),bin_ieq (u8n rfl h3),bin_ieq (u8d (k:=13) rfl),trivial⟩
theorem p_cst (c:UInt8):Puk 181 [u8A c] (boA (Rdr.cst c)):=by
 unfold Rdr.cst
 cases h0:decide (33≤c.toNat) with
 | false=>exact pwalk (an:=[yF]) (ls:=[]) (ps:=[Bn .geq 5 (.tmp 3) (.const (Value.int .u8 33)) (Value.int .u8 ↑c.toNat) (Value.int .u8 33) bF]) Tryz.func181 (by kernel_rfl) (by kernel_rfl) ⟨bin_ige (by rw [← h0];rw [decide_eq_decide];omega),trivial⟩
 | true =>
  cases h1:decide (c.toNat≤126) with
  | false=>exact pwalk (an:=[yT,yF]) (ls:=[]) (ps:=[Bn .geq 5 (.tmp 3) (.const (Value.int .u8 33)) (Value.int .u8 ↑c.toNat) (Value.int .u8 33) bT,Bn .leq 5 (.tmp 6) (.const (Value.int .u8 126)) (Value.int .u8 ↑c.toNat) (Value.int .u8 126) bF]) Tryz.func181 (by kernel_rfl) (by kernel_rfl) ⟨bin_ige (by rw [← h0];rw [decide_eq_decide];omega),bin_ile (by rw [← h1];rw [decide_eq_decide];omega),trivial⟩
  | true =>
   cases h2:c == 40 with
   | true=>exact pwalk (an:=[yT,yT,yF]) (ls:=[]) (ps:=[Bn .geq 5 (.tmp 3) (.const (Value.int .u8 33)) (Value.int .u8 ↑c.toNat) (Value.int .u8 33) bT,Bn .leq 5 (.tmp 6) (.const (Value.int .u8 126)) (Value.int .u8 ↑c.toNat) (Value.int .u8 126) bT,Bn .neq 5 (.tmp 10) (.const (Value.int .u8 40)) (Value.int .u8 ↑c.toNat) (Value.int .u8 40) bF]) Tryz.func181 (by kernel_rfl) (by kernel_rfl) ⟨bin_ige (by rw [← h0];rw [decide_eq_decide];omega),bin_ile (by rw [← h1];rw [decide_eq_decide];omega),bin_ine (u8n rfl h2),trivial⟩
   | false =>
    cases h3:c == 41 with
    | true=>exact pwalk (an:=[yT,yT,yT,yF]) (ls:=[]) (ps:=[Bn .geq 5 (.tmp 3) (.const (Value.int .u8 33)) (Value.int .u8 ↑c.toNat) (Value.int .u8 33) bT,Bn .leq 5 (.tmp 6) (.const (Value.int .u8 126)) (Value.int .u8 ↑c.toNat) (Value.int .u8 126) bT,Bn .neq 5 (.tmp 10) (.const (Value.int .u8 40)) (Value.int .u8 ↑c.toNat) (Value.int .u8 40) bT,Bn .neq 5 (.tmp 14) (.const (Value.int .u8 41)) (Value.int .u8 ↑c.toNat) (Value.int .u8 41) bF]) Tryz.func181 (by kernel_rfl) (by kernel_rfl) ⟨bin_ige (by rw [← h0];rw [decide_eq_decide];omega),bin_ile (by rw [← h1];rw [decide_eq_decide];omega),bin_ine (u8n rfl h2),bin_ine (u8n rfl h3),trivial⟩
    | false =>
     cases h4:c == 39 with
     | true=>exact pwalk (an:=[yT,yT,yT,yT,yF]) (ls:=[]) (ps:=[Bn .geq 5 (.tmp 3) (.const (Value.int .u8 33)) (Value.int .u8 ↑c.toNat) (Value.int .u8 33) bT,Bn .leq 5 (.tmp 6) (.const (Value.int .u8 126)) (Value.int .u8 ↑c.toNat) (Value.int .u8 126) bT,Bn .neq 5 (.tmp 10) (.const (Value.int .u8 40)) (Value.int .u8 ↑c.toNat) (Value.int .u8 40) bT,Bn .neq 5 (.tmp 14) (.const (Value.int .u8 41)) (Value.int .u8 ↑c.toNat) (Value.int .u8 41) bT,Bn .neq 5 (.tmp 18) (.const (Value.int .u8 39)) (Value.int .u8 ↑c.toNat) (Value.int .u8 39) bF]) Tryz.func181 (by kernel_rfl) (by kernel_rfl) ⟨bin_ige (by rw [← h0];rw [decide_eq_decide];omega),bin_ile (by rw [← h1];rw [decide_eq_decide];omega),bin_ine (u8n rfl h2),bin_ine (u8n rfl h3),bin_ine (u8n rfl h4),trivial⟩
     | false =>
      cases h5:c == 34 with
      | true=>exact pwalk (an:=[yT,yT,yT,yT,yT,yF]) (ls:=[]) (ps:=[Bn .geq 5 (.tmp 3) (.const (Value.int .u8 33)) (Value.int .u8 ↑c.toNat) (Value.int .u8 33) bT,Bn .leq 5 (.tmp 6) (.const (Value.int .u8 126)) (Value.int .u8 ↑c.toNat) (Value.int .u8 126) bT,Bn .neq 5 (.tmp 10) (.const (Value.int .u8 40)) (Value.int .u8 ↑c.toNat) (Value.int .u8 40) bT,Bn .neq 5 (.tmp 14) (.const (Value.int .u8 41)) (Value.int .u8 ↑c.toNat) (Value.int .u8 41) bT,Bn .neq 5 (.tmp 18) (.const (Value.int .u8 39)) (Value.int .u8 ↑c.toNat) (Value.int .u8 39) bT,Bn .neq 5 (.tmp 22) (.const (Value.int .u8 34)) (Value.int .u8 ↑c.toNat) (Value.int .u8 34) bF]) Tryz.func181 (by kernel_rfl) (by kernel_rfl) ⟨bin_ige (by rw [← h0];rw [decide_eq_decide];omega),bin_ile (by rw [← h1];rw [decide_eq_decide];omega),bin_ine (u8n rfl h2),bin_ine (u8n rfl h3),bin_ine (u8n rfl h4),bin_ine (u8n rfl h5),trivial⟩
      | false =>
       cases h6:c == 59 with
       | true=>exact pwalk (an:=[yT,yT,yT,yT,yT,yT,yF]) (ls:=[]) (ps:=[Bn .geq 5 (.tmp 3) (.const (Value.int .u8 33)) (Value.int .u8 ↑c.toNat) (Value.int .u8 33) bT,Bn .leq 5 (.tmp 6) (.const (Value.int .u8 126)) (Value.int .u8 ↑c.toNat) (Value.int .u8 126) bT,Bn .neq 5 (.tmp 10) (.const (Value.int .u8 40)) (Value.int .u8 ↑c.toNat) (Value.int .u8 40) bT,Bn .neq 5 (.tmp 14) (.const (Value.int .u8 41)) (Value.int .u8 ↑c.toNat) (Value.int .u8 41) bT,Bn .neq 5 (.tmp 18) (.const (Value.int .u8 39)) (Value.int .u8 ↑c.toNat) (Value.int .u8 39) bT,Bn .neq 5 (.tmp 22) (.const (Value.int .u8 34)) (Value.int .u8 ↑c.toNat) (Value.int .u8 34) bT,Bn .neq 5 (.tmp 26) (.const (Value.int .u8 59)) (Value.int .u8 ↑c.toNat) (Value.int .u8 59) bF]) Tryz.func181 (by kernel_rfl) (by kernel_rfl) ⟨bin_ige (by rw [← h0];rw [decide_eq_decide];omega),bin_ile (by rw [← h1];rw [decide_eq_decide];omega),bin_ine (u8n rfl h2),bin_ine (u8n rfl h3),bin_ine (u8n rfl h4),bin_ine (u8n rfl h5),bin_ine (u8n rfl h6),trivial⟩
       | false =>
        cases h7:c == 124 with
        | true=>exact pwalk (an:=[yT,yT,yT,yT,yT,yT,yT,yF]) (ls:=[]) (ps:=[Bn .geq 5 (.tmp 3) (.const (Value.int .u8 33)) (Value.int .u8 ↑c.toNat) (Value.int .u8 33) bT,Bn .leq 5 (.tmp 6) (.const (Value.int .u8 126)) (Value.int .u8 ↑c.toNat) (Value.int .u8 126) bT,Bn .neq 5 (.tmp 10) (.const (Value.int .u8 40)) (Value.int .u8 ↑c.toNat) (Value.int .u8 40) bT,Bn .neq 5 (.tmp 14) (.const (Value.int .u8 41)) (Value.int .u8 ↑c.toNat) (Value.int .u8 41) bT,Bn .neq 5 (.tmp 18) (.const (Value.int .u8 39)) (Value.int .u8 ↑c.toNat) (Value.int .u8 39) bT,Bn .neq 5 (.tmp 22) (.const (Value.int .u8 34)) (Value.int .u8 ↑c.toNat) (Value.int .u8 34) bT,Bn .neq 5 (.tmp 26) (.const (Value.int .u8 59)) (Value.int .u8 ↑c.toNat) (Value.int .u8 59) bT,Bn .neq 5 (.tmp 30) (.const (Value.int .u8 124)) (Value.int .u8 ↑c.toNat) (Value.int .u8 124) bF]) Tryz.func181 (by kernel_rfl) (by kernel_rfl) ⟨bin_ige (by rw [← h0];rw [decide_eq_decide];omega),bin_ile (by rw [← h1];rw [decide_eq_decide];omega),bin_ine (u8n rfl h2),bin_ine (u8n rfl h3),bin_ine (u8n rfl h4),bin_ine (u8n rfl h5),bin_ine (u8n rfl h6),bin_ine (u8n rfl h7),trivial⟩
        | false =>
         cases h8:c == 58 with
         | true=>exact pwalk (an:=[yT,yT,yT,yT,yT,yT,yT,yT,yF]) (ls:=[]) (ps:=[Bn .geq 5 (.tmp 3) (.const (Value.int .u8 33)) (Value.int .u8 ↑c.toNat) (Value.int .u8 33) bT,Bn .leq 5 (.tmp 6) (.const (Value.int .u8 126)) (Value.int .u8 ↑c.toNat) (Value.int .u8 126) bT,Bn .neq 5 (.tmp 10) (.const (Value.int .u8 40)) (Value.int .u8 ↑c.toNat) (Value.int .u8 40) bT,Bn .neq 5 (.tmp 14) (.const (Value.int .u8 41)) (Value.int .u8 ↑c.toNat) (Value.int .u8 41) bT,Bn .neq 5 (.tmp 18) (.const (Value.int .u8 39)) (Value.int .u8 ↑c.toNat) (Value.int .u8 39) bT,Bn .neq 5 (.tmp 22) (.const (Value.int .u8 34)) (Value.int .u8 ↑c.toNat) (Value.int .u8 34) bT,Bn .neq 5 (.tmp 26) (.const (Value.int .u8 59)) (Value.int .u8 ↑c.toNat) (Value.int .u8 59) bT,Bn .neq 5 (.tmp 30) (.const (Value.int .u8 124)) (Value.int .u8 ↑c.toNat) (Value.int .u8 124) bT,Bn .neq 5 (.tmp 34) (.const (Value.int .u8 58)) (Value.int .u8 ↑c.toNat) (Value.int .u8 58) bF]) Tryz.func181 (by kernel_rfl) (by kernel_rfl) ⟨bin_ige (by rw [← h0];rw [decide_eq_decide];omega),bin_ile (by rw [← h1];rw [decide_eq_decide];omega),bin_ine (u8n rfl h2),bin_ine (u8n rfl h3),bin_ine (u8n rfl h4),bin_ine (u8n rfl h5),bin_ine (u8n rfl h6),bin_ine (u8n rfl h7),bin_ine (u8n rfl h8),trivial⟩
         | false=>exact pwalk (an:=[yT,yT,yT,yT,yT,yT,yT,yT,yT]) (ls:=[]) (ps:=[Bn .geq 5 (.tmp 3) (.const (Value.int .u8 33)) (Value.int .u8 ↑c.toNat) (Value.int .u8 33) bT,Bn .leq 5 (.tmp 6) (.const (Value.int .u8 126)) (Value.int .u8 ↑c.toNat) (Value.int .u8 126) bT,Bn .neq 5 (.tmp 10) (.const (Value.int .u8 40)) (Value.int .u8 ↑c.toNat) (Value.int .u8 40) bT,Bn .neq 5 (.tmp 14) (.const (Value.int .u8 41)) (Value.int .u8 ↑c.toNat) (Value.int .u8 41) bT,Bn .neq 5 (.tmp 18) (.const (Value.int .u8 39)) (Value.int .u8 ↑c.toNat) (Value.int .u8 39) bT,Bn .neq 5 (.tmp 22) (.const (Value.int .u8 34)) (Value.int .u8 ↑c.toNat) (Value.int .u8 34) bT,Bn .neq 5 (.tmp 26) (.const (Value.int .u8 59)) (Value.int .u8 ↑c.toNat) (Value.int .u8 59) bT,Bn .neq 5 (.tmp 30) (.const (Value.int .u8 124)) (Value.int .u8 ↑c.toNat) (Value.int .u8 124) bT,Bn .neq 5 (.tmp 34) (.const (Value.int .u8 58)) (Value.int .u8 ↑c.toNat) (Value.int .u8 58) bT]) Tryz.func181 (by kernel_rfl) (by kernel_rfl) ⟨bin_ige (by rw [← h0];rw [decide_eq_decide];omega),bin_ile (by rw [← h1];rw [decide_eq_decide];omega),bin_ine (u8n rfl h2),bin_ine (u8n rfl h3),bin_ine (u8n rfl h4),bin_ine (u8n rfl h5),bin_ine (u8n rfl h6),bin_ine (u8n rfl h7),bin_ine (u8n rfl h8),trivial⟩
theorem p_hasF {s:List UInt8} {i:Nat} {a b:UInt8} (_hl:s.length≤6000) (hi:i≤6000) (h:∀ c∈s,(c == a)=false):Puk 178 [stA s,inA i,u8A a,u8A b] (boA false):=by
 by_cases hlt:i+1 < s.length
 ·obtain ⟨c,hc⟩:∃ c,s[i]?=some c:=⟨s[i],List.getElem?_eq_getElem (by omega)⟩
  exact pwalk (an:=[yT,.av (inA ((i+1:Nat):Int)),.av (inA s.length),yT,.av (u8A c),yF]) (ls:=[]) (ps:=[Bn .geq 3 (.tmp 9) (.const (vi 0)) (vi ↑i) (vi 0) bT,Bn .add 3 (.tmp 12) (.const (vi 1)) (vi ↑i) (vi 1) (vi (↑(i+1))),(vi ↑s.length)=(vi (↑s.length)),Bn .lss 3 (.tmp 13) (.tmp 15) (vi (↑(i+1))) (vi ↑s.length) bT,IxS ({ data:=s.toArray:ByteArray }) ↑i (Value.int .u8 ↑c.toNat),Bn .eql 5 (.tmp 21) (.tmp 22) (Value.int .u8 ↑c.toNat) (Value.int .u8 ↑a.toNat) bF]) Tryz.func178 (by kernel_rfl) (by kernel_rfl) ⟨bin_ige (decide_eq_true (by omega)),bin_iadd (by omega) (by omega) (by omega),lenS _,bin_ilt (decide_eq_true (by omega)),ix_s hc,bin_ieq (u8n rfl (h c (List.mem_of_getElem? hc))),trivial⟩
 ·exact pwalk (an:=[yT,.av (inA ((i+1:Nat):Int)),.av (inA s.length),yF]) (ls:=[]) (ps:=[Bn .geq 3 (.tmp 9) (.const (vi 0)) (vi ↑i) (vi 0) bT,Bn .add 3 (.tmp 12) (.const (vi 1)) (vi ↑i) (vi 1) (vi (↑(i+1))),(vi ↑s.length)=(vi (↑s.length)),Bn .lss 3 (.tmp 13) (.tmp 15) (vi (↑(i+1))) (vi ↑s.length) bF]) Tryz.func178 (by kernel_rfl) (by kernel_rfl) ⟨bin_ige (decide_eq_true (by omega)),bin_iadd (by omega) (by omega) (by omega),lenS _,bin_ilt (decide_eq_false (by omega)),trivial⟩
abbrev wdS (s:List UInt8) (i:Int):AS:=⟨stt 18 [(0,stA s),(1,inA i)],[]⟩
noncomputable abbrev wdB:Code:=subC (bodyOf Tryz.f182) [1,0,0,0]
theorem wdB1 {s:List UInt8} {i:Nat} {c:UInt8} (hc:s[i]?=some c) (hl:s.length≤6000) (h:Rdr.cst c=true):Tri EX wdB (wdS s i) .nxt (wdS s ((i+1:Nat):Int)) :=
 twalk (c:=subC (bodyOf Tryz.f182) [1,0,0,0]) (s:=wdS s i) (an:=[.av (inA s.length),yT,.av (u8A c),yT,.av (inA ((i+1:Nat):Int))]) (ls:=[]) (ft:=[0,1]) (nb:=0) (e:=.nxt) (s':=wdS s ((i+1:Nat):Int)) (ps:=[(vi ↑s.length)=(vi (↑s.length)),Bn .lss 3 (.tmp 5) (.tmp 7) (vi ↑i) (vi ↑s.length) bT,IxS ({ data:=s.toArray:ByteArray }) ↑i (Value.int .u8 ↑c.toNat),Puk 181 [(.dt (.val (Value.int .u8 ↑c.toNat)))] (boA true),Bn .add 3 (.tmp 15) (.const (vi 1)) (vi ↑i) (vi 1) (vi (↑(i+1)))]) (by kernel_rfl)
  ⟨lenS _,bin_ilt (decide_eq_true (by have:=(List.getElem?_eq_some_iff.1 hc).1;omega)),ix_s hc,h ▸ p_cst c,bin_iadd (by omega) (by omega) (by have:=(List.getElem?_eq_some_iff.1 hc).1;omega),trivial⟩
theorem wdB2 {s:List UInt8} {i:Nat} (hi:i=s.length):Tri EX wdB (wdS s i) (.out 0) (wdS s i) :=
 twalk (c:=subC (bodyOf Tryz.f182) [1,0,0,0]) (s:=wdS s i) (an:=[.av (inA s.length),yF]) (ls:=[]) (ft:=[0,1]) (nb:=0) (e:=.out 0) (s':=wdS s i) (ps:=[(vi ↑s.length)=(vi (↑s.length)),Bn .lss 3 (.tmp 5) (.tmp 7) (vi ↑i) (vi ↑s.length) bF]) (by kernel_rfl)
  ⟨lenS _,bin_ilt (decide_eq_false (by omega)),trivial⟩
theorem wdB3 {s:List UInt8} {i:Nat} {c:UInt8} (hc:s[i]?=some c) (h:Rdr.cst c=false):Tri EX wdB (wdS s i) (.out 0) (wdS s i) :=
 twalk (c:=subC (bodyOf Tryz.f182) [1,0,0,0]) (s:=wdS s i) (an:=[.av (inA s.length),yT,.av (u8A c),yF]) (ls:=[]) (ft:=[0,1]) (nb:=0) (e:=.out 0) (s':=wdS s i) (ps:=[(vi ↑s.length)=(vi (↑s.length)),Bn .lss 3 (.tmp 5) (.tmp 7) (vi ↑i) (vi ↑s.length) bT,IxS ({ data:=s.toArray:ByteArray }) ↑i (Value.int .u8 ↑c.toNat),Puk 181 [(.dt (.val (Value.int .u8 ↑c.toNat)))] (boA false)]) (by kernel_rfl)
  ⟨lenS _,bin_ilt (decide_eq_true (by have:=(List.getElem?_eq_some_iff.1 hc).1;omega)),ix_s hc,h ▸ p_cst c,trivial⟩
theorem wd_loop {s:List UInt8} (hl:s.length≤6000):∀ (r:List UInt8) (i:Nat),s.drop i=r→i≤s.length→Lps EX wdB (wdS s i) (.out 0) (wdS s ((i+(r.takeWhile Rdr.cst).length:Nat):Int)):=by
 intro r
 induction r with
 | nil =>
  intro i hd hi
  have e1:=congrArg List.length hd
  rw [List.length_drop,List.length_nil] at e1
  exact .stop (wdB2 (by omega)) (fun h=>by cases h)
 | cons c r ih =>
  intro i hd hi
  have hc:s[i]?=some c:=by rw [← List.head?_drop,hd];rfl
  have hlt:=(List.getElem?_eq_some_iff.1 hc).1
  cases h:Rdr.cst c with
  | false =>
   rw [List.takeWhile_cons,if_neg (by rw [h];decide)]
   exact .stop (wdB3 hc h) (fun h=>by cases h)
  | true =>
   rw [List.takeWhile_cons,if_pos h,List.length_cons,show i+((r.takeWhile Rdr.cst).length+1)=i+1+(r.takeWhile Rdr.cst).length by omega]
   exact .more (wdB1 hc hl h) (ih (i+1) (by rw [← List.drop_drop,hd];rfl) (by omega))
theorem p_word {s:List UInt8} {i:Nat} (hl:s.length≤6000) (hi:i≤s.length):Puk 182 [stA s,inA i] (inA ((i+((s.drop i).takeWhile Rdr.cst).length:Nat):Int)):=by
 have ht:=(wd_loop hl _ i rfl hi).tri
 generalize ((i+((s.drop i).takeWhile Rdr.cst).length:Nat):Int)=k at *
 exact pwalk (an:=[]) (ls:=[.inv [0,1] 0 (.out 0) (wdS s k)]) (ps:=[Tri EX (.loop (subC (bodyOf Tryz.f182) [1,0,0,0])) (wdS s i) (.out 0) (wdS s k)]) Tryz.func182 (by kernel_rfl) (by kernel_rfl) ⟨ht,trivial⟩
abbrev skS (s:List UInt8) (i:Int):AS:=⟨stt 69 [(0,stA s),(1,inA i)],[]⟩
abbrev skR (i:Int):AS:=⟨stt 69 [(4,inA i),(5,boA true)],[]⟩
noncomputable abbrev skB:Code:=subC (bodyOf Tryz.f124) [1,0,0,0]
theorem skB1 {s:List UInt8} {i:Nat} {c:UInt8} (hc:s[i]?=some c) (hl:s.length≤6000) (h:Rdr.blk c=true):Tri EX skB (skS s i) .nxt (skS s ((i+1:Nat):Int)) :=
 twalk (c:=subC (bodyOf Tryz.f124) [1,0,0,0]) (s:=skS s i) (an:=[.av (inA s.length),yT,.av (u8A c),yT,.av (inA ((i+1:Nat):Int))]) (ls:=[]) (ft:=[0,1]) (nb:=0) (e:=.nxt) (s':=skS s ((i+1:Nat):Int)) (ps:=[(vi ↑s.length)=(vi (↑s.length)),Bn .lss 3 (.tmp 7) (.tmp 9) (vi ↑i) (vi ↑s.length) bT,IxS ({ data:=s.toArray:ByteArray }) ↑i (Value.int .u8 ↑c.toNat),Puk 177 [(.dt (.val (Value.int .u8 ↑c.toNat)))] (boA true),Bn .add 3 (.tmp 17) (.const (vi 1)) (vi ↑i) (vi 1) (vi (↑(i+1)))]) (by kernel_rfl)
  ⟨lenS _,bin_ilt (decide_eq_true (by have:=(List.getElem?_eq_some_iff.1 hc).1;omega)),ix_s hc,h ▸ p_blank c,bin_iadd (by omega) (by omega) (by have:=(List.getElem?_eq_some_iff.1 hc).1;omega),trivial⟩
theorem skB2 {s:List UInt8} {i:Nat} (hi:i=s.length):Tri EX skB (skS s i) (.out 0) (skS s i) :=
 twalk (c:=subC (bodyOf Tryz.f124) [1,0,0,0]) (s:=skS s i) (an:=[.av (inA s.length),yF]) (ls:=[]) (ft:=[0,1]) (nb:=0) (e:=.out 0) (s':=skS s i) (ps:=[(vi ↑s.length)=(vi (↑s.length)),Bn .lss 3 (.tmp 7) (.tmp 9) (vi ↑i) (vi ↑s.length) bF]) (by kernel_rfl)
  ⟨lenS _,bin_ilt (decide_eq_false (by omega)),trivial⟩
theorem skB3 {s:List UInt8} {i:Nat} {c:UInt8} (hc:s[i]?=some c) (hl:s.length≤6000) (h:Rdr.blk c=false) (h1:(c == 59)=false) (h2:∀ c∈s,(c == 35)=false):Tri EX skB (skS s i) .ret (skR i) :=
 twalk (c:=subC (bodyOf Tryz.f124) [1,0,0,0]) (s:=skS s i) (an:=[.av (inA s.length),yT,.av (u8A c),yF,.av (u8A c),yF,yF]) (ls:=[]) (ft:=[4,5]) (nb:=0) (e:=.ret) (s':=skR i) (ps:=[(vi ↑s.length)=(vi (↑s.length)),Bn .lss 3 (.tmp 7) (.tmp 9) (vi ↑i) (vi ↑s.length) bT,IxS ({ data:=s.toArray:ByteArray }) ↑i (Value.int .u8 ↑c.toNat),Puk 177 [(.dt (.val (Value.int .u8 ↑c.toNat)))] (boA false),IxS ({ data:=s.toArray:ByteArray }) ↑i (Value.int .u8 ↑c.toNat),Bn .eql 5 (.tmp 22) (.const (Value.int .u8 59)) (Value.int .u8 ↑c.toNat) (Value.int .u8 59) bF,Puk 178 [(stA s),(inA ↑i),(.dt (.val (Value.int .u8 35))),(.dt (.val (Value.int .u8 124)))] (boA false)]) (by kernel_rfl)
  ⟨lenS _,bin_ilt (decide_eq_true (by have:=(List.getElem?_eq_some_iff.1 hc).1;omega)),ix_s hc,h ▸ p_blank c,ix_s hc,bin_ieq (u8n rfl h1),p_hasF (a:=35) (b:=124) hl (by have:=(List.getElem?_eq_some_iff.1 hc).1;omega) h2,trivial⟩
theorem sk_loop {s:List UInt8} (hl:s.length≤6000) (h1:∀ c∈s,(c == 59)=false) (h2:∀ c∈s,(c == 35)=false):∀ (r:List UInt8) (i:Nat),s.drop i=r→i≤s.length→Lps EX skB (skS s i) (.out 0) (skS s ((i+(r.takeWhile Rdr.blk).length:Nat):Int))∨Lps EX skB (skS s i) .ret (skR ((i+(r.takeWhile Rdr.blk).length:Nat):Int)):=by
 intro r
 induction r with
 | nil =>
  intro i hd hi
  have e1:=congrArg List.length hd
  rw [List.length_drop,List.length_nil] at e1
  exact .inl (.stop (skB2 (by omega)) (fun h=>by cases h))
 | cons c r ih =>
  intro i hd hi
  have hc:s[i]?=some c:=by rw [← List.head?_drop,hd];rfl
  have hlt:=(List.getElem?_eq_some_iff.1 hc).1
  cases h:Rdr.blk c with
  | false =>
   rw [List.takeWhile_cons,if_neg (by rw [h];decide)]
   exact .inr (.stop (skB3 hc hl h (h1 c (List.mem_of_getElem? hc)) h2) (fun h=>by cases h))
  | true =>
   rw [List.takeWhile_cons,if_pos h,List.length_cons,show i+((r.takeWhile Rdr.blk).length+1)=i+1+(r.takeWhile Rdr.blk).length by omega]
   rcases ih (i+1) (by rw [← List.drop_drop,hd];rfl) (by omega) with k | k
   ·exact .inl (.more (skB1 hc hl h) k)
   ·exact .inr (.more (skB1 hc hl h) k)
theorem p_skip {s:List UInt8} {i:Nat} (hl:s.length≤6000) (h1:∀ c∈s,(c == 59)=false) (h2:∀ c∈s,(c == 35)=false) (hi:i≤s.length):Puk 124 [stA s,inA i] (.tup [inA ((i+((s.drop i).takeWhile Rdr.blk).length:Nat):Int),boA true]):=by
 rcases sk_loop hl h1 h2 _ i rfl hi with h | h
 ·have ht:=h.tri
  generalize ((i+((s.drop i).takeWhile Rdr.blk).length:Nat):Int)=k at *
  exact pwalk (an:=[]) (ls:=[.inv [0,1] 0 (.out 0) (skS s k)]) (ps:=[Tri EX (.loop (subC (bodyOf Tryz.f124) [1,0,0,0])) (skS s i) (.out 0) (skS s k)]) Tryz.func124 (by kernel_rfl) (by kernel_rfl) ⟨ht,trivial⟩
 ·have ht:=h.tri
  generalize ((i+((s.drop i).takeWhile Rdr.blk).length:Nat):Int)=k at *
  exact pwalk (an:=[]) (ls:=[.inv [0,1] 0 (.ret) (skR k)]) (ps:=[Tri EX (.loop (subC (bodyOf Tryz.f124) [1,0,0,0])) (skS s i) (.ret) (skR k)]) Tryz.func124 (by kernel_rfl) (by kernel_rfl) ⟨ht,trivial⟩
end Go.Proofs.YthhknjlmjefklaaGreatDoor
