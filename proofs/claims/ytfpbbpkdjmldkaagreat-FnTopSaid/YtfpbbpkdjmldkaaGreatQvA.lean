/- A small abstract machine over values: values, states, instructions, and the predicate transformer W. No memory, no world. -/
import GoSem.Core.Code
import GoSem.Core.View
import GoSem.Op.String
import Derived.Laws.Externs
set_option linter.all false
namespace Go.Ev
inductive V where
 | int (k:IntKind) (n:Int)
 | bool (b:Bool)
 | str (s:List UInt8)
 | lst (sz:Nat) (es:List (List V))
 | own (tag off sz:Nat) (es:List (List V))
 | ptr (tag k:Nat)
 | iptr (cs:List V)
 | optr (tag sz j k:Nat)
 | agg (cs:List V)
 | tup (vs:List V)
 | clo (f:Nat) (caps:List V)
 | may (b:Bool) (v:V)
 | undef
 deriving Inhabited
def look {α:Type}:List (Nat×α)→Nat→Option α
 | [],_=>none
 | (a,x)::r,t=>if a=t then some x else look r t
def ins {α:Type} (l:List (Nat×α)) (d:Nat) (v:α):List (Nat×α):=(d,v)::l
structure St where
 env:List (Nat×V)
 bx:List (Nat×List V)
 
 cp:List (Nat×Int):=[]
inductive Cu where
 | t (n:Nat)
 | c (v:V)
def St.val (S:St):Cu→V
 | .t n=>(look S.env n).getD .undef
 | .c v=>v
abbrev Es:Int:=4611686018427387904
def Pe (c:Int):Int:=if c<Es then c else c-Es
def Nm (l:List (Nat×Int)):Cu→Option Int
 | .t n=>look l n
 | .c _=>none
abbrev St.capOf (S:St) (x:Cu):Option Int:=Nm S.cp x
def Mv (d:Nat) (f:List (Nat×Int)→Option Int):List (Nat×Int)→List (Nat×Int)
 | []=>match f [] with
  | some c=>[(d,c)]
  | none=>[]
 | p::r=>match f (p::r) with
  | some c=>(d,c)::(p::r).filter fun p=>p.1 != d
  | none=>(p::r).filter fun p=>p.1 != d
def St.put (S:St) (d:Option Nat) (v:V):St:=
 match d with
 | some d=>{ env:=ins S.env d v,bx:=S.bx,cp:=Mv d (fun _=>none) S.cp }
 | none=>S
def St.putC (S:St) (d:Option Nat) (v:V) (f:List (Nat×Int)→Option Int):St:=
 match d with
 | some d=>{ env:=ins S.env d v,bx:=S.bx,cp:=Mv d f S.cp }
 | none=>S
def An:V→V
 | .may _ v=>v
 | v=>v
def Bc (g:Bool):V→Prop
 | .may b _=>g=true→b=true
 | _=>True
def Dg {α:Type} (p:α→Prop):List α→Prop
 | []=>True
 | x::r=>p x∧Dg p r
def V.cells:V→List V
 | .agg cs=>cs
 | v=>[v]
inductive PU where
 | mv (x:Cu)
 | bin (op:BinOp) (x y:Cu)
 | eqs (ne:Bool) (ks:List Nat) (x y:Cu)
 | un (op:UnOp) (x:Cu)
 | conv (k:IntKind) (x:Cu)
 | load (x:Cu) (n:Nat) (ag:Bool)
 | fieldA (x:Cu) (off:Nat)
 | idxA (x i:Cu) (sz:Nat)
 | idxArr (x i:Cu) (len sz:Nat)
 | field (x:Cu) (off n:Nat) (ag:Bool)
 | idxStr (x i:Cu)
 | sliceStr (x:Cu) (lo hi:Option Cu)
 | slice (x:Cu) (lo hi:Option Cu) (sz:Nat)
 | len (x:Cu)
 | lenS (x:Cu)
 | strc (x:Cu)
 | binB (op:BinOp) (x y:Cu)
 | mn (x y:Cu)
 | mx (x y:Cu)
 | ext (x:Cu) (i:Nat)
 | build (zero:List V) (parts:List (Nat×Nat×Cu))
 | fn (f:Nat) (caps:List Cu)
 | nilc (x:Cu)
 | toStr (x:Cu)
 | xbyte (x c:Cu)
 | scmp (x y:Cu)
 | ovl (x y:Cu)
 | mget (x k:Cu)
 | chr (x:Cu)
def PU.opds:PU→List Cu
 | .mv x | .un _ x | .conv _ x | .load x _ _ | .fieldA x _ | .field x _ _ _ | .len x | .lenS x | .chr x | .strc x | .ext x _ | .nilc x | .toStr x=>[x]
 | .xbyte x y | .scmp x y | .ovl x y | .mget x y | .bin _ x y | .binB _ x y | .eqs _ _ x y | .idxA x y _ | .idxArr x y _ _ | .idxStr x y | .mn x y | .mx x y=>[x,y]
 | .sliceStr x lo hi | .slice x lo hi _=>x::(lo.toList++hi.toList)
 | .build _ ps=>ps.map (·.2.2)
 | .fn _ cs=>cs
def kF (op:BinOp) (k:IntKind) (a b:Int):Option (Prop×V):=
 match op with
 | .add=>some (True,.int k (k.wrap (a+b)))
 | .sub=>some (True,.int k (k.wrap (a-b)))
 | .mul=>some (True,.int k (k.wrap (a*b)))
 | .quo=>some (b≠0,.int k (k.wrap (a.tdiv b)))
 | .rem=>some (b≠0,.int k (a.tmod b))
 | .and=>some (True,.int k (k.wrap (BitVec.ofInt k.bits a &&& BitVec.ofInt k.bits b).toNat))
 | .or=>some (True,.int k (k.wrap (BitVec.ofInt k.bits a ||| BitVec.ofInt k.bits b).toNat))
 | .xor=>some (True,.int k (k.wrap (BitVec.ofInt k.bits a ^^^ BitVec.ofInt k.bits b).toNat))
 | .andNot=>some (True,.int k (k.wrap (BitVec.ofInt k.bits a &&& ~~~ BitVec.ofInt k.bits b).toNat))
 | .eql=>some (True,.bool (a==b))
 | .neq=>some (True,.bool (a != b))
 | .lss=>some (True,.bool (decide (a<b)))
 | .leq=>some (True,.bool (decide (a≤b)))
 | .gtr=>some (True,.bool (decide (a>b)))
 | .geq=>some (True,.bool (decide (a≥b)))
 | _=>none
def dF (op:BinOp) (k:IntKind) (a b:Int):Option (Prop×V):=
 match op with
 | .shl=>some (0≤b,.int k (k.wrap (a*2^min b.toNat k.bits)))
 | .shr=>some (0≤b,.int k (a.fdiv (2^min b.toNat k.bits)))
 | _=>none
def lD (op:BinOp) (a b:List UInt8):Option (Prop×V):=
 match op with
 | .add=>some (a.length+b.length≤9223372036854775807,.str (a++b))
 | .eql=>some (True,.bool (a==b))
 | .neq=>some (True,.bool !(a==b))
 | .lss=>some (True,.bool (Op.bytesLess a b))
 | .leq=>some (True,.bool (Op.bytesLess a b || a==b))
 | .gtr=>some (True,.bool !(Op.bytesLess a b || a==b))
 | .geq=>some (True,.bool !(Op.bytesLess a b))
 | _=>none
def Gi:List Nat→List V→List V→Option Bool
 | [],[],[]=>some true
 | 0::ks,.int k a::r,.int k' b::s=>if k=k' then (Gi ks r s).map ((a==b)&&·) else none
 | 1::ks,.bool a::r,.bool b::s=>(Gi ks r s).map ((a==b)&&·)
 | 2::ks,.str a::r,.str b::s=>(Gi ks r s).map ((a==b)&&·)
 | _,_,_=>none
def Kr (tag:Nat):List V→Option (Nat×List (List V))
 | []=>none
 | .own t off sz es::r=>if t=tag∧sz≠0 then some (off,es) else Kr tag r
 | _::r=>Kr tag r
def Sf (tag:Nat) (env:List (Nat×V)):List (Nat×V)→Option (Nat×List (List V))
 | []=>none
 | (x,_)::r=>match look env x with
  | some v=>match Kr tag v.cells with
   | some y=>some y
   | none=>Sf tag env r
  | none=>Sf tag env r
def Yg (tag:Nat) (bx:List (Nat×List V)):List (Nat×List V)→Option (Nat×List (List V))
 | []=>none
 | (x,_)::r=>match look bx x with
  | some cs=>match Kr tag cs with
   | some y=>some y
   | none=>Yg tag bx r
  | none=>Yg tag bx r
def St.find (S:St) (tag:Nat):Option (Nat×List (List V)):=
 match Sf tag S.env S.env with
 | some x=>some x
 | none=>Yg tag S.bx S.bx
def Jw (ag:Bool) (n:Nat) (cs:List V):Option V:=
 if ag then some (.agg (cs.take n)) else cs.head?
def putCells (cs:List V) (off:Nat):List V→List V
 | []=>cs
 | v::r=>putCells (cs.set off v) (off+1) r
def Ly (s:List UInt8):List (List V):=s.map fun b=>[V.int .u8 (b.toNat:Int)]
def fX:List (List V)→List UInt8
 | [.int _ n]::r=>UInt8.ofNat n.toNat::fX r
 | _::r=>0::fX r
 | []=>[]
def Cq:V→Bool
 | .undef | .tup .. | .may .. => true
 | _=>false
def Uq:List V→Bool
 | []=>true
 | .int .. :: r | .bool .. :: r | .str .. :: r | .lst .. :: r | .iptr .. :: r | .ptr .. :: r=>Uq r
 | _=>false
def Gz:Option V→Option (Option Int)
 | none=>some none
 | some (.int _ n)=>some (some n)
 | _=>none
def eN (sz n:Nat):List (List V):=List.replicate n (List.replicate sz .undef)
def bX (s:List UInt8) (n:Int):Int:=Go.firstIdx ⟨s.toArray⟩ n.toNat.toUInt8
def jD (a b:List UInt8):Int:=Extern.BytealgCompare.cmp ⟨a.toArray⟩ ⟨b.toArray⟩
def Pw (n:Int):List (List V)→Bool
 | [.int _ k,.bool b]::r=>if k=n then b else Pw n r
 | _::r=>Pw n r
 | []=>false
def Xc (n:Int) (b:Bool):List (List V)→List (List V)
 | [.int q k,.bool c]::r=>if k=n then [.int q k,.bool b]::r else [.int q k,.bool c]::Xc n b r
 | e::r=>e::Xc n b r
 | []=>[[.int .i64 n,.bool b]]
def KJ (n:Int) (b:Bool):List (List V)→List (List V)
 | [.tup []]::r=>[.tup []]::Xc n b r
 | es=>es
def rI (t:Nat) (n:Int) (b:Bool):V→V
 | .own t' off sz es=>if t'=t then .own t' off sz (KJ n b es) else .own t' off sz es
 | c=>c
def pu (S:St) (rd:Cu→V):PU→Option (Prop×V)
 | .mv x=>some (True,rd x)
 | .bin op x y=>match rd x,rd y with
  | .int k a,.int k' b=>match op with
   | .shl | .shr=>dF op k a b
   | _=>if k=k' then kF op k a b else none
  | .str a,.str b=>lD op a b
  | _,_=>none
 | .binB op x y=>match rd x,rd y with
  | .bool a,.bool b=>match op with
   | .eql=>some (True,.bool (a==b))
   | .neq=>some (True,.bool !(a==b))
   | _=>none
  | _,_=>none
 | .eqs ne ks x y=>match rd x,rd y with
  | .agg cs,.agg ds=>match Gi ks cs ds with
   | some b=>some (True,.bool (if ne then !b else b))
   | none=>none
  | _,_=>none
 | .un op x=>match op,rd x with
  | .neg,.int k n=>some (True,.int k (k.wrap (0-n)))
  | .xor,.int k n=>some (True,.int k (k.wrap (BitVec.ofInt k.bits (if k.signed then -1 else k.max) ^^^ BitVec.ofInt k.bits n).toNat))
  | .not,.bool b=>some (True,.bool !b)
  | _,_=>none
 | .conv k x=>match rd x with
  | .int _ n=>some (True,.int k (k.wrap n))
  | _=>none
 | .load x n ag=>match rd x with
  | .ptr tag k=>match look S.bx tag with
   | some cs=>match Jw ag n (cs.drop k) with
    | some v=>some (k+n≤cs.length,v)
    | none=>none
   | none=>none
  | .iptr cs=>match Jw ag n cs with
   | some v=>some (n≤cs.length,v)
   | none=>none
  | .optr tag sz j k=>match S.find tag with
   | some (off,es)=>match Jw ag n ((es.getD (j-off) []).drop k) with
    | some v=>some (off≤j∧j<off+es.length∧k+n≤sz∧(es.getD (j-off) []).length=sz,v)
    | none=>none
   | none=>none
  | _=>none
 | .fieldA x off=>match rd x with
  | .ptr tag k=>some (True,.ptr tag (k+off))
  | .iptr cs=>some (off≤cs.length,.iptr (cs.drop off))
  | .optr tag sz j k=>some (True,.optr tag sz j (k+off))
  | _=>none
 | .idxA x i sz=>match rd x,rd i with
  | .lst s es,.int _ n=>some (s=sz∧0≤n∧n<es.length,.iptr (es.getD n.toNat []))
  | .own tag off s es,.int _ n=>some (s=sz∧0≤n∧n<es.length,.optr tag sz (off+n.toNat) 0)
  | _,_=>none
 | .idxArr x i len sz=>match rd x,rd i with
  | .ptr tag k,.int _ n=>some (0≤n∧n<len,.ptr tag (k+n.toNat*sz))
  | .iptr cs,.int _ n=>some (0≤n∧n<len∧n.toNat*sz≤cs.length,.iptr (cs.drop (n.toNat*sz)))
  | _,_=>none
 | .field x off n ag=>match rd x with
  | .agg cs=>match Jw ag n (cs.drop off) with
   | some v=>some (off+n≤cs.length,v)
   | none=>none
  | _=>none
 | .idxStr x i=>match rd x,rd i with
  | .str s,.int _ n=>some (0≤n∧n<s.length,.int .u8 ((s.getD n.toNat 0).toNat:Int))
  | _,_=>none
 | .sliceStr x lo hi=>match rd x,Gz (lo.map rd),Gz (hi.map rd) with
  | .str s,some l,some h=>
   some (0≤l.getD 0∧l.getD 0≤h.getD s.length∧h.getD s.length≤s.length,
    .str ((s.take (h.getD s.length).toNat).drop (l.getD 0).toNat))
  | _,_,_=>none
 | .slice x lo hi sz=>match rd x,Gz (lo.map rd),Gz (hi.map rd) with
  | .lst s es,some l,some h=>
   some (s=sz∧0≤l.getD 0∧l.getD 0≤h.getD es.length∧h.getD es.length≤es.length,
    .lst sz ((es.take (h.getD es.length).toNat).drop (l.getD 0).toNat))
  | .own tag off s es,some l,some h=>
   some (s=sz∧0≤l.getD 0∧l.getD 0≤h.getD es.length∧(h.getD es.length≤es.length∨(off=0∧0<sz∧∃c,S.capOf x=some c∧h.getD es.length≤Pe c)),
    .own tag (off+(l.getD 0).toNat) sz (((es++eN sz ((h.getD es.length).toNat-es.length)).take (h.getD es.length).toNat).drop (l.getD 0).toNat))
  | _,_,_=>none
 | .lenS x=>match rd x with
  | .str s=>some (True,.int .i64 s.length)
  | _=>none
 | .strc x=>match rd x with
  | .str s=>some (True,.str s)
  | _=>none
 | .len x=>match rd x with
  | .lst s es=>some (s≠0,.int .i64 es.length)
  | .own _ _ s es=>some (s≠0,.int .i64 es.length)
  | _=>none
 | .xbyte x y=>match rd x,rd y with
  | .str s,.int .u8 n=>some (True,.int .i64 (bX s n))
  | _,_=>none
 | .scmp x y=>match rd x,rd y with
  | .str a,.str b=>some (True,.int .i64 (jD a b))
  | _,_=>none
 | .ovl x y=>match rd x,rd y with
  | .own t _ s es,.own t' _ s' es'=>some (t≠t'∧(es≠[]∧es'≠[])∧s≠0∧s'≠0,.bool false)
  | _,_=>none
 | .chr x=>match rd x with
  | .int _ n=>some (0≤n∧n<128,.str [UInt8.ofNat n.toNat])
  | _=>none
 | .mget x y=>match rd x,rd y with
  | .own _ _ 0 ([.tup []]::es),.int .i64 n=>some (True,.bool (Pw n es))
  | .lst 0 ([.tup []]::es),.int .i64 n=>some (True,.bool (Pw n es))
  | _,_=>none
 | .mn x y=>match rd x,rd y with
  | .int k a,.int k' b=>some (k=k',.int k (if b<a then b else a))
  | _,_=>none
 | .mx x y=>match rd x,rd y with
  | .int k a,.int k' b=>some (k=k',.int k (if b>a then b else a))
  | _,_=>none
 | .ext x i=>match rd x with
  | .tup vs=>match vs[i]? with
   | some v=>some (True,v)
   | none=>none
  | _=>none
 | .build zero parts=>
  some (Dg (fun p=>Cq (rd p.2.2)=false∧(rd p.2.2).cells.length=p.2.1∧p.1+p.2.1≤zero.length) parts,
   .agg (parts.foldl (fun cs p=>putCells cs p.1 (rd p.2.2).cells) zero))
 | .fn f caps=>some (Uq (caps.map rd)=true,.clo f (caps.map rd))
 | .nilc x=>match rd x with
  | .ptr t k=>some (True,.ptr t k)
  | .iptr cs=>some (True,.iptr cs)
  | .optr t s j k=>some (True,.optr t s j k)
  | _=>none
 | .toStr x=>match rd x with
  | .lst s es=>some (s=1∧Ly (fX es)=es,.str (fX es))
  | .own _ _ s es=>some (s=1∧Ly (fX es)=es,.str (fX es))
  | _=>none
inductive iX where
 | p (o:PU)
 | pick (c a b:Cu)
 | box (x:Cu)
 | alloc (zero:List V)
 | store (x v:Cu) (n:Nat)
 | mkS (sz:Nat) (zero:List V) (len:Nat) (parts:List (Nat×Cu))
 | nilS (sz:Nat)
 | make (sz bytes:Nat) (zero:List V) (l c:Cu)
 | app (sz bytes:Nat) (x y:Cu)
 | appz (sz bytes:Nat) (zero:List V) (x n:Cu)
 | copy (sz:Nat) (x y:Cu)
 | toBytes (x:Cu)
 | call (f:Nat) (args:List Cu)
 | callv (x:Cu) (args:List Cu)
 | isnil (x:Cu) (ne:Bool)
 | cap (x:Cu)
 | mkM
 | mset (x k v:Cu)
 | clear (sz:Nat) (zero:List V) (x:Cu)
 | chk3 (x lo hi mx:Cu)
 | bad
structure Bj where
 dst:Option Nat
 op:iX
 g:Option (Nat×Bool)
inductive DP where
 | fin
 | take (i:Bj) (r:DP)
 | alt (held:List Bj) (i:Bj) (r rest:DP)
 | stop
 | dead
inductive IR where
 | skip
 | reg (l:List Bj)
 | draw (p:DP)
 | seq (a b:IR)
 | ite (c:Cu) (a b:IR)
 | block (id:Nat) (a:IR)
 | loop (a:IR)
 | exit (id:Nat)
 | ret
 | bad
def Kk (t:Nat):V→Bool
 | .own t' _ _ _ | .ptr t' _ | .optr t' _ _ _=>t' != t
 | _=>true
def Jh (t:Nat):V→Bool
 | .clo _ caps=>caps.all (Kk t)
 | c=>Kk t c
def cellsL:List V→List V
 | []=>[]
 | v::r=>v.cells++cellsL r
def V.flat1:V→List V
 | .agg cs=>cs
 | .tup vs=>cellsL vs
 | v=>[v]
def V.flat:V→List V
 | .may _ v=>v.flat1
 | v=>v.flat1
def V.no (t:Nat) (v:V):Bool:=v.flat.all (Jh t)
def tJ (t:Nat) (v:V):V:=if v.no t then v else .undef
def dropC (t:Nat) (v:V):V:=if Jh t v then v else .undef
def Sd (t:Nat):List (Nat×V)→List (Nat×V)
 | []=>[]
 | (a,v)::r=>(a,tJ t v)::Sd t r
def No (t:Nat):List V→List V
 | []=>[]
 | c::r=>dropC t c::No t r
def cK (t:Nat):List (Nat×List V)→List (Nat×List V)
 | []=>[]
 | (a,cs)::r=>(a,No t cs)::cK t r
def St.drop (S:St) (t:Nat):St:={ env:=Sd t S.env,bx:=cK t S.bx,cp:=S.cp }
def St.drops (S:St):List Nat→St
 | []=>S
 | t::r=>(S.drop t).drops r
def Hd (f:V→V):V→V
 | .agg cs=>.agg (cs.map f)
 | .tup vs=>.tup (vs.map fun | .agg cs=>.agg (cs.map f) | c=>f c)
 | .may b (.agg cs)=>.may b (.agg (cs.map f))
 | .may b (.tup vs)=>.may b (.tup (vs.map fun | .agg cs=>.agg (cs.map f) | c=>f c))
 | .may b c=>.may b (f c)
 | c=>f c
def Pf (f:V→V):List (Nat×V)→List (Nat×V)
 | []=>[]
 | (a,v)::r=>(a,Hd f v)::Pf f r
def Wz (f:V→V):List (Nat×List V)→List (Nat×List V)
 | []=>[]
 | (a,cs)::r=>(a,cs.map f)::Wz f r
def St.map (S:St) (f:V→V):St:={ env:=Pf f S.env,bx:=Wz f S.bx,cp:=S.cp }
abbrev Di:Nat:=1048576
def frz (t:Nat):V→V
 | .own t' off sz es=>if t'=t then .lst sz es else .own t' off sz es
 | c=>c
def St.freeze (S:St) (t:Nat):St:=if t<Di then (S.map (frz t)).drop t else S.drop t
def St.freezes (S:St):List Nat→St
 | []=>S
 | t::r=>(S.freeze t).freezes r
def Gk (off:Nat) (es:List (List V)) (at_:Nat) (ys:List (List V)):List (List V):=
 es.mapIdx fun i e=>if at_≤off+i then (ys[off+i-at_]?).getD e else e
def lH (t sz at_:Nat) (ys:List (List V)):V→V
 | .own t' off sz' es=>if t'=t then (if sz'=sz then .own t' off sz' (Gk off es at_ ys) else .undef) else .own t' off sz' es
 | c=>c
def Ii:List V→List Nat
 | []=>[]
 | .own t _ _ _::r=>t::Ii r
 | _::r=>Ii r
def V.tags (v:V):List Nat:=Ii v.flat
def Qu:List V→List V
 | []=>[]
 | v::r=>v.flat++Qu r
def Ku:List (Nat×V)→List Nat
 | []=>[]
 | p::r=>p.2.tags++Ku r
def Qa (p:V→Bool):List V→Bool
 | []=>true
 | c::r=>p c&&Qa p r
def Ga:V→V
 | .own t _ sz es=>if t<Di then .lst sz es else .undef
 | .int k n=>.int k n
 | .bool b=>.bool b
 | .str s=>.str s
 | .lst sz es=>.lst sz es
 | .iptr cs=>.iptr cs
 | _=>.undef
def Lc:V→Bool
 | .int .. | .bool .. | .str .. | .lst .. | .own .. | .iptr .. => false
 | _=>true
def Rq (b:Bool):V→V→V
 | .bool x,.bool y=>.bool (bif b then x else y)
 | .int k x,.int k' y=>if k=k' then .int k (bif b then x else y) else if b then .int k x else .int k' y
 | x,y=>if b then x else y
def St.setBx (S:St) (t:Nat) (cs:List V):St:={ S with bx:=ins S.bx t cs }
def Ma (sz:Nat) (es:List (List V)):List (Nat×List V)→List (List V)
 | []=>es
 | (i,cs)::r=>Ma sz (es.set i cs) r
structure Tr where
 args:List V
 bx:List (List V)
structure Gs where
 r:V
 bx:List (List V)
 rw:List (Nat×Nat×List (List V))
abbrev Ba:=Nat→Tr→Gs→Prop
def Hq (t:Nat):List Nat→Nat→Option Nat
 | [],_=>none
 | x::r,k=>if x=t then some k else Hq t r (k+1)
def Fh:List Nat→Bool
 | []=>true
 | x::r=>r.all (· != x)&&Fh r
def Pu:V→V
 | .int k n=>.int k n
 | .bool b=>.bool b
 | .str s=>.str s
 | .lst sz es=>.lst sz es
 | .iptr cs=>.iptr cs
 | _=>.undef
def Lb:V→V
 | .clo f caps=>.clo f (caps.map Pu)
 | c=>Pu c
def cl0 (XR:List Nat):V→V
 | .own t _ sz es=>if XR.contains t then .undef else .lst sz es
 | c=>Lb c
def St.cl (S:St) (XB XR:List Nat):Nat→V→V
 | 0,c=>cl0 XR c
 | n+1,.ptr t k=>if XB.contains t then .undef else match look S.bx t with
  | some cs=>.iptr ((cs.drop k).map (S.cl XB XR n))
  | none=>.undef
 | n+1,.clo f caps=>.clo f (caps.map (S.cl XB XR n))
 | _+1,c=>cl0 XR c
def kI (LR LM:List Nat) (fz:Bool) (t off sz:Nat) (es:List (List V)):V:=
 match Hq t LR 0 with
 | some i=>.own (2097152+i) off sz es
 | none=>match Hq t LM 0 with
  | some i=>.own (1024000+i) off sz es
  | none=>if fz && !decide (t<Di) then .undef else .lst sz es
def St.liftP (S:St) (LB XR:List Nat) (fz:Bool) (n:Nat):V→V
 | .ptr t k=>match Hq t LB 0 with
  | some i=>.ptr (Di+i) k
  | none=>if fz then .undef else S.cl LB XR n (.ptr t k)
 | c=>Lb c
def St.liftC (S:St) (LB LR LM:List Nat) (fz:Bool):V→V
 | .own t off sz es=>kI LR LM fz t off sz es
 | .clo f caps=>.clo f (caps.map (S.liftP LB (LR++LM) fz 2))
 | c=>S.liftP LB (LR++LM) fz 3 c
def mapW (f:V→V):V→V
 | .agg cs=>.agg (cs.map f)
 | c=>f c
def St.given (S:St):List Nat→List (List V)
 | []=>[]
 | t::r=>(look S.bx t).getD []::S.given r
def Rf (f:V→V):List (List V)→List (List V)
 | []=>[]
 | cs::r=>cs.map f::Rf f r
def St.give (S:St) (args:List V) (LB LR LM:List Nat) (fz:Bool):Tr:=
 ⟨args.map (mapW (S.liftC LB LR LM fz)),Rf (S.liftC LB LR LM fz) (S.given LB)⟩
def fW (X:List Nat):List Nat→List Nat
 | []=>[]
 | t::r=>if X.contains t then fW X r else t::fW X r
def St.frzTags (S:St) (args:List V) (LB LR LM:List Nat):List Nat:=fW (LR++LM) (Ii (Qu args++(S.given LB).flatten))
def Hv (d nn:Nat) (LB LR:List Nat):V→V
 | .own t off sz es=>if t<64 then .own (64*d+t) off sz es else if t<2097152 then .undef else match LR[t-2097152]? with
  | some T=>.own T off sz es
  | none=>.undef
 | .ptr t k=>if t<nn then .ptr (64*d+t) k else if t<Di then .undef else match LB[t-Di]? with
  | some T=>.ptr T k
  | none=>.undef
 | c=>Lb c
def fR (LR:List Nat) (rw:List (Nat×Nat×List (List V))):V→V
 | .own t off sz es=>match Hq t LR 0 with
  | none=>.own t off sz es
  | some i=>match rw[i]? with
   | some (o,s,es')=>if off=o∧sz=s∧es.length=es'.length then .own t off sz es' else .undef
   | none=>.undef
 | c=>c
def St.rows (S:St) (LR:List Nat) (rw:List (Nat×Nat×List (List V))):St:=
 match LR with
 | []=>S
 | _=>S.map (fR LR rw)
def St.boxes (S:St) (f:V→V):List Nat→List (List V)→St
 | [],_=>S
 | T::r,cs::q=>(S.setBx T (cs.map f)).boxes f r q
 | T::r,[]=>(S.setBx T []).boxes f r []
def Uf (d:Nat):Nat→List Nat
 | 0=>[]
 | n+1=>Uf d n++[64*d+n]
def Pz (d:Nat):List Nat→List Nat
 | []=>[]
 | t::r=>if t<64 then (64*d+t)::Pz d r else Pz d r
def Gs.newR (t:Gs) (d:Nat):List Nat:=Pz d (Ii (t.r.flat++t.bx.flatten))
def Gs.newB (t:Gs) (d nb:Nat):List Nat:=Uf d (t.bx.length-nb)
def St.after (S:St) (args:List V) (d:Nat) (fz:Bool) (LB LR LM:List Nat) (t:Gs):St:=
 let S1:=if fz then S.freezes (S.frzTags args LB LR LM) else S
 let S2:=S1.drops (LM++(t.newR d++t.newB d LB.length))
 (S2.rows LR t.rw).boxes (Hv d (t.bx.length-LB.length) LB LR) (LB++t.newB d LB.length) t.bx
def eO:V→Bool
 | .int .. | .bool .. | .str .. | .undef=>true
 | _=>false
def Jv:V→Bool
 | .int .. | .bool .. | .str .. | .undef | .ptr .. => true
 | .own _ _ _ es=>es.all (·.all eO)
 | _=>false
def Gs.flat (t:Gs):Bool:=(t.r.flat++t.bx.flatten).all Jv&&t.rw.all fun p=>p.2.2.all (·.all eO)
def Uu:V→V
 | .own _ _ sz es=>.lst sz es
 | c=>Lb c
def Re (n:Nat):List Nat→Bool
 | []=>true
 | t::r=>decide (t<n)&&Re n r
def Lt (X:List Nat):List Nat→Bool
 | []=>true
 | t::r => !X.contains t&&Lt X r
def oS (C:Ba) (f:Nat) (args:List V) (d:Option Nat) (S:St) (K:St→Prop):Prop:=
 Qa (fun v => !Cq v) args=true∧∃(LB LR LM:List Nat) (fz:Bool) (t:Gs),
  (Fh LB=true∧Fh (LR++LM)=true∧Re Di LM=true∧LB.all (fun T=>(look S.bx T).isSome)=true) ∧
  (Re 65 [t.bx.length-LB.length,LM.length]=true∧Lt (t.newB (d.getD 0) LB.length) LB=true∧Lt (t.newR (d.getD 0)) LR=true) ∧
  (fz=false→t.flat=true)∧C f (S.give args LB LR LM fz) t ∧
  K ((S.after args (d.getD 0) fz LB LR LM t).put d (Hd (Hv (d.getD 0) (t.bx.length-LB.length) LB LR) t.r))
def sJ (C:Ba) (f:Nat) (args:List V) (d:Option Nat) (g:Bool) (S:St) (K:St→Prop):Prop:=
 (g=true→Qa (fun v => !Cq v) args=true)∧∃(fz:Bool) (r:V),(g=true→C f (S.give args [] [] [] fz) ⟨r,[],[]⟩) ∧
  (fz=false→r.flat.all Jv=true)∧(fz=true→Ii (Qu args)=[])∧K (S.put d (.may g (Hd Uu r)))
def Pb:V→Bool→Option Bool
 | .bool b,want=>some (b==want)
 | .may b' (.bool b),want=>some (b'&&(b==want))
 | _,_=>none
def wK:V→Option (List (List V))
 | .lst (_+1) es=>some es
 | .own _ _ (_+1) es=>some es
 | _=>none
def Ug:V→Option (Nat×List (List V))
 | .lst sz es=>some (sz,es)
 | .own _ _ sz es=>some (sz,es)
 | .str s=>some (1,Ly s)
 | _=>none
def Kj (rd:Cu→V) (u:PU) (l:List (Nat×Int)):Option Int:=
 match u with
 | .mv x=>Nm l x
 | .slice x lo _ _=>match Nm l x with
  | some c=>match rd x,Gz (lo.map rd) with
   | .own ..,some l=>some (c-l.getD 0)
   | _,_=>none
  | none=>none
 | _=>none
abbrev Qj (S:St) (rd:Cu→V) (u:PU):Option Int:=Kj rd u S.cp
def Ki (x:Cu) (n:Nat) (l:List (Nat×Int)):Option Int:=
 match Nm l x with
 | some c=>if (n:Int)≤Pe c then some c else none
 | none=>none
def Xo (C:Ba) (d:Option Nat) (op:iX) (S:St) (K:St→Prop):Prop:=
 match op with
 | .p o=>Dg (fun x=>Bc true (S.val x)) o.opds∧match pu S (fun x=>An (S.val x)) o with
  | some (φ,v)=>φ∧K (S.putC d v (Kj (fun x=>An (S.val x)) o))
  | none=>False
 | .pick c a b=>Bc true (S.val c)∧match An (S.val c) with
  | .bool cb=>Bc cb (S.val a)∧Bc (!cb) (S.val b)∧K (S.put d (Rq cb (An (S.val a)) (An (S.val b))))
  | _=>False
 | .box x=>match d with
  | some d=>let S1:=S.drop (64*d)
   Bc true (S1.val x)∧Cq (An (S1.val x))=false∧K ((S1.setBx (64*d) (An (S1.val x)).cells).put (some d) (.ptr (64*d) 0))
  | none=>False
 | .alloc zero=>match d with
  | some d=>K (((S.drop (64*d)).setBx (64*d) zero).put (some d) (.ptr (64*d) 0))
  | none=>False
 | .store x v n=>Bc true (S.val x)∧Bc true (S.val v) ∧
  let cs:=(An (S.val v)).cells
  Cq (An (S.val v))=false∧cs.length=n∧match An (S.val x) with
  | .ptr t k=>match look S.bx t with
   | some bs=>k+n≤bs.length∧K ((S.setBx t (putCells bs k cs)).put d .undef)
   | none=>False
  | .optr t sz j k=>match S.find t with
   | some (off,es)=>off≤j∧j<off+es.length∧k+n≤sz∧(es.getD (j-off) []).length=sz ∧
    let S1:=S.freezes (An (S.val v)).tags
    cs.all (fun c => !Lc c)=true∧(An (S.val v)).tags.all (· != t)=true ∧
    K ((S1.map (lH t sz j [putCells (es.getD (j-off) []) k (cs.map Ga)])).put d .undef)
   | none=>False
  | _=>False
 | .mkS sz zero len parts=>match d with
  | some d=>
   let vs:=parts.map fun p=>(p.1,An (S.val p.2))
   Dg (fun p=>Bc true (S.val p.2)) parts ∧
   Dg (fun p=>p.1<len∧p.2.cells.length=sz∧p.2.cells.all (fun c => !Lc c)=true) vs ∧
   K (((S.freezes (Ku vs)).drop (64*d)).put (some d)
    (.own (64*d) 0 sz (Ma sz (List.replicate len zero) (vs.map fun p=>(p.1,p.2.cells.map Ga)))))
  | none=>False
 | .nilS sz=>match d with
  | some d=>K ((S.drop (64*d)).put (some d) (.own (64*d) 0 sz []))
  | none=>False
 | .make sz bytes zero l c=>Bc true (S.val l)∧Bc true (S.val c)∧match d,An (S.val l),An (S.val c) with
  | some d,.int _ l,.int _ c=>0≤l∧l=c∧c*bytes≤140737488355328 ∧
   K ((S.drop (64*d)).put (some d) (.own (64*d) 0 sz (List.replicate l.toNat zero)))
  | _,_,_=>False
 | .app sz bytes x y=>Bc true (S.val x)∧Bc true (S.val y)∧match An (S.val x),Ug (An (S.val y)) with
  | .own t off s es,some (s',ys)=>t<Di∧off=0∧s=sz∧s'=sz∧(es.length+ys.length)*bytes≤140737488355328 ∧
   K ((S.drop t).putC d (.own t 0 sz (es++ys)) (Ki x (es.length+ys.length)))
  | _,_=>False
 | .appz sz bytes zero x n=>Bc true (S.val x)∧Bc true (S.val n)∧match An (S.val x),An (S.val n) with
  | .own t off s es,.int _ l=>t<Di∧off=0∧s=sz∧0≤l∧((es.length:Int)+l)*bytes≤140737488355328 ∧
   (K ((S.drop t).putC d (.own t 0 sz (es++List.replicate l.toNat zero)) (Ki x (es.length+l.toNat))) ∨
    ∃d' c,d=some d'∧S.capOf x=some c∧Es≤c∧c-Es<es.length+l∧K ((S.drop (64*d')).put d (.own (64*d') 0 sz (es++List.replicate l.toNat zero))))
  | _,_=>False
 | .copy sz x y=>Bc true (S.val x)∧Bc true (S.val y)∧match An (S.val x),Ug (An (S.val y)) with
  | .own t off s es,some (s',ys)=>s=sz∧s'=sz ∧
   K ((S.map (lH t sz off (ys.take es.length))).put d (.int .i64 (min ys.length es.length:Nat)))
  | _,_=>False
 | .toBytes x=>Bc true (S.val x)∧match An (S.val x) with
  | .str s=>K (S.put d (.lst 1 (Ly s)))
  | _=>False
 | .call f args=>Dg (fun x=>Bc true (S.val x)) args∧oS C f (args.map fun x=>An (S.val x)) d S K
 | .callv x args=>Bc true (S.val x)∧Dg (fun x=>Bc true (S.val x)) args∧match An (S.val x) with
  | .clo f caps=>oS C f (args.map (fun x=>An (S.val x))++caps) d S K
  | _=>False
 | .isnil x ne=>Bc true (S.val x)∧match wK (An (S.val x)) with
  | some es=>∀b:Bool,(b=true→es=[])→K (S.put d (.bool (if ne then !b else b)))
  | none=>False
 | .mkM=>match d with
  | some d=>K ((S.drop (64*d)).put (some d) (.own (64*d) 0 0 [[.tup []]]))
  | none=>False
 | .mset x k v=>Bc true (S.val x)∧Bc true (S.val k)∧Bc true (S.val v)∧match An (S.val x),An (S.val k),An (S.val v) with
  | .own t _ 0 ([.tup []]::_),.int .i64 n,.bool b=>K ((S.map (rI t n b)).put d .undef)
  | _,_,_=>False
 | .cap x=>Bc true (S.val x)∧match An (S.val x),x with
  | .own _ off sz es,.t n=>sz≠0∧∀c:Nat,es.length≤c→(off=0→c≤9223372036854775807)→(∀c0,S.capOf x=some c0→Es≤c0→(c:Int)=c0-Es)→K (St.put { S with cp:=Mv n (fun _=>some (Es+c)) S.cp } d (.int .i64 c))
  | _,_=>False
 | .clear sz zero x=>Bc true (S.val x)∧match An (S.val x) with
  | .own t off s es=>s=sz∧K ((S.map (lH t sz off (List.replicate es.length zero))).put d .undef)
  | _=>False
 | .chk3 x lo hi mx=>(Bc true (S.val x)∧Bc true (S.val lo)∧Bc true (S.val hi)∧Bc true (S.val mx))∧match wK (An (S.val x)),An (S.val lo),An (S.val hi),An (S.val mx) with
  | some es,.int _ a,.int _ b,.int _ c=>0≤a∧a≤b∧b≤c∧c≤es.length∧K (S.put d .undef)
  | _,_,_,_=>False
 | .bad=>False
def Dm (S:St) (op:iX) (v:V):Prop:=
 match op with
 | .p o=>Dg (fun x=>Bc true (S.val x)) o.opds∧∃ψ,pu S (fun x=>An (S.val x)) o=some (ψ,v)∧ψ
 | .pick c a b=>Bc true (S.val c)∧∃cb,An (S.val c) = .bool cb∧Bc cb (S.val a)∧Bc (!cb) (S.val b)∧v=Rq cb (An (S.val a)) (An (S.val b))
 | _=>False
def wGd (C:Ba) (d:Option Nat) (op:iX) (g:Bool) (S:St) (K:St→Prop):Prop:=
 match op with
 | .p o=>∃u,(g=true→Dm S (.p o) u)∧K (S.put d (.may g u))
 | .pick c a b=>∃u,(g=true→Dm S (.pick c a b) u)∧K (S.put d (.may g u))
 | .call f args=>(Dg (fun x=>Bc g (S.val x)) args∧sJ C f (args.map fun x=>An (S.val x)) d g S K)∨((g=true→Xo C d (.call f args) S K)∧(g=false→K (S.put d .undef)))
 | .callv x args=>(Bc g (S.val x)∧Dg (fun x=>Bc g (S.val x)) args∧match An (S.val x) with
  | .clo f caps=>sJ C f (args.map (fun x=>An (S.val x))++caps) d g S K
  | _=>False)∨((g=true→Xo C d (.callv x args) S K)∧(g=false→K (S.put d .undef)))
 | op=>(g=true→Xo C d op S K)∧(g=false→K (S.put d .undef))
def Dx (C:Ba) (i:Bj) (S:St) (K:St→Prop):Prop:=
 match i.g with
 | none=>Xo C i.dst i.op S K
 | some (gs,want)=>match Pb (S.val (.t gs)) want with
  | some g=>wGd C i.dst i.op g S K
  | none=>False
def tE (S:St) (k:Nat) (c:Int):Prop:=
 (∃c',look S.cp k=some c'∧(c=c'∨c<Es∧c≤Pe c'))∨(∃t off sz es,look S.env k=some (.own t off sz es)∧es≠[]∧c≤es.length∧c<Es∧sz≠0) ∨
  ∃k' c' t sz off es off' es',look S.cp k'=some c'∧look S.env k'=some (.own t off' sz es')∧es'≠[]∧look S.env k=some (.own t off sz es)∧es≠[]∧sz≠0 ∧
   (c<Es∧c+off≤Pe c'+off'∨c=c'∧off=off')
def Le (S S':St):Prop:=(∀t v,look S'.env t=some v→look S.env t=some v)∧(∀t cs,look S'.bx t=some cs→look S.bx t=some cs)∧(∀k c,look S'.cp k=some c→tE S k c)
def aE (S S':St):Prop:=(∀t,look S.env t=look S'.env t)∧∀k,look S.cp k=look S'.cp k
def yW (t t' x:Nat):Nat:=if x=t then t' else if x=t' then t else x
def swC (t t':Nat):V→V
 | .own x off sz es=>.own (yW t t' x) off sz es
 | .optr x sz j k=>.optr (yW t t' x) sz j k
 | c=>c
def St.swap (S:St) (t t':Nat):St:=S.map (swC t t')
def St.swaps (S:St):List (Nat×Nat)→St
 | []=>S
 | (t,t')::r=>(S.swap t t').swaps r
def sE:List (Nat×Nat)→Bool
 | []=>true
 | (t,t')::r=>decide (t<Di)&&decide (t'<Di)&&sE r
inductive Fg:St→St→Prop
 | le {S S':St} (h:Le S S'):Fg S S'
 | fz (S:St) (ts:List Nat):Fg S (S.freezes ts)
 | sw (S:St) (rs:List (Nat×Nat)) (h:sE rs=true):Fg S (S.swaps rs)
 | trans {S S' S'':St} (h1:Fg S S') (h2:Fg S' S''):Fg S S''
def yO (C:Ba):List Bj→(St→Prop)→St→Prop
 | [],K,S=>K S
 | i::r,K,S=>∃S1,Fg S S1∧Dx C i S1 (yO C r K)
def Ef (i:Bj) (S:St):Prop:=
 match i.op with
 | .p (.load x _ _)=>match An (S.val x) with
  | .optr .. => False
  | _=>True
 | _=>True
def Fz (C:Ba) (X:List Bj) (S:St):Prop:=Dg (fun j=>Dx C j S (fun S'=>aE S' S)) X
def Jl (C:Ba) (X l:List Bj) (S:St):Prop:=Dg (fun j=>(Ef j S∨j∈X)∧Dx C j S (fun S'=>aE S' S)) l
def WD (C:Ba):DP→List Bj→(St→Prop)→St→Prop
 | .fin,_,K,S=>K S
 | .take i r,X,K,S=>(Ef i S∧Dx C i S (fun S'=>Fz C X S'∧WD C r X K S'))∨Dx C i S (fun S'=>Fz C (i::X) S'∧WD C r (i::X) K S')
 | .alt held i r rest,X,K,S=>Dx C i S (fun S'=>∃S1,Fg S' S1∧∃X',Jl C X' held S1∧Fz C X' S1∧WD C r X' K S1)∧WD C rest X K S
 | .stop,_,_,_=>True
 | .dead,_,_,_=>False
inductive Ex where
 | normal
 | exit (id:Nat)
 | ret
def W (C:Ba):IR→(Ex→St→Prop)→St→Prop
 | .skip,Q,S=>Q .normal S
 | .reg l,Q,S=>yO C l (Q .normal) S
 | .draw p,Q,S=>WD C p [] (Q .normal) S
 | .seq a b,Q,S=>W C a (fun e S'=>match e with | .normal=>∃S1,Fg S' S1∧W C b Q S1 | e=>Q e S') S
 | .ite c a b,Q,S=>Bc true (S.val c)∧match An (S.val c) with
  | .bool cb=>(cb=true→W C a Q S)∧(cb=false→W C b Q S)
  | _=>False
 | .block id a,Q,S=>W C a (fun e S'=>match e with | .exit id'=>if id'=id then Q .normal S' else Q (.exit id') S' | e=>Q e S') S
 | .loop a,Q,S=>∃(I:St→Prop) (μ:St→Nat),(∃S1,Fg S S1∧I S1)∧∀S,I S →
   W C a (fun e S'=>match e with | .normal=>∃S'',Fg S' S''∧I S''∧μ S''<μ S | e=>Q e S') S
 | .exit id,Q,S=>Q (.exit id) S
 | .ret,Q,S=>Q .ret S
 | .bad,_,_=>False
end Go.Ev
