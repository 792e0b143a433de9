/- A small abstract machine over values: values, states, instructions, and the predicate transformer W. No memory, no world. -/
import GoSem.Core.Code
import GoSem.Core.View
import GoSem.Op.String
import Derived.Laws.Externs
set_option linter.all false
namespace Go.Ev
inductive V where
 | int (k:IntKind) (n:Int)
 | bool (b:Bool)
 | str (s:List UInt8)
 | lst (sz:Nat) (es:List (List V))
 | own (tag off sz:Nat) (es:List (List V))
 | nrow (T j c sz:Nat) (es:List (List V))
 | ptr (tag k:Nat)
 | iptr (cs:List V)
 | optr (tag sz j k:Nat)
 | agg (cs:List V)
 | tup (vs:List V)
 | clo (f:Nat) (caps:List V)
 | may (b:Bool) (v:V)
 | undef
 deriving Inhabited
def Aq (t:Nat):Bool:=Nat.beq (t / 32%2) 1
def tg (t e:Nat):Nat:=bif Aq t then e+32 else e
def look {α:Type}:List (Nat×α)→Nat→Option α
 | [],_=>none
 | (a,x)::r,t=>if a=t then some x else look r t
def ins {α:Type} (l:List (Nat×α)) (d:Nat) (v:α):List (Nat×α):=(d,v)::l
structure St where
 env:List (Nat×V)
 bx:List (Nat×List V)
 
 cp:List (Nat×Int):=[]
inductive As where
 | t (n:Nat)
 | c (v:V)
def St.val (S:St):As→V
 | .t n=>(look S.env n).getD .undef
 | .c v=>v
abbrev Fd:Int:=4611686018427387904
def Jk (c:Int):Int:=if c<Fd then c else c-Fd
def Jb (l:List (Nat×Int)):As→Option Int
 | .t n=>look l n
 | .c _=>none
abbrev St.capOf (S:St) (x:As):Option Int:=Jb S.cp x
def Hy (d:Nat) (f:List (Nat×Int)→Option Int):List (Nat×Int)→List (Nat×Int)
 | []=>match f [] with
  | some c=>[(d,c)]
  | none=>[]
 | p::r=>match f (p::r) with
  | some c=>(d,c)::(p::r).filter fun p=>p.1 != d
  | none=>(p::r).filter fun p=>p.1 != d
def St.put (S:St) (d:Option Nat) (v:V):St:=
 match d with
 | some d=>{ env:=ins S.env d v,bx:=S.bx,cp:=Hy d (fun _=>none) S.cp }
 | none=>S
def St.putC (S:St) (d:Option Nat) (v:V) (f:List (Nat×Int)→Option Int):St:=
 match d with
 | some d=>{ env:=ins S.env d v,bx:=S.bx,cp:=Hy d f S.cp }
 | none=>S
def Ad:V→V
 | .may _ v=>v
 | v=>v
def Ag (g:Bool):V→Prop
 | .may b _=>g=true→b=true
 | _=>True
def Ax {α:Type} (p:α→Prop):List α→Prop
 | []=>True
 | x::r=>p x∧Ax p r
def V.cells:V→List V
 | .agg cs=>cs
 | v=>[v]
inductive PU where
 | mv (x:As)
 | bin (op:BinOp) (x y:As)
 | eqs (ne:Bool) (ks:List Nat) (x y:As)
 | un (op:UnOp) (x:As)
 | conv (k:IntKind) (x:As)
 | load (x:As) (n:Nat) (ag:Bool)
 | fieldA (x:As) (off:Nat)
 | idxA (x i:As) (sz:Nat)
 | idxArr (x i:As) (len sz:Nat)
 | field (x:As) (off n:Nat) (ag:Bool)
 | idxStr (x i:As)
 | sliceStr (x:As) (lo hi:Option As)
 | slice (x:As) (lo hi:Option As) (sz:Nat)
 | len (x:As)
 | lenS (x:As)
 | strc (x:As)
 | binB (op:BinOp) (x y:As)
 | mn (x y:As)
 | mx (x y:As)
 | ext (x:As) (i:Nat)
 | build (zero:List V) (parts:List (Nat×Nat×As))
 | fn (f:Nat) (caps:List As)
 | nilc (x:As)
 | toStr (x:As)
 | xbyte (x c:As)
 | scmp (x y:As)
 | ovl (x y:As)
 | mget (x k:As)
 | chr (x:As)
def PU.opds:PU→List As
 | .mv x | .un _ x | .conv _ x | .load x _ _ | .fieldA x _ | .field x _ _ _ | .len x | .lenS x | .chr x | .strc x | .ext x _ | .nilc x | .toStr x=>[x]
 | .xbyte x y | .scmp x y | .ovl x y | .mget x y | .bin _ x y | .binB _ x y | .eqs _ _ x y | .idxA x y _ | .idxArr x y _ _ | .idxStr x y | .mn x y | .mx x y=>[x,y]
 | .sliceStr x lo hi | .slice x lo hi _=>x::(lo.toList++hi.toList)
 | .build _ ps=>ps.map (·.2.2)
 | .fn _ cs=>cs
def Ws (op:BinOp) (k:IntKind) (a b:Int):Option (Prop×V):=
 match op with
 | .add=>some (True,.int k (k.wrap (a+b)))
 | .sub=>some (True,.int k (k.wrap (a-b)))
 | .mul=>some (True,.int k (k.wrap (a*b)))
 | .quo=>some (b≠0,.int k (k.wrap (a.tdiv b)))
 | .rem=>some (b≠0,.int k (a.tmod b))
 | .and=>some (True,.int k (k.wrap (BitVec.ofInt k.bits a &&& BitVec.ofInt k.bits b).toNat))
 | .or=>some (True,.int k (k.wrap (BitVec.ofInt k.bits a ||| BitVec.ofInt k.bits b).toNat))
 | .xor=>some (True,.int k (k.wrap (BitVec.ofInt k.bits a ^^^ BitVec.ofInt k.bits b).toNat))
 | .andNot=>some (True,.int k (k.wrap (BitVec.ofInt k.bits a &&& ~~~ BitVec.ofInt k.bits b).toNat))
 | .eql=>some (True,.bool (a==b))
 | .neq=>some (True,.bool (a != b))
 | .lss=>some (True,.bool (decide (a<b)))
 | .leq=>some (True,.bool (decide (a≤b)))
 | .gtr=>some (True,.bool (decide (a>b)))
 | .geq=>some (True,.bool (decide (a≥b)))
 | _=>none
def Tf (op:BinOp) (k:IntKind) (a b:Int):Option (Prop×V):=
 match op with
 | .shl=>some (0≤b,.int k (k.wrap (a*2^min b.toNat k.bits)))
 | .shr=>some (0≤b,.int k (a.fdiv (2^min b.toNat k.bits)))
 | _=>none
def Xc (op:BinOp) (a b:List UInt8):Option (Prop×V):=
 match op with
 | .add=>some (a.length+b.length≤9223372036854775807,.str (a++b))
 | .eql=>some (True,.bool (a==b))
 | .neq=>some (True,.bool !(a==b))
 | .lss=>some (True,.bool (Op.bytesLess a b))
 | .leq=>some (True,.bool (Op.bytesLess a b || a==b))
 | .gtr=>some (True,.bool !(Op.bytesLess a b || a==b))
 | .geq=>some (True,.bool !(Op.bytesLess a b))
 | _=>none
def Cy:List Nat→List V→List V→Option Bool
 | [],[],[]=>some true
 | 0::ks,.int k a::r,.int k' b::s=>if k=k' then (Cy ks r s).map ((a==b)&&·) else none
 | 1::ks,.bool a::r,.bool b::s=>(Cy ks r s).map ((a==b)&&·)
 | 2::ks,.str a::r,.str b::s=>(Cy ks r s).map ((a==b)&&·)
 | _,_,_=>none
def Gf (tag:Nat):List V→Option (Nat×List (List V))
 | []=>none
 | .own t off sz es::r=>if t=tag∧sz≠0 then some (off,es) else Gf tag r
 | _::r=>Gf tag r
def Lm (tag:Nat) (env:List (Nat×V)):List (Nat×V)→Option (Nat×List (List V))
 | []=>none
 | (x,_)::r=>match look env x with
  | some v=>match Gf tag v.cells with
   | some y=>some y
   | none=>Lm tag env r
  | none=>Lm tag env r
def Py (tag:Nat) (bx:List (Nat×List V)):List (Nat×List V)→Option (Nat×List (List V))
 | []=>none
 | (x,_)::r=>match look bx x with
  | some cs=>match Gf tag cs with
   | some y=>some y
   | none=>Py tag bx r
  | none=>Py tag bx r
def St.find (S:St) (tag:Nat):Option (Nat×List (List V)):=
 match Lm tag S.env S.env with
 | some x=>some x
 | none=>Py tag S.bx S.bx
def Jx (ag:Bool) (n:Nat) (cs:List V):Option V:=
 if ag then some (.agg (cs.take n)) else cs.head?
def Bd (cs:List V) (off:Nat):List V→List V
 | []=>cs
 | v::r=>Bd (cs.set off v) (off+1) r
def Hk (s:List UInt8):List (List V):=s.map fun b=>[V.int .u8 (b.toNat:Int)]
def Yy:List (List V)→List UInt8
 | [.int _ n]::r=>UInt8.ofNat n.toNat::Yy r
 | _::r=>0::Yy r
 | []=>[]
def An:V→Bool
 | .undef | .tup .. | .may .. => true
 | _=>false
def Mw:List V→Bool
 | []=>true
 | .int .. :: r | .bool .. :: r | .str .. :: r | .lst .. :: r | .iptr .. :: r | .ptr .. :: r=>Mw r
 | _=>false
def scal:V→Bool
 | .int .. | .bool .. | .str .. | .undef=>true
 | _=>false
def HX:V→Bool
 | .lst _ []=>true
 | c=>scal c
def kR (T j k:Nat):V→V
 | .lst sz es=>.nrow T j k sz es
 | c=>if scal c then c else .undef
def Jo (T j:Nat):Nat→List V→List V
 | _,[]=>[]
 | k,c::r=>kR T j k c::Jo T j (k+1) r
def HD (T j k:Nat) (cs:List V):List V:=bif Aq T then Jo T j k cs else cs
def Gd:Option V→Option (Option Int)
 | none=>some none
 | some (.int _ n)=>some (some n)
 | _=>none
def lO (sz n:Nat):List (List V):=List.replicate n (List.replicate sz .undef)
def fK (s:List UInt8) (n:Int):Int:=Go.firstIdx ⟨s.toArray⟩ n.toNat.toUInt8
def KU (a b:List UInt8):Int:=Extern.BytealgCompare.cmp ⟨a.toArray⟩ ⟨b.toArray⟩
def Ml (n:Int):List (List V)→Bool
 | [.int _ k,.bool b]::r=>if k=n then b else Ml n r
 | _::r=>Ml n r
 | []=>false
def Rn (n:Int) (b:Bool):List (List V)→List (List V)
 | [.int q k,.bool c]::r=>if k=n then [.int q k,.bool b]::r else [.int q k,.bool c]::Rn n b r
 | e::r=>e::Rn n b r
 | []=>[[.int .i64 n,.bool b]]
def EC (n:Int) (b:Bool):List (List V)→List (List V)
 | [.tup []]::r=>[.tup []]::Rn n b r
 | es=>es
def dW (t:Nat) (n:Int) (b:Bool):V→V
 | .own t' off sz es=>if t'=t then .own t' off sz (EC n b es) else .own t' off sz es
 | c=>c
def pu (S:St) (rd:As→V):PU→Option (Prop×V)
 | .mv x=>some (True,rd x)
 | .bin op x y=>match rd x,rd y with
  | .int k a,.int k' b=>match op with
   | .shl | .shr=>Tf op k a b
   | _=>if k=k' then Ws op k a b else none
  | .str a,.str b=>Xc op a b
  | _,_=>none
 | .binB op x y=>match rd x,rd y with
  | .bool a,.bool b=>match op with
   | .eql=>some (True,.bool (a==b))
   | .neq=>some (True,.bool !(a==b))
   | _=>none
  | _,_=>none
 | .eqs ne ks x y=>match rd x,rd y with
  | .agg cs,.agg ds=>match Cy ks cs ds with
   | some b=>some (True,.bool (if ne then !b else b))
   | none=>none
  | _,_=>none
 | .un op x=>match op,rd x with
  | .neg,.int k n=>some (True,.int k (k.wrap (0-n)))
  | .xor,.int k n=>some (True,.int k (k.wrap (BitVec.ofInt k.bits (if k.signed then -1 else k.max) ^^^ BitVec.ofInt k.bits n).toNat))
  | .not,.bool b=>some (True,.bool !b)
  | _,_=>none
 | .conv k x=>match rd x with
  | .int _ n=>some (True,.int k (k.wrap n))
  | _=>none
 | .load x n ag=>match rd x with
  | .ptr tag k=>match look S.bx tag with
   | some cs=>match Jx ag n (cs.drop k) with
    | some v=>some (k+n≤cs.length,v)
    | none=>none
   | none=>none
  | .iptr cs=>match Jx ag n cs with
   | some v=>some (n≤cs.length,v)
   | none=>none
  | .optr tag sz j k=>match S.find tag with
   | some (off,es)=>match Jx ag n (HD tag j k ((es.getD (j-off) []).drop k)) with
    | some v=>some (off≤j∧j<off+es.length∧k+n≤sz∧(es.getD (j-off) []).length=sz,v)
    | none=>none
   | none=>none
  | _=>none
 | .fieldA x off=>match rd x with
  | .ptr tag k=>some (True,.ptr tag (k+off))
  | .iptr cs=>some (off≤cs.length,.iptr (cs.drop off))
  | .optr tag sz j k=>some (True,.optr tag sz j (k+off))
  | _=>none
 | .idxA x i sz=>match rd x,rd i with
  | .lst s es,.int _ n=>some (s=sz∧0≤n∧n<es.length,.iptr (es.getD n.toNat []))
  | .own tag off s es,.int _ n=>some (s=sz∧0≤n∧n<es.length,.optr tag sz (off+n.toNat) 0)
  | _,_=>none
 | .idxArr x i len sz=>match rd x,rd i with
  | .ptr tag k,.int _ n=>some (0≤n∧n<len,.ptr tag (k+n.toNat*sz))
  | .iptr cs,.int _ n=>some (0≤n∧n<len∧n.toNat*sz≤cs.length,.iptr (cs.drop (n.toNat*sz)))
  | _,_=>none
 | .field x off n ag=>match rd x with
  | .agg cs=>match Jx ag n (cs.drop off) with
   | some v=>some (off+n≤cs.length,v)
   | none=>none
  | _=>none
 | .idxStr x i=>match rd x,rd i with
  | .str s,.int _ n=>some (0≤n∧n<s.length,.int .u8 ((s.getD n.toNat 0).toNat:Int))
  | _,_=>none
 | .sliceStr x lo hi=>match rd x,Gd (lo.map rd),Gd (hi.map rd) with
  | .str s,some l,some h=>
   some (0≤l.getD 0∧l.getD 0≤h.getD s.length∧h.getD s.length≤s.length,
    .str ((s.take (h.getD s.length).toNat).drop (l.getD 0).toNat))
  | _,_,_=>none
 | .slice x lo hi sz=>match rd x,Gd (lo.map rd),Gd (hi.map rd) with
  | .lst s es,some l,some h=>
   some (s=sz∧0≤l.getD 0∧l.getD 0≤h.getD es.length∧h.getD es.length≤es.length,
    .lst sz ((es.take (h.getD es.length).toNat).drop (l.getD 0).toNat))
  | .own tag off s es,some l,some h=>
   some (s=sz∧0≤l.getD 0∧l.getD 0≤h.getD es.length∧(h.getD es.length≤es.length∨(off=0∧0<sz∧∃c,S.capOf x=some c∧h.getD es.length≤Jk c)),
    .own tag (off+(l.getD 0).toNat) sz (((es++lO sz ((h.getD es.length).toNat-es.length)).take (h.getD es.length).toNat).drop (l.getD 0).toNat))
  | _,_,_=>none
 | .lenS x=>match rd x with
  | .str s=>some (True,.int .i64 s.length)
  | _=>none
 | .strc x=>match rd x with
  | .str s=>some (True,.str s)
  | _=>none
 | .len x=>match rd x with
  | .lst s es=>some (s≠0,.int .i64 es.length)
  | .own _ _ s es=>some (s≠0,.int .i64 es.length)
  | _=>none
 | .xbyte x y=>match rd x,rd y with
  | .str s,.int .u8 n=>some (True,.int .i64 (fK s n))
  | _,_=>none
 | .scmp x y=>match rd x,rd y with
  | .str a,.str b=>some (True,.int .i64 (KU a b))
  | _,_=>none
 | .ovl x y=>match rd x,rd y with
  | .own t _ s es,.own t' _ s' es'=>some (t≠t'∧(es≠[]∧es'≠[])∧s≠0∧s'≠0,.bool false)
  | _,_=>none
 | .chr x=>match rd x with
  | .int _ n=>some (0≤n∧n<128,.str [UInt8.ofNat n.toNat])
  | _=>none
 | .mget x y=>match rd x,rd y with
  | .own _ _ 0 ([.tup []]::es),.int .i64 n=>some (True,.bool (Ml n es))
  | .lst 0 ([.tup []]::es),.int .i64 n=>some (True,.bool (Ml n es))
  | _,_=>none
 | .mn x y=>match rd x,rd y with
  | .int k a,.int k' b=>some (k=k',.int k (if b<a then b else a))
  | _,_=>none
 | .mx x y=>match rd x,rd y with
  | .int k a,.int k' b=>some (k=k',.int k (if b>a then b else a))
  | _,_=>none
 | .ext x i=>match rd x with
  | .tup vs=>match vs[i]? with
   | some v=>some (True,v)
   | none=>none
  | _=>none
 | .build zero parts=>
  some (Ax (fun p=>An (rd p.2.2)=false∧(rd p.2.2).cells.length=p.2.1∧p.1+p.2.1≤zero.length) parts,
   .agg (parts.foldl (fun cs p=>Bd cs p.1 (rd p.2.2).cells) zero))
 | .fn f caps=>some (Mw (caps.map rd)=true,.clo f (caps.map rd))
 | .nilc x=>match rd x with
  | .ptr t k=>some (True,.ptr t k)
  | .iptr cs=>some (True,.iptr cs)
  | .optr t s j k=>some (True,.optr t s j k)
  | _=>none
 | .toStr x=>match rd x with
  | .lst s es=>some (s=1∧Hk (Yy es)=es,.str (Yy es))
  | .own _ _ s es=>some (s=1∧Hk (Yy es)=es,.str (Yy es))
  | _=>none
inductive Wj where
 | p (o:PU)
 | pick (c a b:As)
 | box (x:As)
 | alloc (zero:List V)
 | store (x v:As) (n:Nat)
 | mkS (sz:Nat) (zero:List V) (len:Nat) (parts:List (Nat×As))
 | nilS (sz:Nat)
 | make (sz bytes:Nat) (zero:List V) (l c:As)
 | app (sz bytes:Nat) (x y:As)
 | appz (sz bytes:Nat) (zero:List V) (x n:As)
 | copy (sz:Nat) (x y:As)
 | toBytes (x:As)
 | call (f:Nat) (args:List As)
 | callv (x:As) (args:List As)
 | isnil (x:As) (ne:Bool)
 | cap (x:As)
 | mkM
 | mset (x k v:As)
 | clear (sz:Nat) (zero:List V) (x:As)
 | chk3 (x lo hi mx:As)
 | bad
structure Bg where
 dst:Option Nat
 op:Wj
 g:Option (Nat×Bool)
inductive DP where
 | fin
 | take (i:Bg) (r:DP)
 | alt (held:List Bg) (i:Bg) (r rest:DP)
 | stop
 | dead
inductive IR where
 | skip
 | reg (l:List Bg)
 | draw (p:DP)
 | seq (a b:IR)
 | ite (c:As) (a b:IR)
 | block (id:Nat) (a:IR)
 | loop (a:IR)
 | exit (id:Nat)
 | ret
 | bad
def Fj (t:Nat):V→Bool
 | .own t' _ _ _ | .ptr t' _ | .optr t' _ _ _ | .nrow t' _ _ _ _=>t' != t
 | _=>true
def Dn (t:Nat):V→Bool
 | .clo _ caps=>caps.all (Fj t)
 | c=>Fj t c
def cellsL:List V→List V
 | []=>[]
 | v::r=>v.cells++cellsL r
def V.flat1:V→List V
 | .agg cs=>cs
 | .tup vs=>cellsL vs
 | v=>[v]
def V.flat:V→List V
 | .may _ v=>v.flat1
 | v=>v.flat1
def V.no (t:Nat) (v:V):Bool:=v.flat.all (Dn t)
def DZ (t:Nat) (v:V):V:=if v.no t then v else .undef
def DY (t:Nat) (v:V):V:=if Dn t v then v else .undef
def Ll (t:Nat):List (Nat×V)→List (Nat×V)
 | []=>[]
 | (a,v)::r=>(a,DZ t v)::Ll t r
def Ih (t:Nat):List V→List V
 | []=>[]
 | c::r=>DY t c::Ih t r
def Sw (t:Nat):List (Nat×List V)→List (Nat×List V)
 | []=>[]
 | (a,cs)::r=>(a,Ih t cs)::Sw t r
def St.drop (S:St) (t:Nat):St:={ env:=Ll t S.env,bx:=Sw t S.bx,cp:=S.cp }
def St.drops (S:St):List Nat→St
 | []=>S
 | t::r=>(S.drop t).drops r
def Dv (f:V→V):V→V
 | .agg cs=>.agg (cs.map f)
 | .tup vs=>.tup (vs.map fun | .agg cs=>.agg (cs.map f) | c=>f c)
 | .may b (.agg cs)=>.may b (.agg (cs.map f))
 | .may b (.tup vs)=>.may b (.tup (vs.map fun | .agg cs=>.agg (cs.map f) | c=>f c))
 | .may b c=>.may b (f c)
 | c=>f c
def Hq (f:V→V):List (Nat×V)→List (Nat×V)
 | []=>[]
 | (a,v)::r=>(a,Dv f v)::Hq f r
def Kw (f:V→V):List (Nat×List V)→List (Nat×List V)
 | []=>[]
 | (a,cs)::r=>(a,cs.map f)::Kw f r
def St.map (S:St) (f:V→V):St:={ env:=Hq f S.env,bx:=Kw f S.bx,cp:=S.cp }
abbrev Am:Nat:=1048576
def frz (t:Nat):V→V
 | .own t' off sz es=>if t'=t then .lst sz es else .own t' off sz es
 | c=>c
def St.freeze (S:St) (t:Nat):St:=if t<Am then (S.map (frz t)).drop t else S.drop t
def St.freezes (S:St):List Nat→St
 | []=>S
 | t::r=>(S.freeze t).freezes r
def Dg (off:Nat) (es:List (List V)) (at_:Nat) (ys:List (List V)):List (List V):=
 es.mapIdx fun i e=>if at_≤off+i then (ys[off+i-at_]?).getD e else e
def Ux (t sz at_:Nat) (ys:List (List V)):V→V
 | .own t' off sz' es=>if t'=t then (if sz'=sz then .own t' off sz' (Dg off es at_ ys) else .undef) else .own t' off sz' es
 | c=>c
def Bc:List V→List Nat
 | []=>[]
 | .own t _ _ _::r=>t::Bc r
 | _::r=>Bc r
def V.tags (v:V):List Nat:=Bc v.flat
def Nv:List V→List V
 | []=>[]
 | v::r=>v.flat++Nv r
def Gj:List (Nat×V)→List Nat
 | []=>[]
 | p::r=>p.2.tags++Gj r
def Mp (p:V→Bool):List V→Bool
 | []=>true
 | c::r=>p c&&Mp p r
def Bm:V→V
 | .own t _ sz es=>if t<Am then .lst sz es else .undef
 | .int k n=>.int k n
 | .bool b=>.bool b
 | .str s=>.str s
 | .lst sz es=>.lst sz es
 | .iptr cs=>.iptr cs
 | _=>.undef
def Ft:V→Bool
 | .int .. | .bool .. | .str .. | .lst .. | .own .. | .iptr .. => false
 | _=>true
def Mn (b:Bool):V→V→V
 | .bool x,.bool y=>.bool (bif b then x else y)
 | .int k x,.int k' y=>if k=k' then .int k (bif b then x else y) else if b then .int k x else .int k' y
 | x,y=>if b then x else y
def St.setBx (S:St) (t:Nat) (cs:List V):St:={ S with bx:=ins S.bx t cs }
def Hl (sz:Nat) (es:List (List V)):List (Nat×List V)→List (List V)
 | []=>es
 | (i,cs)::r=>Hl sz (es.set i cs) r
structure Md where
 args:List V
 bx:List (List V)
structure De where
 r:V
 bx:List (List V)
 rw:List (Nat×Nat×List (List V))
abbrev Av:=Nat→Md→De→Prop
def Ds (t:Nat):List Nat→Nat→Option Nat
 | [],_=>none
 | x::r,k=>if x=t then some k else Ds t r (k+1)
def Ba:List Nat→Bool
 | []=>true
 | x::r=>r.all (· != x)&&Ba r
def Jw:V→V
 | .int k n=>.int k n
 | .bool b=>.bool b
 | .str s=>.str s
 | .lst sz es=>.lst sz es
 | .iptr cs=>.iptr cs
 | _=>.undef
def Gq:V→V
 | .clo f caps=>.clo f (caps.map Jw)
 | c=>Jw c
def IL (XR:List Nat):V→V
 | .own t _ sz es=>if XR.contains t then .undef else .lst sz es
 | c=>Gq c
def St.cl (S:St) (XB XR:List Nat):Nat→V→V
 | 0,c=>IL XR c
 | n+1,.ptr t k=>if XB.contains t then .undef else match look S.bx t with
  | some cs=>.iptr ((cs.drop k).map (S.cl XB XR n))
  | none=>.undef
 | n+1,.clo f caps=>.clo f (caps.map (S.cl XB XR n))
 | _+1,c=>IL XR c
def Wt (LR LM:List Nat) (fz:Bool) (t off sz:Nat) (es:List (List V)):V:=
 match Ds t LR 0 with
 | some i=>.own (2097152+tg t i) off sz es
 | none=>match Ds t LM 0 with
  | some i=>bif Aq t then .undef else .own (1024000+i) off sz es
  | none=>if fz && !decide (t<Am) then .undef else .lst sz es
def St.liftP (S:St) (LB XR:List Nat) (fz:Bool) (n:Nat):V→V
 | .ptr t k=>match Ds t LB 0 with
  | some i=>.ptr (Am+i) k
  | none=>if fz then .undef else S.cl LB XR n (.ptr t k)
 | c=>Gq c
def St.liftC (S:St) (LB LR LM:List Nat) (fz:Bool):V→V
 | .own t off sz es=>Wt LR LM fz t off sz es
 | .clo f caps=>.clo f (caps.map (S.liftP LB (LR++LM) fz 2))
 | c=>S.liftP LB (LR++LM) fz 3 c
def mapW (f:V→V):V→V
 | .agg cs=>.agg (cs.map f)
 | c=>f c
def St.given (S:St):List Nat→List (List V)
 | []=>[]
 | t::r=>(look S.bx t).getD []::S.given r
def Kv (f:V→V):List (List V)→List (List V)
 | []=>[]
 | cs::r=>cs.map f::Kv f r
def St.give (S:St) (args:List V) (LB LR LM:List Nat) (fz:Bool):Md:=
 ⟨args.map (mapW (S.liftC LB LR LM fz)),Kv (S.liftC LB LR LM fz) (S.given LB)⟩
def Uw (X:List Nat):List Nat→List Nat
 | []=>[]
 | t::r=>if X.contains t then Uw X r else t::Uw X r
def St.frzTags (S:St) (args:List V) (LB LR LM:List Nat):List Nat:=Uw (LR++LM) (Bc (Nv args++(S.given LB).flatten))
def Jy (LR:List Nat) (t:Nat):Option Nat:=match LR[(t-2097152)%32]? with
 | some T=>bif Nat.beq t (2097152+tg T ((t-2097152)%32)) then some T else none
 | none=>none
def El (d nn:Nat) (LB LR:List Nat):V→V
 | .own t off sz es=>if t<64 then .own (64*d+t) off sz es else if t<2097152 then .undef else match Jy LR t with
  | some T=>.own T off sz es
  | none=>.undef
 | .ptr t k=>if t<nn then .ptr (64*d+t) k else if t<Am then .undef else match LB[t-Am]? with
  | some T=>.ptr T k
  | none=>.undef
 | c=>Gq c
def Rp (LR:List Nat) (rw:List (Nat×Nat×List (List V))):V→V
 | .own t off sz es=>match Ds t LR 0 with
  | none=>.own t off sz es
  | some i=>match rw[i]? with
   | some (o,s,es')=>if off=o∧sz=s∧es.length=es'.length then .own t off sz es' else .undef
   | none=>.undef
 | .nrow T j c sz es=>bif LR.contains T then .undef else .nrow T j c sz es
 | c=>c
def St.rows (S:St) (LR:List Nat) (rw:List (Nat×Nat×List (List V))):St:=
 match LR with
 | []=>S
 | _=>S.map (Rp LR rw)
def St.boxes (S:St) (f:V→V):List Nat→List (List V)→St
 | [],_=>S
 | T::r,cs::q=>(S.setBx T (cs.map f)).boxes f r q
 | T::r,[]=>(S.setBx T []).boxes f r []
def Mm (d:Nat):Nat→List Nat
 | 0=>[]
 | n+1=>Mm d n++[64*d+n]
def La (d:Nat):List Nat→List Nat
 | []=>[]
 | t::r=>if t<64 then (64*d+t)::La d r else La d r
def De.newR (t:De) (d:Nat):List Nat:=La d (Bc (t.r.flat++t.bx.flatten))
def De.newB (t:De) (d nb:Nat):List Nat:=Mm d (t.bx.length-nb)
def St.after (S:St) (args:List V) (d:Nat) (fz:Bool) (LB LR LM:List Nat) (t:De):St:=
 let S1:=if fz then S.freezes (S.frzTags args LB LR LM) else S
 let S2:=S1.drops (LM++(t.newR d++t.newB d LB.length))
 (S2.rows LR t.rw).boxes (El d (t.bx.length-LB.length) LB LR) (LB++t.newB d LB.length) t.bx
def Ez:V→Bool
 | .int .. | .bool .. | .str .. | .undef | .ptr .. => true
 | .own t _ _ es=>Aq t || es.all (·.all scal)
 | _=>false
def De.flat (t:De):Bool:=(t.r.flat++t.bx.flatten).all Ez&&t.rw.all fun p=>p.2.2.all (·.all scal)
def Kj:V→V
 | .own t _ sz es=>bif Aq t then .undef else .lst sz es
 | c=>Gq c
def Ku (n:Nat):List Nat→Bool
 | []=>true
 | t::r=>decide (t<n)&&Ku n r
def Hg (X:List Nat):List Nat→Bool
 | []=>true
 | t::r => !X.contains t&&Hg X r
def Za (C:Av) (f:Nat) (args:List V) (d:Option Nat) (S:St) (K:St→Prop):Prop:=
 Mp (fun v => !An v) args=true∧∃(LB LR LM:List Nat) (fz:Bool) (t:De),
  (Ba LB=true∧Ba (LR++LM)=true∧Ku Am LM=true∧LB.all (fun T=>(look S.bx T).isSome)=true) ∧
  (Ku 33 [t.bx.length-LB.length,LM.length,LR.length]=true∧Hg (t.newB (d.getD 0) LB.length) LB=true∧Hg (t.newR (d.getD 0)) LR=true) ∧
  (fz=false→t.flat=true)∧C f (S.give args LB LR LM fz) t ∧
  K ((S.after args (d.getD 0) fz LB LR LM t).put d (Dv (El (d.getD 0) (t.bx.length-LB.length) LB LR) t.r))
def aM (C:Av) (f:Nat) (args:List V) (d:Option Nat) (g:Bool) (S:St) (K:St→Prop):Prop:=
 (g=true→Mp (fun v => !An v) args=true)∧∃(fz:Bool) (r:V),(g=true→C f (S.give args [] [] [] fz) ⟨r,[],[]⟩) ∧
  (fz=false→r.flat.all Ez=true)∧(fz=true→Bc (Nv args)=[])∧K (S.put d (.may g (Dv Kj r)))
def Mg:V→Bool→Option Bool
 | .bool b,want=>some (b==want)
 | .may b' (.bool b),want=>some (b'&&(b==want))
 | _,_=>none
def dD:V→Option (List (List V))
 | .lst (_+1) es=>some es
 | .own _ _ (_+1) es=>some es
 | _=>none
def Ic:V→Option (Nat×List (List V))
 | .lst sz es=>some (sz,es)
 | .own t _ sz es=>bif Aq t then none else some (sz,es)
 | .str s=>some (1,Hk s)
 | _=>none
def Ro:V→Bool
 | .own t 0 (_+1) es=>decide (t<Am) && !Aq t&&es.all (·.all scal)
 | _=>false
def Rq (t sz at_:Nat) (ys:List (List V)):V→V
 | .nrow t' j c s es=>if t'=t then .undef else .nrow t' j c s es
 | c=>Ux t sz at_ ys c
def Ys (off j c:Nat) (x:V) (es:List (List V)):List (List V):=es.mapIdx fun i e=>if off+i=j then e.set c x else e
def Xf (T s0 j c:Nat) (x:V):V→V
 | .own t off sz es=>if t=T then (if sz=s0 then .own t off sz (Ys off j c x es) else .undef) else .own t off sz es
 | .nrow t j' c' sz es=>if t=T then .undef else .nrow t j' c' sz es
 | v=>v
def bM (T j c sz:Nat) (es:List (List V)):List V→List V→Prop
 | [],[]=>True
 | v::r,u::q=>((v = .nrow T j c sz es∧u = .own 2097152 0 sz es)∨(u=v∧scal v=true∧An v=false))∧bM T j c sz es r q
 | _,_=>False
def mE (C:Av) (f:Nat) (args:List V) (d:Option Nat) (S:St) (K:St→Prop):Prop:=
 ∃(T s0 j c sz:Nat) (es es':List (List V)) (us:List V) (r:V),bM T j c sz es args us∧sz≠0∧es'.length=es.length∧(es'.all fun e=>Nat.beq e.length sz&&e.all scal)=true∧scal r=true∧An r=false∧Aq T=true ∧
  (∃off es0,S.find T=some (off,es0)∧off≤j∧(es0.getD (j-off) []).length=s0∧(es0.getD (j-off) [])[c]? = some (.lst sz es)) ∧
  C f ⟨us,[]⟩ ⟨r,[],[(0,sz,es')]⟩∧K ((S.map (Xf T s0 j c (.lst sz es'))).put d r)
def Fy (rd:As→V) (u:PU) (l:List (Nat×Int)):Option Int:=
 match u with
 | .mv x=>Jb l x
 | .slice x lo _ _=>match Jb l x with
  | some c=>match rd x,Gd (lo.map rd) with
   | .own ..,some l=>some (c-l.getD 0)
   | _,_=>none
  | none=>none
 | _=>none
abbrev Ki (S:St) (rd:As→V) (u:PU):Option Int:=Fy rd u S.cp
def Dr (x:As) (n:Nat) (l:List (Nat×Int)):Option Int:=
 match Jb l x with
 | some c=>if (n:Int)≤Jk c then some c else none
 | none=>none
def Pl (C:Av) (d:Option Nat) (op:Wj) (S:St) (K:St→Prop):Prop:=
 match op with
 | .p o=>Ax (fun x=>Ag true (S.val x)) o.opds∧match pu S (fun x=>Ad (S.val x)) o with
  | some (φ,v)=>φ∧K (S.putC d v (Fy (fun x=>Ad (S.val x)) o))
  | none=>False
 | .pick c a b=>Ag true (S.val c)∧match Ad (S.val c) with
  | .bool cb=>Ag cb (S.val a)∧Ag (!cb) (S.val b)∧K (S.put d (Mn cb (Ad (S.val a)) (Ad (S.val b))))
  | _=>False
 | .box x=>match d with
  | some d=>let S1:=S.drop (64*d)
   Ag true (S1.val x)∧An (Ad (S1.val x))=false∧K ((S1.setBx (64*d) (Ad (S1.val x)).cells).put (some d) (.ptr (64*d) 0))
  | none=>False
 | .alloc zero=>match d with
  | some d=>K (((S.drop (64*d)).setBx (64*d) zero).put (some d) (.ptr (64*d) 0))
  | none=>False
 | .store x v n=>Ag true (S.val x)∧Ag true (S.val v) ∧
  let cs:=(Ad (S.val v)).cells
  An (Ad (S.val v))=false∧cs.length=n∧match Ad (S.val x) with
  | .ptr t k=>match look S.bx t with
   | some bs=>k+n≤bs.length∧K ((S.setBx t (Bd bs k cs)).put d .undef)
   | none=>False
  | .optr t sz j k=>match S.find t with
   | some (off,es)=>off≤j∧j<off+es.length∧k+n≤sz∧(es.getD (j-off) []).length=sz ∧
    let S1:=S.freezes (Ad (S.val v)).tags
    ((Aq t=false∧cs.all (fun c => !Ft c)=true∧(Ad (S.val v)).tags.all (· != t)=true ∧
     K ((S1.map (Ux t sz j [Bd (es.getD (j-off) []) k (cs.map Bm)])).put d .undef)) ∨
    (Aq t=true∧cs.all (fun c=>scal c || (decide (t<Am)&&Ro c))=true∧Ba (Ad (S.val v)).tags=true ∧
     K (((S.drops (Ad (S.val v)).tags).map (Rq t sz j [Bd (es.getD (j-off) []) k (cs.map Bm)])).put d .undef)))
   | none=>False
  | _=>False
 | .mkS sz zero len parts=>match d with
  | some d=>
   let vs:=parts.map fun p=>(p.1,Ad (S.val p.2))
   Ax (fun p=>Ag true (S.val p.2)) parts ∧
   Ax (fun p=>p.1<len∧p.2.cells.length=sz∧p.2.cells.all (fun c => !Ft c)=true) vs ∧
   (K (((S.freezes (Gj vs)).drop (64*d)).put (some d)
    (.own (64*d) 0 sz (Hl sz (List.replicate len zero) (vs.map fun p=>(p.1,p.2.cells.map Bm))))) ∨
   ∃x,parts=[(0,x)]∧len=1∧(Ad (S.val x)).cells.all (fun c=>scal c || Ro c)=true∧Ba (Ad (S.val x)).tags=true ∧
    K ((((S.drop (64*d+32)).put (some d) (.own (64*d+32) 0 sz [List.replicate sz .undef])).drops (Ad (S.val x)).tags).map (Rq (64*d+32) sz 0 [(Ad (S.val x)).cells.map Bm])))
  | none=>False
 | .nilS sz=>match d with
  | some d=>K ((S.drop (64*d)).put (some d) (.own (64*d) 0 sz []))
  | none=>False
 | .make sz bytes zero l c=>Ag true (S.val l)∧Ag true (S.val c)∧match d,Ad (S.val l),Ad (S.val c) with
  | some d,.int _ l,.int _ c=>0≤l∧l=c∧c*bytes≤140737488355328 ∧
   (K ((S.drop (64*d)).put (some d) (.own (64*d) 0 sz (List.replicate l.toNat zero))) ∨
    zero.all HX=true∧K ((S.drop (64*d+32)).put (some d) (.own (64*d+32) 0 sz (List.replicate l.toNat zero))))
  | _,_,_=>False
 | .app sz bytes x y=>Ag true (S.val x)∧Ag true (S.val y)∧match Ad (S.val x),Ic (Ad (S.val y)) with
  | .own t off s es,some (s',ys)=>t<Am∧off=0∧s=sz∧s'=sz∧(es.length+ys.length)*bytes≤140737488355328∧Aq t=false ∧
   K ((S.drop t).putC d (.own t 0 sz (es++ys)) (Dr x (es.length+ys.length)))
  | .own t off s es,none=>match Ad (S.val y) with
   | .own t2 off2 s2 ys=>t<Am∧off=0∧s=sz∧t2<Am∧off2=0∧s2=sz∧t2≠t∧(es.length+ys.length)*bytes≤140737488355328∧Aq t=true∧Aq t2=true ∧
    K (((S.drop t).drop t2).putC d (.own t 0 sz (es++ys)) (Dr x (es.length+ys.length)))
   | _=>False
  | _,_=>False
 | .appz sz bytes zero x n=>Ag true (S.val x)∧Ag true (S.val n)∧match Ad (S.val x),Ad (S.val n) with
  | .own t off s es,.int _ l=>t<Am∧off=0∧s=sz∧0≤l∧((es.length:Int)+l)*bytes≤140737488355328∧Aq t=false ∧
   (K ((S.drop t).putC d (.own t 0 sz (es++List.replicate l.toNat zero)) (Dr x (es.length+l.toNat))) ∨
    ∃d' c,d=some d'∧S.capOf x=some c∧Fd≤c∧c-Fd<es.length+l∧K ((S.drop (64*d')).put d (.own (64*d') 0 sz (es++List.replicate l.toNat zero))))
  | _,_=>False
 | .copy sz x y=>Ag true (S.val x)∧Ag true (S.val y)∧match Ad (S.val x),Ic (Ad (S.val y)) with
  | .own t off s es,some (s',ys)=>s=sz∧s'=sz∧Aq t=false ∧
   K ((S.map (Ux t sz off (ys.take es.length))).put d (.int .i64 (min ys.length es.length:Nat)))
  | _,_=>False
 | .toBytes x=>Ag true (S.val x)∧match Ad (S.val x) with
  | .str s=>K (S.put d (.lst 1 (Hk s)))
  | _=>False
 | .call f args=>Ax (fun x=>Ag true (S.val x)) args∧(Za C f (args.map fun x=>Ad (S.val x)) d S K∨mE C f (args.map fun x=>Ad (S.val x)) d S K)
 | .callv x args=>Ag true (S.val x)∧Ax (fun x=>Ag true (S.val x)) args∧match Ad (S.val x) with
  | .clo f caps=>Za C f (args.map (fun x=>Ad (S.val x))++caps) d S K
  | _=>False
 | .isnil x ne=>Ag true (S.val x)∧match dD (Ad (S.val x)) with
  | some es=>∀b:Bool,(b=true→es=[])→K (S.put d (.bool (if ne then !b else b)))
  | none=>False
 | .mkM=>match d with
  | some d=>K ((S.drop (64*d)).put (some d) (.own (64*d) 0 0 [[.tup []]]))
  | none=>False
 | .mset x k v=>Ag true (S.val x)∧Ag true (S.val k)∧Ag true (S.val v)∧match Ad (S.val x),Ad (S.val k),Ad (S.val v) with
  | .own t _ 0 ([.tup []]::_),.int .i64 n,.bool b=>K ((S.map (dW t n b)).put d .undef)
  | _,_,_=>False
 | .cap x=>Ag true (S.val x)∧match Ad (S.val x),x with
  | .own _ off sz es,.t n=>sz≠0∧∀c:Nat,es.length≤c→(off=0→c≤9223372036854775807)→(∀c0,S.capOf x=some c0→Fd≤c0→(c:Int)=c0-Fd)→K (St.put { S with cp:=Hy n (fun _=>some (Fd+c)) S.cp } d (.int .i64 c))
  | _,_=>False
 | .clear sz zero x=>Ag true (S.val x)∧match Ad (S.val x) with
  | .own t off s es=>s=sz∧Aq t=false∧K ((S.map (Ux t sz off (List.replicate es.length zero))).put d .undef)
  | _=>False
 | .chk3 x lo hi mx=>(Ag true (S.val x)∧Ag true (S.val lo)∧Ag true (S.val hi)∧Ag true (S.val mx))∧match dD (Ad (S.val x)),Ad (S.val lo),Ad (S.val hi),Ad (S.val mx) with
  | some es,.int _ a,.int _ b,.int _ c=>0≤a∧a≤b∧b≤c∧c≤es.length∧K (S.put d .undef)
  | _,_,_,_=>False
 | .bad=>False
def Cp (S:St) (op:Wj) (v:V):Prop:=
 match op with
 | .p o=>Ax (fun x=>Ag true (S.val x)) o.opds∧∃ψ,pu S (fun x=>Ad (S.val x)) o=some (ψ,v)∧ψ
 | .pick c a b=>Ag true (S.val c)∧∃cb,Ad (S.val c) = .bool cb∧Ag cb (S.val a)∧Ag (!cb) (S.val b)∧v=Mn cb (Ad (S.val a)) (Ad (S.val b))
 | _=>False
def LV (C:Av) (d:Option Nat) (op:Wj) (g:Bool) (S:St) (K:St→Prop):Prop:=
 match op with
 | .p o=>∃u,(g=true→Cp S (.p o) u)∧K (S.put d (.may g u))
 | .pick c a b=>∃u,(g=true→Cp S (.pick c a b) u)∧K (S.put d (.may g u))
 | .call f args=>(Ax (fun x=>Ag g (S.val x)) args∧aM C f (args.map fun x=>Ad (S.val x)) d g S K)∨((g=true→Pl C d (.call f args) S K)∧(g=false→K (S.put d .undef)))
 | .callv x args=>(Ag g (S.val x)∧Ax (fun x=>Ag g (S.val x)) args∧match Ad (S.val x) with
  | .clo f caps=>aM C f (args.map (fun x=>Ad (S.val x))++caps) d g S K
  | _=>False)∨((g=true→Pl C d (.callv x args) S K)∧(g=false→K (S.put d .undef)))
 | op=>(g=true→Pl C d op S K)∧(g=false→K (S.put d .undef))
def Bw (C:Av) (i:Bg) (S:St) (K:St→Prop):Prop:=
 match i.g with
 | none=>Pl C i.dst i.op S K
 | some (gs,want)=>match Mg (S.val (.t gs)) want with
  | some g=>LV C i.dst i.op g S K
  | none=>False
def AT (S:St) (k:Nat) (c:Int):Prop:=
 (∃c',look S.cp k=some c'∧(c=c'∨c<Fd∧c≤Jk c'))∨(∃t off sz es,look S.env k=some (.own t off sz es)∧es≠[]∧c≤es.length∧c<Fd∧sz≠0) ∨
  ∃k' c' t sz off es off' es',look S.cp k'=some c'∧look S.env k'=some (.own t off' sz es')∧es'≠[]∧look S.env k=some (.own t off sz es)∧es≠[]∧sz≠0 ∧
   (c<Fd∧c+off≤Jk c'+off'∨c=c'∧off=off')
def Le (S S':St):Prop:=(∀t v,look S'.env t=some v→look S.env t=some v)∧(∀t cs,look S'.bx t=some cs→look S.bx t=some cs)∧(∀k c,look S'.cp k=some c→AT S k c)
def Uq (S S':St):Prop:=(∀t,look S.env t=look S'.env t)∧∀k,look S.cp k=look S'.cp k
def Nj (t t' x:Nat):Nat:=if x=t then t' else if x=t' then t else x
def mZ (t t':Nat):V→V
 | .own x off sz es=>bif (Aq x==Aq (Nj t t' x)) || es.isEmpty then .own (Nj t t' x) off sz es else .undef
 | .optr x sz j k=>bif Aq x==Aq (Nj t t' x) then .optr (Nj t t' x) sz j k else .undef
 | .nrow x j c sz es=>bif Aq x==Aq (Nj t t' x) then .nrow (Nj t t' x) j c sz es else .undef
 | c=>c
def St.swap (S:St) (t t':Nat):St:=S.map (mZ t t')
def St.swaps (S:St):List (Nat×Nat)→St
 | []=>S
 | (t,t')::r=>(S.swap t t').swaps r
def aI:List (Nat×Nat)→Bool
 | []=>true
 | (t,t')::r=>decide (t<Am)&&decide (t'<Am)&&aI r
inductive Fg:St→St→Prop
 | le {S S':St} (h:Le S S'):Fg S S'
 | fz (S:St) (ts:List Nat):Fg S (S.freezes ts)
 | sw (S:St) (rs:List (Nat×Nat)) (h:aI rs=true):Fg S (S.swaps rs)
 | trans {S S' S'':St} (h1:Fg S S') (h2:Fg S' S''):Fg S S''
def eM (C:Av):List Bg→(St→Prop)→St→Prop
 | [],K,S=>K S
 | i::r,K,S=>∃S1,Fg S S1∧Bw C i S1 (eM C r K)
def Bs (i:Bg) (S:St):Prop:=
 match i.op with
 | .p (.load x _ _)=>match Ad (S.val x) with
  | .optr .. => False
  | _=>True
 | _=>True
def Dq (C:Av) (X:List Bg) (S:St):Prop:=Ax (fun j=>Bw C j S (fun S'=>Uq S' S)) X
def Gl (C:Av) (X l:List Bg) (S:St):Prop:=Ax (fun j=>(Bs j S∨j∈X)∧Bw C j S (fun S'=>Uq S' S)) l
def WD (C:Av):DP→List Bg→(St→Prop)→St→Prop
 | .fin,_,K,S=>K S
 | .take i r,X,K,S=>(Bs i S∧Bw C i S (fun S'=>Dq C X S'∧WD C r X K S'))∨Bw C i S (fun S'=>Dq C (i::X) S'∧WD C r (i::X) K S')
 | .alt held i r rest,X,K,S=>Bw C i S (fun S'=>∃S1,Fg S' S1∧∃X',Gl C X' held S1∧Dq C X' S1∧WD C r X' K S1)∧WD C rest X K S
 | .stop,_,_,_=>True
 | .dead,_,_,_=>False
inductive Ex where
 | normal
 | exit (id:Nat)
 | ret
def W (C:Av):IR→(Ex→St→Prop)→St→Prop
 | .skip,Q,S=>Q .normal S
 | .reg l,Q,S=>eM C l (Q .normal) S
 | .draw p,Q,S=>WD C p [] (Q .normal) S
 | .seq a b,Q,S=>W C a (fun e S'=>match e with | .normal=>∃S1,Fg S' S1∧W C b Q S1 | e=>Q e S') S
 | .ite c a b,Q,S=>Ag true (S.val c)∧match Ad (S.val c) with
  | .bool cb=>(cb=true→W C a Q S)∧(cb=false→W C b Q S)
  | _=>False
 | .block id a,Q,S=>W C a (fun e S'=>match e with | .exit id'=>if id'=id then Q .normal S' else Q (.exit id') S' | e=>Q e S') S
 | .loop a,Q,S=>∃(I:St→Prop) (μ:St→Nat),(∃S1,Fg S S1∧I S1)∧∀S,I S →
   W C a (fun e S'=>match e with | .normal=>∃S'',Fg S' S''∧I S''∧μ S''<μ S | e=>Q e S') S
 | .exit id,Q,S=>Q (.exit id) S
 | .ret,Q,S=>Q .ret S
 | .bad,_,_=>False
end Go.Ev
