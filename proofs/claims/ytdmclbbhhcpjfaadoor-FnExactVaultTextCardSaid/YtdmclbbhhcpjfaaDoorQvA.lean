/- A small abstract machine over values: values, states, instructions, and the predicate transformer W. No memory, no world. -/
import GoSem.Core.Code
import GoSem.Core.View
import GoSem.Op.String
import Derived.Laws.Externs
set_option linter.all false
namespace Go.Ev
inductive V where
 | int (k:IntKind) (n:Int)
 | bool (b:Bool)
 | str (s:List UInt8)
 | lst (sz:Nat) (es:List (List V))
 | own (tag off sz:Nat) (es:List (List V))
 | nrow (T j c sz:Nat) (es:List (List V))
 | ptr (tag k:Nat)
 | iptr (cs:List V)
 | optr (tag sz j k:Nat)
 | agg (cs:List V)
 | tup (vs:List V)
 | clo (f:Nat) (caps:List V)
 | may (b:Bool) (v:V)
 | undef
 deriving Inhabited
def Ax (t:Nat):Bool:=Nat.beq (t / 32%2) 1
def tg (t e:Nat):Nat:=bif Ax t then e+32 else e
def look {α:Type}:List (Nat×α)→Nat→Option α
 | [],_=>none
 | (a,x)::r,t=>if a=t then some x else look r t
def ins {α:Type} (l:List (Nat×α)) (d:Nat) (v:α):List (Nat×α):=(d,v)::l
structure St where
 env:List (Nat×V)
 bx:List (Nat×List V)
 
 cp:List (Nat×Int):=[]
inductive Av where
 | t (n:Nat)
 | c (v:V)
def St.val (S:St):Av→V
 | .t n=>(look S.env n).getD .undef
 | .c v=>v
abbrev Dr:Int:=4611686018427387904
def Lb (c:Int):Int:=if c<Dr then c else c-Dr
def Iy (l:List (Nat×Int)):Av→Option Int
 | .t n=>look l n
 | .c _=>none
abbrev St.capOf (S:St) (x:Av):Option Int:=Iy S.cp x
def Ht (d:Nat) (f:List (Nat×Int)→Option Int):List (Nat×Int)→List (Nat×Int)
 | []=>match f [] with
  | some c=>[(d,c)]
  | none=>[]
 | p::r=>match f (p::r) with
  | some c=>(d,c)::(p::r).filter fun p=>p.1 != d
  | none=>(p::r).filter fun p=>p.1 != d
def St.put (S:St) (d:Option Nat) (v:V):St:=
 match d with
 | some d=>{ env:=ins S.env d v,bx:=S.bx,cp:=Ht d (fun _=>none) S.cp }
 | none=>S
def St.putC (S:St) (d:Option Nat) (v:V) (f:List (Nat×Int)→Option Int):St:=
 match d with
 | some d=>{ env:=ins S.env d v,bx:=S.bx,cp:=Ht d f S.cp }
 | none=>S
def Ad:V→V
 | .may _ v=>v
 | v=>v
def Ag (g:Bool):V→Prop
 | .may b _=>g=true→b=true
 | _=>True
def Ba {α:Type} (p:α→Prop):List α→Prop
 | []=>True
 | x::r=>p x∧Ba p r
def V.cells:V→List V
 | .agg cs=>cs
 | v=>[v]
inductive PU where
 | mv (x:Av)
 | bin (op:BinOp) (x y:Av)
 | eqs (ne:Bool) (ks:List Nat) (x y:Av)
 | un (op:UnOp) (x:Av)
 | conv (k:IntKind) (x:Av)
 | load (x:Av) (n:Nat) (ag:Bool)
 | fieldA (x:Av) (off:Nat)
 | idxA (x i:Av) (sz:Nat)
 | idxArr (x i:Av) (len sz:Nat)
 | field (x:Av) (off n:Nat) (ag:Bool)
 | idxStr (x i:Av)
 | sliceStr (x:Av) (lo hi:Option Av)
 | slice (x:Av) (lo hi:Option Av) (sz:Nat)
 | len (x:Av)
 | lenS (x:Av)
 | strc (x:Av)
 | binB (op:BinOp) (x y:Av)
 | mn (x y:Av)
 | mx (x y:Av)
 | ext (x:Av) (i:Nat)
 | build (zero:List V) (parts:List (Nat×Nat×Av))
 | fn (f:Nat) (caps:List Av)
 | nilc (x:Av)
 | toStr (x:Av)
 | xbyte (x c:Av)
 | scmp (x y:Av)
 | ovl (x y:Av)
 | mget (x k:Av)
 | chr (x:Av)
def PU.opds:PU→List Av
 | .mv x | .un _ x | .conv _ x | .load x _ _ | .fieldA x _ | .field x _ _ _ | .len x | .lenS x | .chr x | .strc x | .ext x _ | .nilc x | .toStr x=>[x]
 | .xbyte x y | .scmp x y | .ovl x y | .mget x y | .bin _ x y | .binB _ x y | .eqs _ _ x y | .idxA x y _ | .idxArr x y _ _ | .idxStr x y | .mn x y | .mx x y=>[x,y]
 | .sliceStr x lo hi | .slice x lo hi _=>x::(lo.toList++hi.toList)
 | .build _ ps=>ps.map (·.2.2)
 | .fn _ cs=>cs
def Wg (op:BinOp) (k:IntKind) (a b:Int):Option (Prop×V):=
 match op with
 | .add=>some (True,.int k (k.wrap (a+b)))
 | .sub=>some (True,.int k (k.wrap (a-b)))
 | .mul=>some (True,.int k (k.wrap (a*b)))
 | .quo=>some (b≠0,.int k (k.wrap (a.tdiv b)))
 | .rem=>some (b≠0,.int k (a.tmod b))
 | .and=>some (True,.int k (k.wrap (BitVec.ofInt k.bits a &&& BitVec.ofInt k.bits b).toNat))
 | .or=>some (True,.int k (k.wrap (BitVec.ofInt k.bits a ||| BitVec.ofInt k.bits b).toNat))
 | .xor=>some (True,.int k (k.wrap (BitVec.ofInt k.bits a ^^^ BitVec.ofInt k.bits b).toNat))
 | .andNot=>some (True,.int k (k.wrap (BitVec.ofInt k.bits a &&& ~~~ BitVec.ofInt k.bits b).toNat))
 | .eql=>some (True,.bool (a==b))
 | .neq=>some (True,.bool (a != b))
 | .lss=>some (True,.bool (decide (a<b)))
 | .leq=>some (True,.bool (decide (a≤b)))
 | .gtr=>some (True,.bool (decide (a>b)))
 | .geq=>some (True,.bool (decide (a≥b)))
 | _=>none
def Sg (op:BinOp) (k:IntKind) (a b:Int):Option (Prop×V):=
 match op with
 | .shl=>some (0≤b,.int k (k.wrap (a*2^min b.toNat k.bits)))
 | .shr=>some (0≤b,.int k (a.fdiv (2^min b.toNat k.bits)))
 | _=>none
def Wu (op:BinOp) (a b:List UInt8):Option (Prop×V):=
 match op with
 | .add=>some (a.length+b.length≤9223372036854775807,.str (a++b))
 | .eql=>some (True,.bool (a==b))
 | .neq=>some (True,.bool !(a==b))
 | .lss=>some (True,.bool (Op.bytesLess a b))
 | .leq=>some (True,.bool (Op.bytesLess a b || a==b))
 | .gtr=>some (True,.bool !(Op.bytesLess a b || a==b))
 | .geq=>some (True,.bool !(Op.bytesLess a b))
 | _=>none
def Db:List Nat→List V→List V→Option Bool
 | [],[],[]=>some true
 | 0::ks,.int k a::r,.int k' b::s=>if k=k' then (Db ks r s).map ((a==b)&&·) else none
 | 1::ks,.bool a::r,.bool b::s=>(Db ks r s).map ((a==b)&&·)
 | 2::ks,.str a::r,.str b::s=>(Db ks r s).map ((a==b)&&·)
 | _,_,_=>none
def Gh (tag:Nat):List V→Option (Nat×List (List V))
 | []=>none
 | .own t off sz es::r=>if t=tag∧sz≠0 then some (off,es) else Gh tag r
 | _::r=>Gh tag r
def Lr (tag:Nat) (env:List (Nat×V)):List (Nat×V)→Option (Nat×List (List V))
 | []=>none
 | (x,_)::r=>match look env x with
  | some v=>match Gh tag v.cells with
   | some y=>some y
   | none=>Lr tag env r
  | none=>Lr tag env r
def Ox (tag:Nat) (bx:List (Nat×List V)):List (Nat×List V)→Option (Nat×List (List V))
 | []=>none
 | (x,_)::r=>match look bx x with
  | some cs=>match Gh tag cs with
   | some y=>some y
   | none=>Ox tag bx r
  | none=>Ox tag bx r
def St.find (S:St) (tag:Nat):Option (Nat×List (List V)):=
 match Lr tag S.env S.env with
 | some x=>some x
 | none=>Ox tag S.bx S.bx
def Hl (ag:Bool) (n:Nat) (cs:List V):Option V:=
 if ag then some (.agg (cs.take n)) else cs.head?
def Bi (cs:List V) (off:Nat):List V→List V
 | []=>cs
 | v::r=>Bi (cs.set off v) (off+1) r
def Hd (s:List UInt8):List (List V):=s.map fun b=>[V.int .u8 (b.toNat:Int)]
def Tx:List (List V)→List UInt8
 | [.int _ n]::r=>UInt8.ofNat n.toNat::Tx r
 | _::r=>0::Tx r
 | []=>[]
def Ao:V→Bool
 | .undef | .tup .. | .may .. => true
 | _=>false
def Mr:List V→Bool
 | []=>true
 | .int .. :: r | .bool .. :: r | .str .. :: r | .lst .. :: r | .iptr .. :: r | .ptr .. :: r=>Mr r
 | _=>false
def scal:V→Bool
 | .int .. | .bool .. | .str .. | .undef=>true
 | _=>false
def JH:V→Bool
 | .lst _ []=>true
 | c=>scal c
def iH (T j k:Nat):V→V
 | .lst sz es=>.nrow T j k sz es
 | c=>if scal c then c else .undef
def Lf (T j:Nat):Nat→List V→List V
 | _,[]=>[]
 | k,c::r=>iH T j k c::Lf T j (k+1) r
def EX (T j k:Nat) (cs:List V):List V:=bif Ax T then Lf T j k cs else cs
def Fq:Option V→Option (Option Int)
 | none=>some none
 | some (.int _ n)=>some (some n)
 | _=>none
def Zw (sz n:Nat):List (List V):=List.replicate n (List.replicate sz .undef)
def dY (s:List UInt8) (n:Int):Int:=Go.firstIdx ⟨s.toArray⟩ n.toNat.toUInt8
def IJ (a b:List UInt8):Int:=Extern.BytealgCompare.cmp ⟨a.toArray⟩ ⟨b.toArray⟩
def Jw (n:Int):List (List V)→Bool
 | [.int _ k,.bool b]::r=>if k=n then b else Jw n r
 | _::r=>Jw n r
 | []=>false
def Ob (n:Int) (b:Bool):List (List V)→List (List V)
 | [.int q k,.bool c]::r=>if k=n then [.int q k,.bool b]::r else [.int q k,.bool c]::Ob n b r
 | e::r=>e::Ob n b r
 | []=>[[.int .i64 n,.bool b]]
def iC (n:Int) (b:Bool):List (List V)→List (List V)
 | [.tup []]::r=>[.tup []]::Ob n b r
 | es=>es
def Zs (t:Nat) (n:Int) (b:Bool):V→V
 | .own t' off sz es=>if t'=t then .own t' off sz (iC n b es) else .own t' off sz es
 | c=>c
def pu (S:St) (rd:Av→V):PU→Option (Prop×V)
 | .mv x=>some (True,rd x)
 | .bin op x y=>match rd x,rd y with
  | .int k a,.int k' b=>match op with
   | .shl | .shr=>Sg op k a b
   | _=>if k=k' then Wg op k a b else none
  | .str a,.str b=>Wu op a b
  | _,_=>none
 | .binB op x y=>match rd x,rd y with
  | .bool a,.bool b=>match op with
   | .eql=>some (True,.bool (a==b))
   | .neq=>some (True,.bool !(a==b))
   | _=>none
  | _,_=>none
 | .eqs ne ks x y=>match rd x,rd y with
  | .agg cs,.agg ds=>match Db ks cs ds with
   | some b=>some (True,.bool (if ne then !b else b))
   | none=>none
  | _,_=>none
 | .un op x=>match op,rd x with
  | .neg,.int k n=>some (True,.int k (k.wrap (0-n)))
  | .xor,.int k n=>some (True,.int k (k.wrap (BitVec.ofInt k.bits (if k.signed then -1 else k.max) ^^^ BitVec.ofInt k.bits n).toNat))
  | .not,.bool b=>some (True,.bool !b)
  | _,_=>none
 | .conv k x=>match rd x with
  | .int _ n=>some (True,.int k (k.wrap n))
  | _=>none
 | .load x n ag=>match rd x with
  | .ptr tag k=>match look S.bx tag with
   | some cs=>match Hl ag n (cs.drop k) with
    | some v=>some (k+n≤cs.length,v)
    | none=>none
   | none=>none
  | .iptr cs=>match Hl ag n cs with
   | some v=>some (n≤cs.length,v)
   | none=>none
  | .optr tag sz j k=>match S.find tag with
   | some (off,es)=>match Hl ag n (EX tag j k ((es.getD (j-off) []).drop k)) with
    | some v=>some (off≤j∧j<off+es.length∧k+n≤sz∧(es.getD (j-off) []).length=sz,v)
    | none=>none
   | none=>none
  | _=>none
 | .fieldA x off=>match rd x with
  | .ptr tag k=>some (True,.ptr tag (k+off))
  | .iptr cs=>some (off≤cs.length,.iptr (cs.drop off))
  | .optr tag sz j k=>some (True,.optr tag sz j (k+off))
  | _=>none
 | .idxA x i sz=>match rd x,rd i with
  | .lst s es,.int _ n=>some (s=sz∧0≤n∧n<es.length,.iptr (es.getD n.toNat []))
  | .own tag off s es,.int _ n=>some (s=sz∧0≤n∧n<es.length,.optr tag sz (off+n.toNat) 0)
  | _,_=>none
 | .idxArr x i len sz=>match rd x,rd i with
  | .ptr tag k,.int _ n=>some (0≤n∧n<len,.ptr tag (k+n.toNat*sz))
  | .iptr cs,.int _ n=>some (0≤n∧n<len∧n.toNat*sz≤cs.length,.iptr (cs.drop (n.toNat*sz)))
  | _,_=>none
 | .field x off n ag=>match rd x with
  | .agg cs=>match Hl ag n (cs.drop off) with
   | some v=>some (off+n≤cs.length,v)
   | none=>none
  | _=>none
 | .idxStr x i=>match rd x,rd i with
  | .str s,.int _ n=>some (0≤n∧n<s.length,.int .u8 ((s.getD n.toNat 0).toNat:Int))
  | _,_=>none
 | .sliceStr x lo hi=>match rd x,Fq (lo.map rd),Fq (hi.map rd) with
  | .str s,some l,some h=>
   some (0≤l.getD 0∧l.getD 0≤h.getD s.length∧h.getD s.length≤s.length,
    .str ((s.take (h.getD s.length).toNat).drop (l.getD 0).toNat))
  | _,_,_=>none
 | .slice x lo hi sz=>match rd x,Fq (lo.map rd),Fq (hi.map rd) with
  | .lst s es,some l,some h=>
   some (s=sz∧0≤l.getD 0∧l.getD 0≤h.getD es.length∧h.getD es.length≤es.length,
    .lst sz ((es.take (h.getD es.length).toNat).drop (l.getD 0).toNat))
  | .own tag off s es,some l,some h=>
   some (s=sz∧0≤l.getD 0∧l.getD 0≤h.getD es.length∧(h.getD es.length≤es.length∨(off=0∧0<sz∧∃c,S.capOf x=some c∧h.getD es.length≤Lb c)),
    .own tag (off+(l.getD 0).toNat) sz (((es++Zw sz ((h.getD es.length).toNat-es.length)).take (h.getD es.length).toNat).drop (l.getD 0).toNat))
  | _,_,_=>none
 | .lenS x=>match rd x with
  | .str s=>some (True,.int .i64 s.length)
  | _=>none
 | .strc x=>match rd x with
  | .str s=>some (True,.str s)
  | _=>none
 | .len x=>match rd x with
  | .lst s es=>some (s≠0,.int .i64 es.length)
  | .own _ _ s es=>some (s≠0,.int .i64 es.length)
  | _=>none
 | .xbyte x y=>match rd x,rd y with
  | .str s,.int .u8 n=>some (True,.int .i64 (dY s n))
  | _,_=>none
 | .scmp x y=>match rd x,rd y with
  | .str a,.str b=>some (True,.int .i64 (IJ a b))
  | _,_=>none
 | .ovl x y=>match rd x,rd y with
  | .own t _ s es,.own t' _ s' es'=>some (t≠t'∧(es≠[]∧es'≠[])∧s≠0∧s'≠0,.bool false)
  | _,_=>none
 | .chr x=>match rd x with
  | .int _ n=>some (0≤n∧n<128,.str [UInt8.ofNat n.toNat])
  | _=>none
 | .mget x y=>match rd x,rd y with
  | .own _ _ 0 ([.tup []]::es),.int .i64 n=>some (True,.bool (Jw n es))
  | .lst 0 ([.tup []]::es),.int .i64 n=>some (True,.bool (Jw n es))
  | _,_=>none
 | .mn x y=>match rd x,rd y with
  | .int k a,.int k' b=>some (k=k',.int k (if b<a then b else a))
  | _,_=>none
 | .mx x y=>match rd x,rd y with
  | .int k a,.int k' b=>some (k=k',.int k (if b>a then b else a))
  | _,_=>none
 | .ext x i=>match rd x with
  | .tup vs=>match vs[i]? with
   | some v=>some (True,v)
   | none=>none
  | _=>none
 | .build zero parts=>
  some (Ba (fun p=>Ao (rd p.2.2)=false∧(rd p.2.2).cells.length=p.2.1∧p.1+p.2.1≤zero.length) parts,
   .agg (parts.foldl (fun cs p=>Bi cs p.1 (rd p.2.2).cells) zero))
 | .fn f caps=>some (Mr (caps.map rd)=true,.clo f (caps.map rd))
 | .nilc x=>match rd x with
  | .ptr t k=>some (True,.ptr t k)
  | .iptr cs=>some (True,.iptr cs)
  | .optr t s j k=>some (True,.optr t s j k)
  | _=>none
 | .toStr x=>match rd x with
  | .lst s es=>some (s=1∧Hd (Tx es)=es,.str (Tx es))
  | .own _ _ s es=>some (s=1∧Hd (Tx es)=es,.str (Tx es))
  | _=>none
inductive Vt where
 | p (o:PU)
 | pick (c a b:Av)
 | box (x:Av)
 | alloc (zero:List V)
 | store (x v:Av) (n:Nat)
 | mkS (sz:Nat) (zero:List V) (len:Nat) (parts:List (Nat×Av))
 | nilS (sz:Nat)
 | make (sz bytes:Nat) (zero:List V) (l c:Av)
 | app (sz bytes:Nat) (x y:Av)
 | appz (sz bytes:Nat) (zero:List V) (x n:Av)
 | copy (sz:Nat) (x y:Av)
 | toBytes (x:Av)
 | call (f:Nat) (args:List Av)
 | callv (x:Av) (args:List Av)
 | isnil (x:Av) (ne:Bool)
 | cap (x:Av)
 | mkM
 | mset (x k v:Av)
 | clear (sz:Nat) (zero:List V) (x:Av)
 | chk3 (x lo hi mx:Av)
 | bad
structure Bg where
 dst:Option Nat
 op:Vt
 g:Option (Nat×Bool)
inductive DP where
 | fin
 | take (i:Bg) (r:DP)
 | alt (held:List Bg) (i:Bg) (r rest:DP)
 | stop
 | dead
inductive IR where
 | skip
 | reg (l:List Bg)
 | draw (p:DP)
 | seq (a b:IR)
 | ite (c:Av) (a b:IR)
 | block (id:Nat) (a:IR)
 | loop (a:IR)
 | exit (id:Nat)
 | ret
 | bad
def Eu (t:Nat):V→Bool
 | .own t' _ _ _ | .ptr t' _ | .optr t' _ _ _ | .nrow t' _ _ _ _=>t' != t
 | _=>true
def Dv (t:Nat):V→Bool
 | .clo _ caps=>caps.all (Eu t)
 | c=>Eu t c
def cellsL:List V→List V
 | []=>[]
 | v::r=>v.cells++cellsL r
def V.flat1:V→List V
 | .agg cs=>cs
 | .tup vs=>cellsL vs
 | v=>[v]
def V.flat:V→List V
 | .may _ v=>v.flat1
 | v=>v.flat1
def V.no (t:Nat) (v:V):Bool:=v.flat.all (Dv t)
def bA (t:Nat) (v:V):V:=if v.no t then v else .undef
def uD (t:Nat) (v:V):V:=if Dv t v then v else .undef
def Lq (t:Nat):List (Nat×V)→List (Nat×V)
 | []=>[]
 | (a,v)::r=>(a,bA t v)::Lq t r
def Ic (t:Nat):List V→List V
 | []=>[]
 | c::r=>uD t c::Ic t r
def Rq (t:Nat):List (Nat×List V)→List (Nat×List V)
 | []=>[]
 | (a,cs)::r=>(a,Ic t cs)::Rq t r
def St.drop (S:St) (t:Nat):St:={ env:=Lq t S.env,bx:=Rq t S.bx,cp:=S.cp }
def St.drops (S:St):List Nat→St
 | []=>S
 | t::r=>(S.drop t).drops r
def Dq (f:V→V):V→V
 | .agg cs=>.agg (cs.map f)
 | .tup vs=>.tup (vs.map fun | .agg cs=>.agg (cs.map f) | c=>f c)
 | .may b (.agg cs)=>.may b (.agg (cs.map f))
 | .may b (.tup vs)=>.may b (.tup (vs.map fun | .agg cs=>.agg (cs.map f) | c=>f c))
 | .may b c=>.may b (f c)
 | c=>f c
def Jl (f:V→V):List (Nat×V)→List (Nat×V)
 | []=>[]
 | (a,v)::r=>(a,Dq f v)::Jl f r
def Nw (f:V→V):List (Nat×List V)→List (Nat×List V)
 | []=>[]
 | (a,cs)::r=>(a,cs.map f)::Nw f r
def St.map (S:St) (f:V→V):St:={ env:=Jl f S.env,bx:=Nw f S.bx,cp:=S.cp }
abbrev As:Nat:=1048576
def frz (t:Nat):V→V
 | .own t' off sz es=>if t'=t then .lst sz es else .own t' off sz es
 | c=>c
def St.freeze (S:St) (t:Nat):St:=if t<As then (S.map (frz t)).drop t else S.drop t
def St.freezes (S:St):List Nat→St
 | []=>S
 | t::r=>(S.freeze t).freezes r
def Eh (off:Nat) (es:List (List V)) (at_:Nat) (ys:List (List V)):List (List V):=
 es.mapIdx fun i e=>if at_≤off+i then (ys[off+i-at_]?).getD e else e
def Tz (t sz at_:Nat) (ys:List (List V)):V→V
 | .own t' off sz' es=>if t'=t then (if sz'=sz then .own t' off sz' (Eh off es at_ ys) else .undef) else .own t' off sz' es
 | c=>c
def Bd:List V→List Nat
 | []=>[]
 | .own t _ _ _::r=>t::Bd r
 | _::r=>Bd r
def V.tags (v:V):List Nat:=Bd v.flat
def Kt:List V→List V
 | []=>[]
 | v::r=>v.flat++Kt r
def Gk:List (Nat×V)→List Nat
 | []=>[]
 | p::r=>p.2.tags++Gk r
def Kg (p:V→Bool):List V→Bool
 | []=>true
 | c::r=>p c&&Kg p r
def Cl:V→V
 | .own t _ sz es=>if t<As then .lst sz es else .undef
 | .int k n=>.int k n
 | .bool b=>.bool b
 | .str s=>.str s
 | .lst sz es=>.lst sz es
 | .iptr cs=>.iptr cs
 | _=>.undef
def Gp:V→Bool
 | .int .. | .bool .. | .str .. | .lst .. | .own .. | .iptr .. => false
 | _=>true
def Lh (b:Bool):V→V→V
 | .bool x,.bool y=>.bool (bif b then x else y)
 | .int k x,.int k' y=>if k=k' then .int k (bif b then x else y) else if b then .int k x else .int k' y
 | x,y=>if b then x else y
def St.setBx (S:St) (t:Nat) (cs:List V):St:={ S with bx:=ins S.bx t cs }
def He (sz:Nat) (es:List (List V)):List (Nat×List V)→List (List V)
 | []=>es
 | (i,cs)::r=>He sz (es.set i cs) r
structure Lz where
 args:List V
 bx:List (List V)
structure Dj where
 r:V
 bx:List (List V)
 rw:List (Nat×Nat×List (List V))
abbrev At:=Nat→Lz→Dj→Prop
def Dy (t:Nat):List Nat→Nat→Option Nat
 | [],_=>none
 | x::r,k=>if x=t then some k else Dy t r (k+1)
def Bq:List Nat→Bool
 | []=>true
 | x::r=>r.all (· != x)&&Bq r
def Ju:V→V
 | .int k n=>.int k n
 | .bool b=>.bool b
 | .str s=>.str s
 | .lst sz es=>.lst sz es
 | .iptr cs=>.iptr cs
 | _=>.undef
def Gn:V→V
 | .clo f caps=>.clo f (caps.map Ju)
 | c=>Ju c
def GR (XR:List Nat):V→V
 | .own t _ sz es=>if XR.contains t then .undef else .lst sz es
 | c=>Gn c
def St.cl (S:St) (XB XR:List Nat):Nat→V→V
 | 0,c=>GR XR c
 | n+1,.ptr t k=>if XB.contains t then .undef else match look S.bx t with
  | some cs=>.iptr ((cs.drop k).map (S.cl XB XR n))
  | none=>.undef
 | n+1,.clo f caps=>.clo f (caps.map (S.cl XB XR n))
 | _+1,c=>GR XR c
def Wj (LR LM:List Nat) (fz:Bool) (t off sz:Nat) (es:List (List V)):V:=
 match Dy t LR 0 with
 | some i=>.own (2097152+tg t i) off sz es
 | none=>match Dy t LM 0 with
  | some i=>bif Ax t then .undef else .own (1024000+i) off sz es
  | none=>if fz && !decide (t<As) then .undef else .lst sz es
def St.liftP (S:St) (LB XR:List Nat) (fz:Bool) (n:Nat):V→V
 | .ptr t k=>match Dy t LB 0 with
  | some i=>.ptr (As+i) k
  | none=>if fz then .undef else S.cl LB XR n (.ptr t k)
 | c=>Gn c
def St.liftC (S:St) (LB LR LM:List Nat) (fz:Bool):V→V
 | .own t off sz es=>Wj LR LM fz t off sz es
 | .clo f caps=>.clo f (caps.map (S.liftP LB (LR++LM) fz 2))
 | c=>S.liftP LB (LR++LM) fz 3 c
def mapW (f:V→V):V→V
 | .agg cs=>.agg (cs.map f)
 | c=>f c
def St.given (S:St):List Nat→List (List V)
 | []=>[]
 | t::r=>(look S.bx t).getD []::S.given r
def Lc (f:V→V):List (List V)→List (List V)
 | []=>[]
 | cs::r=>cs.map f::Lc f r
def St.give (S:St) (args:List V) (LB LR LM:List Nat) (fz:Bool):Lz:=
 ⟨args.map (mapW (S.liftC LB LR LM fz)),Lc (S.liftC LB LR LM fz) (S.given LB)⟩
def Tv (X:List Nat):List Nat→List Nat
 | []=>[]
 | t::r=>if X.contains t then Tv X r else t::Tv X r
def St.frzTags (S:St) (args:List V) (LB LR LM:List Nat):List Nat:=Tv (LR++LM) (Bd (Kt args++(S.given LB).flatten))
def Jy (LR:List Nat) (t:Nat):Option Nat:=match LR[(t-2097152)%32]? with
 | some T=>bif Nat.beq t (2097152+tg T ((t-2097152)%32)) then some T else none
 | none=>none
def Ep (d nn:Nat) (LB LR:List Nat):V→V
 | .own t off sz es=>if t<64 then .own (64*d+t) off sz es else if t<2097152 then .undef else match Jy LR t with
  | some T=>.own T off sz es
  | none=>.undef
 | .ptr t k=>if t<nn then .ptr (64*d+t) k else if t<As then .undef else match LB[t-As]? with
  | some T=>.ptr T k
  | none=>.undef
 | c=>Gn c
def Qc (LR:List Nat) (rw:List (Nat×Nat×List (List V))):V→V
 | .own t off sz es=>match Dy t LR 0 with
  | none=>.own t off sz es
  | some i=>match rw[i]? with
   | some (o,s,es')=>if off=o∧sz=s∧es.length=es'.length then .own t off sz es' else .undef
   | none=>.undef
 | .nrow T j c sz es=>bif LR.contains T then .undef else .nrow T j c sz es
 | c=>c
def St.rows (S:St) (LR:List Nat) (rw:List (Nat×Nat×List (List V))):St:=
 match LR with
 | []=>S
 | _=>S.map (Qc LR rw)
def St.boxes (S:St) (f:V→V):List Nat→List (List V)→St
 | [],_=>S
 | T::r,cs::q=>(S.setBx T (cs.map f)).boxes f r q
 | T::r,[]=>(S.setBx T []).boxes f r []
def Mh (d:Nat):Nat→List Nat
 | 0=>[]
 | n+1=>Mh d n++[64*d+n]
def Jx (d:Nat):List Nat→List Nat
 | []=>[]
 | t::r=>if t<64 then (64*d+t)::Jx d r else Jx d r
def Dj.newR (t:Dj) (d:Nat):List Nat:=Jx d (Bd (t.r.flat++t.bx.flatten))
def Dj.newB (t:Dj) (d nb:Nat):List Nat:=Mh d (t.bx.length-nb)
def St.after (S:St) (args:List V) (d:Nat) (fz:Bool) (LB LR LM:List Nat) (t:Dj):St:=
 let S1:=if fz then S.freezes (S.frzTags args LB LR LM) else S
 let S2:=S1.drops (LM++(t.newR d++t.newB d LB.length))
 (S2.rows LR t.rw).boxes (Ep d (t.bx.length-LB.length) LB LR) (LB++t.newB d LB.length) t.bx
def Fd:V→Bool
 | .int .. | .bool .. | .str .. | .undef | .ptr .. => true
 | .own t _ _ es=>Ax t || es.all (·.all scal)
 | _=>false
def Dj.flat (t:Dj):Bool:=(t.r.flat++t.bx.flatten).all Fd&&t.rw.all fun p=>p.2.2.all (·.all scal)
def Ja:V→V
 | .own t _ sz es=>bif Ax t then .undef else .lst sz es
 | c=>Gn c
def Mv (n:Nat):List Nat→Bool
 | []=>true
 | t::r=>decide (t<n)&&Mv n r
def Ik (X:List Nat):List Nat→Bool
 | []=>true
 | t::r => !X.contains t&&Ik X r
def Yt (C:At) (f:Nat) (args:List V) (d:Option Nat) (S:St) (K:St→Prop):Prop:=
 Kg (fun v => !Ao v) args=true∧∃(LB LR LM:List Nat) (fz:Bool) (t:Dj),
  (Bq LB=true∧Bq (LR++LM)=true∧Mv As LM=true∧LB.all (fun T=>(look S.bx T).isSome)=true) ∧
  (Mv 33 [t.bx.length-LB.length,LM.length,LR.length]=true∧Ik (t.newB (d.getD 0) LB.length) LB=true∧Ik (t.newR (d.getD 0)) LR=true) ∧
  (fz=false→t.flat=true)∧C f (S.give args LB LR LM fz) t ∧
  K ((S.after args (d.getD 0) fz LB LR LM t).put d (Dq (Ep (d.getD 0) (t.bx.length-LB.length) LB LR) t.r))
def aD (C:At) (f:Nat) (args:List V) (d:Option Nat) (g:Bool) (S:St) (K:St→Prop):Prop:=
 (g=true→Kg (fun v => !Ao v) args=true)∧∃(fz:Bool) (r:V),(g=true→C f (S.give args [] [] [] fz) ⟨r,[],[]⟩) ∧
  (fz=false→r.flat.all Fd=true)∧(fz=true→Bd (Kt args)=[])∧K (S.put d (.may g (Dq Ja r)))
def Ji:V→Bool→Option Bool
 | .bool b,want=>some (b==want)
 | .may b' (.bool b),want=>some (b'&&(b==want))
 | _,_=>none
def cL:V→Option (List (List V))
 | .lst (_+1) es=>some es
 | .own _ _ (_+1) es=>some es
 | _=>none
def Jz:V→Option (Nat×List (List V))
 | .lst sz es=>some (sz,es)
 | .own t _ sz es=>bif Ax t then none else some (sz,es)
 | .str s=>some (1,Hd s)
 | _=>none
def dA:V→Bool
 | .own t 0 (_+1) es=>decide (t<As) && !Ax t&&es.all (·.all scal)
 | _=>false
def Yr (t sz at_:Nat) (ys:List (List V)):V→V
 | .nrow t' j c s es=>if t'=t then .undef else .nrow t' j c s es
 | c=>Tz t sz at_ ys c
def jI (off j c:Nat) (x:V) (es:List (List V)):List (List V):=es.mapIdx fun i e=>if off+i=j then e.set c x else e
def Ys (T s0 j c:Nat) (x:V):V→V
 | .own t off sz es=>if t=T then (if sz=s0 then .own t off sz (jI off j c x es) else .undef) else .own t off sz es
 | .nrow t j' c' sz es=>if t=T then .undef else .nrow t j' c' sz es
 | v=>v
def gR (T j c sz:Nat) (es:List (List V)):List V→List V→Prop
 | [],[]=>True
 | v::r,u::q=>((v = .nrow T j c sz es∧u = .own 2097152 0 sz es)∨(u=v∧scal v=true∧Ao v=false))∧gR T j c sz es r q
 | _,_=>False
def jV (C:At) (f:Nat) (args:List V) (d:Option Nat) (S:St) (K:St→Prop):Prop:=
 ∃(T s0 j c sz:Nat) (es es':List (List V)) (us:List V) (r:V),gR T j c sz es args us∧sz≠0∧es'.length=es.length∧(es'.all fun e=>Nat.beq e.length sz&&e.all scal)=true∧scal r=true∧Ao r=false∧Ax T=true ∧
  (∃off es0,S.find T=some (off,es0)∧off≤j∧(es0.getD (j-off) []).length=s0∧(es0.getD (j-off) [])[c]? = some (.lst sz es)) ∧
  C f ⟨us,[]⟩ ⟨r,[],[(0,sz,es')]⟩∧K ((S.map (Ys T s0 j c (.lst sz es'))).put d r)
def Gd (rd:Av→V) (u:PU) (l:List (Nat×Int)):Option Int:=
 match u with
 | .mv x=>Iy l x
 | .slice x lo _ _=>match Iy l x with
  | some c=>match rd x,Fq (lo.map rd) with
   | .own ..,some l=>some (c-l.getD 0)
   | _,_=>none
  | none=>none
 | _=>none
abbrev Kk (S:St) (rd:Av→V) (u:PU):Option Int:=Gd rd u S.cp
def Iw (x:Av) (n:Nat) (l:List (Nat×Int)):Option Int:=
 match Iy l x with
 | some c=>if (n:Int)≤Lb c then some c else none
 | none=>none
def Oh (C:At) (d:Option Nat) (op:Vt) (S:St) (K:St→Prop):Prop:=
 match op with
 | .p o=>Ba (fun x=>Ag true (S.val x)) o.opds∧match pu S (fun x=>Ad (S.val x)) o with
  | some (φ,v)=>φ∧K (S.putC d v (Gd (fun x=>Ad (S.val x)) o))
  | none=>False
 | .pick c a b=>Ag true (S.val c)∧match Ad (S.val c) with
  | .bool cb=>Ag cb (S.val a)∧Ag (!cb) (S.val b)∧K (S.put d (Lh cb (Ad (S.val a)) (Ad (S.val b))))
  | _=>False
 | .box x=>match d with
  | some d=>let S1:=S.drop (64*d)
   Ag true (S1.val x)∧Ao (Ad (S1.val x))=false∧K ((S1.setBx (64*d) (Ad (S1.val x)).cells).put (some d) (.ptr (64*d) 0))
  | none=>False
 | .alloc zero=>match d with
  | some d=>K (((S.drop (64*d)).setBx (64*d) zero).put (some d) (.ptr (64*d) 0))
  | none=>False
 | .store x v n=>Ag true (S.val x)∧Ag true (S.val v) ∧
  let cs:=(Ad (S.val v)).cells
  Ao (Ad (S.val v))=false∧cs.length=n∧match Ad (S.val x) with
  | .ptr t k=>match look S.bx t with
   | some bs=>k+n≤bs.length∧K ((S.setBx t (Bi bs k cs)).put d .undef)
   | none=>False
  | .optr t sz j k=>match S.find t with
   | some (off,es)=>off≤j∧j<off+es.length∧k+n≤sz∧(es.getD (j-off) []).length=sz ∧
    let S1:=S.freezes (Ad (S.val v)).tags
    ((Ax t=false∧cs.all (fun c => !Gp c)=true∧(Ad (S.val v)).tags.all (· != t)=true ∧
     K ((S1.map (Tz t sz j [Bi (es.getD (j-off) []) k (cs.map Cl)])).put d .undef)) ∨
    (Ax t=true∧cs.all (fun c=>scal c || (decide (t<As)&&dA c))=true∧Bq (Ad (S.val v)).tags=true ∧
     K (((S.drops (Ad (S.val v)).tags).map (Yr t sz j [Bi (es.getD (j-off) []) k (cs.map Cl)])).put d .undef)))
   | none=>False
  | _=>False
 | .mkS sz zero len parts=>match d with
  | some d=>
   let vs:=parts.map fun p=>(p.1,Ad (S.val p.2))
   Ba (fun p=>Ag true (S.val p.2)) parts ∧
   Ba (fun p=>p.1<len∧p.2.cells.length=sz∧p.2.cells.all (fun c => !Gp c)=true) vs ∧
   (K (((S.freezes (Gk vs)).drop (64*d)).put (some d)
    (.own (64*d) 0 sz (He sz (List.replicate len zero) (vs.map fun p=>(p.1,p.2.cells.map Cl))))) ∨
   False)
  | none=>False
 | .nilS sz=>match d with
  | some d=>K ((S.drop (64*d)).put (some d) (.own (64*d) 0 sz []))
  | none=>False
 | .make sz bytes zero l c=>Ag true (S.val l)∧Ag true (S.val c)∧match d,Ad (S.val l),Ad (S.val c) with
  | some d,.int _ l,.int _ c=>0≤l∧l=c∧c*bytes≤140737488355328 ∧
   (K ((S.drop (64*d)).put (some d) (.own (64*d) 0 sz (List.replicate l.toNat zero))) ∨
    zero.all JH=true∧K ((S.drop (64*d+32)).put (some d) (.own (64*d+32) 0 sz (List.replicate l.toNat zero))))
  | _,_,_=>False
 | .app sz bytes x y=>Ag true (S.val x)∧Ag true (S.val y)∧match Ad (S.val x),Jz (Ad (S.val y)) with
  | .own t off s es,some (s',ys)=>t<As∧off=0∧s=sz∧s'=sz∧(es.length+ys.length)*bytes≤140737488355328∧Ax t=false ∧
   K ((S.drop t).putC d (.own t 0 sz (es++ys)) (Iw x (es.length+ys.length)))
  | _,_=>False
 | .appz sz bytes zero x n=>Ag true (S.val x)∧Ag true (S.val n)∧match Ad (S.val x),Ad (S.val n) with
  | .own t off s es,.int _ l=>t<As∧off=0∧s=sz∧0≤l∧((es.length:Int)+l)*bytes≤140737488355328∧Ax t=false ∧
   (K ((S.drop t).putC d (.own t 0 sz (es++List.replicate l.toNat zero)) (Iw x (es.length+l.toNat))) ∨
    ∃d' c,d=some d'∧S.capOf x=some c∧Dr≤c∧c-Dr<es.length+l∧K ((S.drop (64*d')).put d (.own (64*d') 0 sz (es++List.replicate l.toNat zero))))
  | _,_=>False
 | .copy sz x y=>Ag true (S.val x)∧Ag true (S.val y)∧match Ad (S.val x),Jz (Ad (S.val y)) with
  | .own t off s es,some (s',ys)=>s=sz∧s'=sz∧Ax t=false ∧
   K ((S.map (Tz t sz off (ys.take es.length))).put d (.int .i64 (min ys.length es.length:Nat)))
  | _,_=>False
 | .toBytes x=>Ag true (S.val x)∧match Ad (S.val x) with
  | .str s=>K (S.put d (.lst 1 (Hd s)))
  | _=>False
 | .call f args=>Ba (fun x=>Ag true (S.val x)) args∧(Yt C f (args.map fun x=>Ad (S.val x)) d S K∨jV C f (args.map fun x=>Ad (S.val x)) d S K)
 | .callv x args=>Ag true (S.val x)∧Ba (fun x=>Ag true (S.val x)) args∧match Ad (S.val x) with
  | .clo f caps=>Yt C f (args.map (fun x=>Ad (S.val x))++caps) d S K
  | _=>False
 | .isnil x ne=>Ag true (S.val x)∧match cL (Ad (S.val x)) with
  | some es=>∀b:Bool,(b=true→es=[])→K (S.put d (.bool (if ne then !b else b)))
  | none=>False
 | .mkM=>match d with
  | some d=>K ((S.drop (64*d)).put (some d) (.own (64*d) 0 0 [[.tup []]]))
  | none=>False
 | .mset x k v=>Ag true (S.val x)∧Ag true (S.val k)∧Ag true (S.val v)∧match Ad (S.val x),Ad (S.val k),Ad (S.val v) with
  | .own t _ 0 ([.tup []]::_),.int .i64 n,.bool b=>K ((S.map (Zs t n b)).put d .undef)
  | _,_,_=>False
 | .cap x=>Ag true (S.val x)∧match Ad (S.val x),x with
  | .own _ off sz es,.t n=>sz≠0∧∀c:Nat,es.length≤c→(off=0→c≤9223372036854775807)→(∀c0,S.capOf x=some c0→Dr≤c0→(c:Int)=c0-Dr)→K (St.put { S with cp:=Ht n (fun _=>some (Dr+c)) S.cp } d (.int .i64 c))
  | _,_=>False
 | .clear sz zero x=>Ag true (S.val x)∧match Ad (S.val x) with
  | .own t off s es=>s=sz∧Ax t=false∧K ((S.map (Tz t sz off (List.replicate es.length zero))).put d .undef)
  | _=>False
 | .chk3 x lo hi mx=>(Ag true (S.val x)∧Ag true (S.val lo)∧Ag true (S.val hi)∧Ag true (S.val mx))∧match cL (Ad (S.val x)),Ad (S.val lo),Ad (S.val hi),Ad (S.val mx) with
  | some es,.int _ a,.int _ b,.int _ c=>0≤a∧a≤b∧b≤c∧c≤es.length∧K (S.put d .undef)
  | _,_,_,_=>False
 | .bad=>False
def Cj (S:St) (op:Vt) (v:V):Prop:=
 match op with
 | .p o=>Ba (fun x=>Ag true (S.val x)) o.opds∧∃ψ,pu S (fun x=>Ad (S.val x)) o=some (ψ,v)∧ψ
 | .pick c a b=>Ag true (S.val c)∧∃cb,Ad (S.val c) = .bool cb∧Ag cb (S.val a)∧Ag (!cb) (S.val b)∧v=Lh cb (Ad (S.val a)) (Ad (S.val b))
 | _=>False
def KL (C:At) (d:Option Nat) (op:Vt) (g:Bool) (S:St) (K:St→Prop):Prop:=
 match op with
 | .p o=>∃u,(g=true→Cj S (.p o) u)∧K (S.put d (.may g u))
 | .pick c a b=>∃u,(g=true→Cj S (.pick c a b) u)∧K (S.put d (.may g u))
 | .call f args=>(Ba (fun x=>Ag g (S.val x)) args∧aD C f (args.map fun x=>Ad (S.val x)) d g S K)∨((g=true→Oh C d (.call f args) S K)∧(g=false→K (S.put d .undef)))
 | .callv x args=>(Ag g (S.val x)∧Ba (fun x=>Ag g (S.val x)) args∧match Ad (S.val x) with
  | .clo f caps=>aD C f (args.map (fun x=>Ad (S.val x))++caps) d g S K
  | _=>False)∨((g=true→Oh C d (.callv x args) S K)∧(g=false→K (S.put d .undef)))
 | op=>(g=true→Oh C d op S K)∧(g=false→K (S.put d .undef))
def Ca (C:At) (i:Bg) (S:St) (K:St→Prop):Prop:=
 match i.g with
 | none=>Oh C i.dst i.op S K
 | some (gs,want)=>match Ji (S.val (.t gs)) want with
  | some g=>KL C i.dst i.op g S K
  | none=>False
def aW (S:St) (k:Nat) (c:Int):Prop:=
 (∃c',look S.cp k=some c'∧(c=c'∨c<Dr∧c≤Lb c'))∨(∃t off sz es,look S.env k=some (.own t off sz es)∧es≠[]∧c≤es.length∧c<Dr∧sz≠0) ∨
  ∃k' c' t sz off es off' es',look S.cp k'=some c'∧look S.env k'=some (.own t off' sz es')∧es'≠[]∧look S.env k=some (.own t off sz es)∧es≠[]∧sz≠0 ∧
   (c<Dr∧c+off≤Lb c'+off'∨c=c'∧off=off')
def Le (S S':St):Prop:=(∀t v,look S'.env t=some v→look S.env t=some v)∧(∀t cs,look S'.bx t=some cs→look S.bx t=some cs)∧(∀k c,look S'.cp k=some c→aW S k c)
def Rb (S S':St):Prop:=(∀t,look S.env t=look S'.env t)∧∀k,look S.cp k=look S'.cp k
def Nd (t t' x:Nat):Nat:=if x=t then t' else if x=t' then t else x
def kT (t t':Nat):V→V
 | .own x off sz es=>bif (Ax x==Ax (Nd t t' x)) || es.isEmpty then .own (Nd t t' x) off sz es else .undef
 | .optr x sz j k=>bif Ax x==Ax (Nd t t' x) then .optr (Nd t t' x) sz j k else .undef
 | .nrow x j c sz es=>bif Ax x==Ax (Nd t t' x) then .nrow (Nd t t' x) j c sz es else .undef
 | c=>c
def St.swap (S:St) (t t':Nat):St:=S.map (kT t t')
def St.swaps (S:St):List (Nat×Nat)→St
 | []=>S
 | (t,t')::r=>(S.swap t t').swaps r
def jM:List (Nat×Nat)→Bool
 | []=>true
 | (t,t')::r=>decide (t<As)&&decide (t'<As)&&jM r
inductive Fg:St→St→Prop
 | le {S S':St} (h:Le S S'):Fg S S'
 | fz (S:St) (ts:List Nat):Fg S (S.freezes ts)
 | sw (S:St) (rs:List (Nat×Nat)) (h:jM rs=true):Fg S (S.swaps rs)
 | trans {S S' S'':St} (h1:Fg S S') (h2:Fg S' S''):Fg S S''
def dN (C:At):List Bg→(St→Prop)→St→Prop
 | [],K,S=>K S
 | i::r,K,S=>∃S1,Fg S S1∧Ca C i S1 (dN C r K)
def Bx (i:Bg) (S:St):Prop:=
 match i.op with
 | .p (.load x _ _)=>match Ad (S.val x) with
  | .optr .. => False
  | _=>True
 | _=>True
def Cw (C:At) (X:List Bg) (S:St):Prop:=Ba (fun j=>Ca C j S (fun S'=>Rb S' S)) X
def El (C:At) (X l:List Bg) (S:St):Prop:=Ba (fun j=>(Bx j S∨j∈X)∧Ca C j S (fun S'=>Rb S' S)) l
def WD (C:At):DP→List Bg→(St→Prop)→St→Prop
 | .fin,_,K,S=>K S
 | .take i r,X,K,S=>(Bx i S∧Ca C i S (fun S'=>Cw C X S'∧WD C r X K S'))∨Ca C i S (fun S'=>Cw C (i::X) S'∧WD C r (i::X) K S')
 | .alt held i r rest,X,K,S=>Ca C i S (fun S'=>∃S1,Fg S' S1∧∃X',El C X' held S1∧Cw C X' S1∧WD C r X' K S1)∧WD C rest X K S
 | .stop,_,_,_=>True
 | .dead,_,_,_=>False
inductive Ex where
 | normal
 | exit (id:Nat)
 | ret
def W (C:At):IR→(Ex→St→Prop)→St→Prop
 | .skip,Q,S=>Q .normal S
 | .reg l,Q,S=>dN C l (Q .normal) S
 | .draw p,Q,S=>WD C p [] (Q .normal) S
 | .seq a b,Q,S=>W C a (fun e S'=>match e with | .normal=>∃S1,Fg S' S1∧W C b Q S1 | e=>Q e S') S
 | .ite c a b,Q,S=>Ag true (S.val c)∧match Ad (S.val c) with
  | .bool cb=>(cb=true→W C a Q S)∧(cb=false→W C b Q S)
  | _=>False
 | .block id a,Q,S=>W C a (fun e S'=>match e with | .exit id'=>if id'=id then Q .normal S' else Q (.exit id') S' | e=>Q e S') S
 | .loop a,Q,S=>∃(I:St→Prop) (μ:St→Nat),(∃S1,Fg S S1∧I S1)∧∀S,I S →
   W C a (fun e S'=>match e with | .normal=>∃S'',Fg S' S''∧I S''∧μ S''<μ S | e=>Q e S') S
 | .exit id,Q,S=>Q (.exit id) S
 | .ret,Q,S=>Q .ret S
 | .bad,_,_=>False
end Go.Ev
