/- A small abstract machine over values: values, states, instructions, and the predicate transformer W. No memory, no world. -/
import GoSem.Core.Code
import GoSem.Core.View
import GoSem.Op.String
import Derived.Laws.Externs
set_option linter.all false
namespace Go.Ev
inductive V where
 | int (k:IntKind) (n:Int)
 | bool (b:Bool)
 | str (s:List UInt8)
 | lst (sz:Nat) (es:List (List V))
 | own (tag off sz:Nat) (es:List (List V))
 | nrow (T j c sz:Nat) (es:List (List V))
 | ptr (tag k:Nat)
 | iptr (cs:List V)
 | optr (tag sz j k:Nat)
 | agg (cs:List V)
 | tup (vs:List V)
 | clo (f:Nat) (caps:List V)
 | may (b:Bool) (v:V)
 | undef
 deriving Inhabited
def Bh (t:Nat):Bool:=Nat.beq (t / 32%2) 1
def tg (t e:Nat):Nat:=bif Bh t then e+32 else e
def look {α:Type}:List (Nat×α)→Nat→Option α
 | [],_=>none
 | (a,x)::r,t=>if a=t then some x else look r t
def ins {α:Type} (l:List (Nat×α)) (d:Nat) (v:α):List (Nat×α):=(d,v)::l
structure St where
 env:List (Nat×V)
 bx:List (Nat×List V)
 
 cp:List (Nat×Int):=[]
inductive Bj where
 | t (n:Nat)
 | c (v:V)
def St.val (S:St):Bj→V
 | .t n=>(look S.env n).getD .undef
 | .c v=>v
abbrev Ei:Int:=4611686018427387904
def Jq (c:Int):Int:=if c<Ei then c else c-Ei
def Kh (l:List (Nat×Int)):Bj→Option Int
 | .t n=>look l n
 | .c _=>none
abbrev St.capOf (S:St) (x:Bj):Option Int:=Kh S.cp x
def Jw (d:Nat) (f:List (Nat×Int)→Option Int):List (Nat×Int)→List (Nat×Int)
 | []=>match f [] with
  | some c=>[(d,c)]
  | none=>[]
 | p::r=>match f (p::r) with
  | some c=>(d,c)::(p::r).filter fun p=>p.1 != d
  | none=>(p::r).filter fun p=>p.1 != d
def St.put (S:St) (d:Option Nat) (v:V):St:=
 match d with
 | some d=>{ env:=ins S.env d v,bx:=S.bx,cp:=Jw d (fun _=>none) S.cp }
 | none=>S
def St.putC (S:St) (d:Option Nat) (v:V) (f:List (Nat×Int)→Option Int):St:=
 match d with
 | some d=>{ env:=ins S.env d v,bx:=S.bx,cp:=Jw d f S.cp }
 | none=>S
def Ai:V→V
 | .may _ v=>v
 | v=>v
def As (g:Bool):V→Prop
 | .may b _=>g=true→b=true
 | _=>True
def Bq {α:Type} (p:α→Prop):List α→Prop
 | []=>True
 | x::r=>p x∧Bq p r
def V.cells:V→List V
 | .agg cs=>cs
 | v=>[v]
inductive PU where
 | mv (x:Bj)
 | bin (op:BinOp) (x y:Bj)
 | eqs (ne:Bool) (ks:List Nat) (x y:Bj)
 | un (op:UnOp) (x:Bj)
 | conv (k:IntKind) (x:Bj)
 | load (x:Bj) (n:Nat) (ag:Bool)
 | fieldA (x:Bj) (off:Nat)
 | idxA (x i:Bj) (sz:Nat)
 | idxArr (x i:Bj) (len sz:Nat)
 | field (x:Bj) (off n:Nat) (ag:Bool)
 | idxStr (x i:Bj)
 | sliceStr (x:Bj) (lo hi:Option Bj)
 | slice (x:Bj) (lo hi:Option Bj) (sz:Nat)
 | len (x:Bj)
 | lenS (x:Bj)
 | strc (x:Bj)
 | binB (op:BinOp) (x y:Bj)
 | mn (x y:Bj)
 | mx (x y:Bj)
 | ext (x:Bj) (i:Nat)
 | build (zero:List V) (parts:List (Nat×Nat×Bj))
 | fn (f:Nat) (caps:List Bj)
 | nilc (x:Bj)
 | toStr (x:Bj)
 | xbyte (x c:Bj)
 | scmp (x y:Bj)
 | ovl (x y:Bj)
 | mget (x k:Bj)
 | chr (x:Bj)
def PU.opds:PU→List Bj
 | .mv x | .un _ x | .conv _ x | .load x _ _ | .fieldA x _ | .field x _ _ _ | .len x | .lenS x | .chr x | .strc x | .ext x _ | .nilc x | .toStr x=>[x]
 | .xbyte x y | .scmp x y | .ovl x y | .mget x y | .bin _ x y | .binB _ x y | .eqs _ _ x y | .idxA x y _ | .idxArr x y _ _ | .idxStr x y | .mn x y | .mx x y=>[x,y]
 | .sliceStr x lo hi | .slice x lo hi _=>x::(lo.toList++hi.toList)
 | .build _ ps=>ps.map (·.2.2)
 | .fn _ cs=>cs
def bF (op:BinOp) (k:IntKind) (a b:Int):Option (Prop×V):=
 match op with
 | .add=>some (True,.int k (k.wrap (a+b)))
 | .sub=>some (True,.int k (k.wrap (a-b)))
 | .mul=>some (True,.int k (k.wrap (a*b)))
 | .quo=>some (b≠0,.int k (k.wrap (a.tdiv b)))
 | .rem=>some (b≠0,.int k (a.tmod b))
 | .and=>some (True,.int k (k.wrap (BitVec.ofInt k.bits a &&& BitVec.ofInt k.bits b).toNat))
 | .or=>some (True,.int k (k.wrap (BitVec.ofInt k.bits a ||| BitVec.ofInt k.bits b).toNat))
 | .xor=>some (True,.int k (k.wrap (BitVec.ofInt k.bits a ^^^ BitVec.ofInt k.bits b).toNat))
 | .andNot=>some (True,.int k (k.wrap (BitVec.ofInt k.bits a &&& ~~~ BitVec.ofInt k.bits b).toNat))
 | .eql=>some (True,.bool (a==b))
 | .neq=>some (True,.bool (a != b))
 | .lss=>some (True,.bool (decide (a<b)))
 | .leq=>some (True,.bool (decide (a≤b)))
 | .gtr=>some (True,.bool (decide (a>b)))
 | .geq=>some (True,.bool (decide (a≥b)))
 | _=>none
def Wx (op:BinOp) (k:IntKind) (a b:Int):Option (Prop×V):=
 match op with
 | .shl=>some (0≤b,.int k (k.wrap (a*2^min b.toNat k.bits)))
 | .shr=>some (0≤b,.int k (a.fdiv (2^min b.toNat k.bits)))
 | _=>none
def bV (op:BinOp) (a b:List UInt8):Option (Prop×V):=
 match op with
 | .add=>some (a.length+b.length≤9223372036854775807,.str (a++b))
 | .eql=>some (True,.bool (a==b))
 | .neq=>some (True,.bool !(a==b))
 | .lss=>some (True,.bool (Op.bytesLess a b))
 | .leq=>some (True,.bool (Op.bytesLess a b || a==b))
 | .gtr=>some (True,.bool !(Op.bytesLess a b || a==b))
 | .geq=>some (True,.bool !(Op.bytesLess a b))
 | _=>none
def Eg:List Nat→List V→List V→Option Bool
 | [],[],[]=>some true
 | 0::ks,.int k a::r,.int k' b::s=>if k=k' then (Eg ks r s).map ((a==b)&&·) else none
 | 1::ks,.bool a::r,.bool b::s=>(Eg ks r s).map ((a==b)&&·)
 | 2::ks,.str a::r,.str b::s=>(Eg ks r s).map ((a==b)&&·)
 | _,_,_=>none
def Hu (tag:Nat):List V→Option (Nat×List (List V))
 | []=>none
 | .own t off sz es::r=>if t=tag∧sz≠0 then some (off,es) else Hu tag r
 | _::r=>Hu tag r
def Nr (tag:Nat) (env:List (Nat×V)):List (Nat×V)→Option (Nat×List (List V))
 | []=>none
 | (x,_)::r=>match look env x with
  | some v=>match Hu tag v.cells with
   | some y=>some y
   | none=>Nr tag env r
  | none=>Nr tag env r
def Sv (tag:Nat) (bx:List (Nat×List V)):List (Nat×List V)→Option (Nat×List (List V))
 | []=>none
 | (x,_)::r=>match look bx x with
  | some cs=>match Hu tag cs with
   | some y=>some y
   | none=>Sv tag bx r
  | none=>Sv tag bx r
def St.find (S:St) (tag:Nat):Option (Nat×List (List V)):=
 match Nr tag S.env S.env with
 | some x=>some x
 | none=>Sv tag S.bx S.bx
def Ih (ag:Bool) (n:Nat) (cs:List V):Option V:=
 if ag then some (.agg (cs.take n)) else cs.head?
def Bx (cs:List V) (off:Nat):List V→List V
 | []=>cs
 | v::r=>Bx (cs.set off v) (off+1) r
def Je (s:List UInt8):List (List V):=s.map fun b=>[V.int .u8 (b.toNat:Int)]
def Yr:List (List V)→List UInt8
 | [.int _ n]::r=>UInt8.ofNat n.toNat::Yr r
 | _::r=>0::Yr r
 | []=>[]
def Bc:V→Bool
 | .undef | .tup .. | .may .. => true
 | _=>false
def Pq:List V→Bool
 | []=>true
 | .int .. :: r | .bool .. :: r | .str .. :: r | .lst .. :: r | .iptr .. :: r | .ptr .. :: r=>Pq r
 | _=>false
def scal:V→Bool
 | .int .. | .bool .. | .str .. | .undef=>true
 | _=>false
def thin:V→Bool
 | .lst _ []=>true
 | c=>scal c
def tL (T j k:Nat):V→V
 | .lst sz es=>.nrow T j k sz es
 | c=>if scal c then c else .undef
def Lq (T j:Nat):Nat→List V→List V
 | _,[]=>[]
 | k,c::r=>tL T j k c::Lq T j (k+1) r
def dvs (T j k:Nat) (cs:List V):List V:=bif Bh T then Lq T j k cs else cs
def Ff:Option V→Option (Option Int)
 | none=>some none
 | some (.int _ n)=>some (some n)
 | _=>none
def Xw (sz n:Nat):List (List V):=List.replicate n (List.replicate sz .undef)
def nL (s:List UInt8) (n:Int):Int:=Go.firstIdx ⟨s.toArray⟩ n.toNat.toUInt8
def Yj (a b:List UInt8):Int:=Extern.BytealgCompare.cmp ⟨a.toArray⟩ ⟨b.toArray⟩
def Pe (n:Int):List (List V)→Bool
 | [.int _ k,.bool b]::r=>if k=n then b else Pe n r
 | _::r=>Pe n r
 | []=>false
def Un (n:Int) (b:Bool):List (List V)→List (List V)
 | [.int q k,.bool c]::r=>if k=n then [.int q k,.bool b]::r else [.int q k,.bool c]::Un n b r
 | e::r=>e::Un n b r
 | []=>[[.int .i64 n,.bool b]]
def mputH (n:Int) (b:Bool):List (List V)→List (List V)
 | [.tup []]::r=>[.tup []]::Un n b r
 | es=>es
def lX (t:Nat) (n:Int) (b:Bool):V→V
 | .own t' off sz es=>if t'=t then .own t' off sz (mputH n b es) else .own t' off sz es
 | c=>c
def pu (S:St) (rd:Bj→V):PU→Option (Prop×V)
 | .mv x=>some (True,rd x)
 | .bin op x y=>match rd x,rd y with
  | .int k a,.int k' b=>match op with
   | .shl | .shr=>Wx op k a b
   | _=>if k=k' then bF op k a b else none
  | .str a,.str b=>bV op a b
  | _,_=>none
 | .binB op x y=>match rd x,rd y with
  | .bool a,.bool b=>match op with
   | .eql=>some (True,.bool (a==b))
   | .neq=>some (True,.bool !(a==b))
   | _=>none
  | _,_=>none
 | .eqs ne ks x y=>match rd x,rd y with
  | .agg cs,.agg ds=>match Eg ks cs ds with
   | some b=>some (True,.bool (if ne then !b else b))
   | none=>none
  | _,_=>none
 | .un op x=>match op,rd x with
  | .neg,.int k n=>some (True,.int k (k.wrap (0-n)))
  | .xor,.int k n=>some (True,.int k (k.wrap (BitVec.ofInt k.bits (if k.signed then -1 else k.max) ^^^ BitVec.ofInt k.bits n).toNat))
  | .not,.bool b=>some (True,.bool !b)
  | _,_=>none
 | .conv k x=>match rd x with
  | .int _ n=>some (True,.int k (k.wrap n))
  | _=>none
 | .load x n ag=>match rd x with
  | .ptr tag k=>match look S.bx tag with
   | some cs=>match Ih ag n (cs.drop k) with
    | some v=>some (k+n≤cs.length,v)
    | none=>none
   | none=>none
  | .iptr cs=>match Ih ag n cs with
   | some v=>some (n≤cs.length,v)
   | none=>none
  | .optr tag sz j k=>match S.find tag with
   | some (off,es)=>match Ih ag n (dvs tag j k ((es.getD (j-off) []).drop k)) with
    | some v=>some (off≤j∧j<off+es.length∧k+n≤sz∧(es.getD (j-off) []).length=sz,v)
    | none=>none
   | none=>none
  | _=>none
 | .fieldA x off=>match rd x with
  | .ptr tag k=>some (True,.ptr tag (k+off))
  | .iptr cs=>some (off≤cs.length,.iptr (cs.drop off))
  | .optr tag sz j k=>some (True,.optr tag sz j (k+off))
  | _=>none
 | .idxA x i sz=>match rd x,rd i with
  | .lst s es,.int _ n=>some (s=sz∧0≤n∧n<es.length,.iptr (es.getD n.toNat []))
  | .own tag off s es,.int _ n=>some (s=sz∧0≤n∧n<es.length,.optr tag sz (off+n.toNat) 0)
  | _,_=>none
 | .idxArr x i len sz=>match rd x,rd i with
  | .ptr tag k,.int _ n=>some (0≤n∧n<len,.ptr tag (k+n.toNat*sz))
  | .iptr cs,.int _ n=>some (0≤n∧n<len∧n.toNat*sz≤cs.length,.iptr (cs.drop (n.toNat*sz)))
  | _,_=>none
 | .field x off n ag=>match rd x with
  | .agg cs=>match Ih ag n (cs.drop off) with
   | some v=>some (off+n≤cs.length,v)
   | none=>none
  | _=>none
 | .idxStr x i=>match rd x,rd i with
  | .str s,.int _ n=>some (0≤n∧n<s.length,.int .u8 ((s.getD n.toNat 0).toNat:Int))
  | _,_=>none
 | .sliceStr x lo hi=>match rd x,Ff (lo.map rd),Ff (hi.map rd) with
  | .str s,some l,some h=>
   some (0≤l.getD 0∧l.getD 0≤h.getD s.length∧h.getD s.length≤s.length,
    .str ((s.take (h.getD s.length).toNat).drop (l.getD 0).toNat))
  | _,_,_=>none
 | .slice x lo hi sz=>match rd x,Ff (lo.map rd),Ff (hi.map rd) with
  | .lst s es,some l,some h=>
   some (s=sz∧0≤l.getD 0∧l.getD 0≤h.getD es.length∧h.getD es.length≤es.length,
    .lst sz ((es.take (h.getD es.length).toNat).drop (l.getD 0).toNat))
  | .own tag off s es,some l,some h=>
   some (s=sz∧0≤l.getD 0∧l.getD 0≤h.getD es.length∧(h.getD es.length≤es.length∨(off=0∧0<sz∧∃c,S.capOf x=some c∧h.getD es.length≤Jq c)),
    .own tag (off+(l.getD 0).toNat) sz (((es++Xw sz ((h.getD es.length).toNat-es.length)).take (h.getD es.length).toNat).drop (l.getD 0).toNat))
  | _,_,_=>none
 | .lenS x=>match rd x with
  | .str s=>some (True,.int .i64 s.length)
  | _=>none
 | .strc x=>match rd x with
  | .str s=>some (True,.str s)
  | _=>none
 | .len x=>match rd x with
  | .lst s es=>some (s≠0,.int .i64 es.length)
  | .own _ _ s es=>some (s≠0,.int .i64 es.length)
  | _=>none
 | .xbyte x y=>match rd x,rd y with
  | .str s,.int .u8 n=>some (True,.int .i64 (nL s n))
  | _,_=>none
 | .scmp x y=>match rd x,rd y with
  | .str a,.str b=>some (True,.int .i64 (Yj a b))
  | _,_=>none
 | .ovl x y=>match rd x,rd y with
  | .own t _ s es,.own t' _ s' es'=>some (t≠t'∧(es≠[]∧es'≠[])∧s≠0∧s'≠0,.bool false)
  | _,_=>none
 | .chr x=>match rd x with
  | .int _ n=>some (0≤n∧n<128,.str [UInt8.ofNat n.toNat])
  | _=>none
 | .mget x y=>match rd x,rd y with
  | .own _ _ 0 ([.tup []]::es),.int .i64 n=>some (True,.bool (Pe n es))
  | .lst 0 ([.tup []]::es),.int .i64 n=>some (True,.bool (Pe n es))
  | _,_=>none
 | .mn x y=>match rd x,rd y with
  | .int k a,.int k' b=>some (k=k',.int k (if b<a then b else a))
  | _,_=>none
 | .mx x y=>match rd x,rd y with
  | .int k a,.int k' b=>some (k=k',.int k (if b>a then b else a))
  | _,_=>none
 | .ext x i=>match rd x with
  | .tup vs=>match vs[i]? with
   | some v=>some (True,v)
   | none=>none
  | _=>none
 | .build zero parts=>
  some (Bq (fun p=>Bc (rd p.2.2)=false∧(rd p.2.2).cells.length=p.2.1∧p.1+p.2.1≤zero.length) parts,
   .agg (parts.foldl (fun cs p=>Bx cs p.1 (rd p.2.2).cells) zero))
 | .fn f caps=>some (Pq (caps.map rd)=true,.clo f (caps.map rd))
 | .nilc x=>match rd x with
  | .ptr t k=>some (True,.ptr t k)
  | .iptr cs=>some (True,.iptr cs)
  | .optr t s j k=>some (True,.optr t s j k)
  | _=>none
 | .toStr x=>match rd x with
  | .lst s es=>some (s=1∧Je (Yr es)=es,.str (Yr es))
  | .own _ _ s es=>some (s=1∧Je (Yr es)=es,.str (Yr es))
  | _=>none
inductive aO where
 | p (o:PU)
 | pick (c a b:Bj)
 | box (x:Bj)
 | alloc (zero:List V)
 | store (x v:Bj) (n:Nat)
 | mkS (sz:Nat) (zero:List V) (len:Nat) (parts:List (Nat×Bj))
 | nilS (sz:Nat)
 | make (sz bytes:Nat) (zero:List V) (l c:Bj)
 | app (sz bytes:Nat) (x y:Bj)
 | appz (sz bytes:Nat) (zero:List V) (x n:Bj)
 | copy (sz:Nat) (x y:Bj)
 | toBytes (x:Bj)
 | call (f:Nat) (args:List Bj)
 | callv (x:Bj) (args:List Bj)
 | isnil (x:Bj) (ne:Bool)
 | cap (x:Bj)
 | mkM
 | mset (x k v:Bj)
 | clear (sz:Nat) (zero:List V) (x:Bj)
 | chk3 (x lo hi mx:Bj)
 | bad
structure Bg where
 dst:Option Nat
 op:aO
 g:Option (Nat×Bool)
inductive DP where
 | fin
 | take (i:Bg) (r:DP)
 | alt (held:List Bg) (i:Bg) (r rest:DP)
 | stop
 | dead
inductive IR where
 | skip
 | reg (l:List Bg)
 | draw (p:DP)
 | seq (a b:IR)
 | ite (c:Bj) (a b:IR)
 | block (id:Nat) (a:IR)
 | loop (a:IR)
 | exit (id:Nat)
 | ret
 | bad
def Ge (t:Nat):V→Bool
 | .own t' _ _ _ | .ptr t' _ | .optr t' _ _ _ | .nrow t' _ _ _ _=>t' != t
 | _=>true
def Fc (t:Nat):V→Bool
 | .clo _ caps=>caps.all (Ge t)
 | c=>Ge t c
def cellsL:List V→List V
 | []=>[]
 | v::r=>v.cells++cellsL r
def V.flat1:V→List V
 | .agg cs=>cs
 | .tup vs=>cellsL vs
 | v=>[v]
def V.flat:V→List V
 | .may _ v=>v.flat1
 | v=>v.flat1
def V.no (t:Nat) (v:V):Bool:=v.flat.all (Fc t)
def iL (t:Nat) (v:V):V:=if v.no t then v else .undef
def Aab (t:Nat) (v:V):V:=if Fc t v then v else .undef
def Nq (t:Nat):List (Nat×V)→List (Nat×V)
 | []=>[]
 | (a,v)::r=>(a,iL t v)::Nq t r
def Kj (t:Nat):List V→List V
 | []=>[]
 | c::r=>Aab t c::Kj t r
def Wh (t:Nat):List (Nat×List V)→List (Nat×List V)
 | []=>[]
 | (a,cs)::r=>(a,Kj t cs)::Wh t r
def St.drop (S:St) (t:Nat):St:={ env:=Nq t S.env,bx:=Wh t S.bx,cp:=S.cp }
def St.drops (S:St):List Nat→St
 | []=>S
 | t::r=>(S.drop t).drops r
def Ez (f:V→V):V→V
 | .agg cs=>.agg (cs.map f)
 | .tup vs=>.tup (vs.map fun | .agg cs=>.agg (cs.map f) | c=>f c)
 | .may b (.agg cs)=>.may b (.agg (cs.map f))
 | .may b (.tup vs)=>.may b (.tup (vs.map fun | .agg cs=>.agg (cs.map f) | c=>f c))
 | .may b c=>.may b (f c)
 | c=>f c
def Jk (f:V→V):List (Nat×V)→List (Nat×V)
 | []=>[]
 | (a,v)::r=>(a,Ez f v)::Jk f r
def Nc (f:V→V):List (Nat×List V)→List (Nat×List V)
 | []=>[]
 | (a,cs)::r=>(a,cs.map f)::Nc f r
def St.map (S:St) (f:V→V):St:={ env:=Jk f S.env,bx:=Nc f S.bx,cp:=S.cp }
abbrev Bd:Nat:=1048576
def frz (t:Nat):V→V
 | .own t' off sz es=>if t'=t then .lst sz es else .own t' off sz es
 | c=>c
def St.freeze (S:St) (t:Nat):St:=if t<Bd then (S.map (frz t)).drop t else S.drop t
def St.freezes (S:St):List Nat→St
 | []=>S
 | t::r=>(S.freeze t).freezes r
def Ds (off:Nat) (es:List (List V)) (at_:Nat) (ys:List (List V)):List (List V):=
 es.mapIdx fun i e=>if at_≤off+i then (ys[off+i-at_]?).getD e else e
def Yg (t sz at_:Nat) (ys:List (List V)):V→V
 | .own t' off sz' es=>if t'=t then (if sz'=sz then .own t' off sz' (Ds off es at_ ys) else .undef) else .own t' off sz' es
 | c=>c
def Bs:List V→List Nat
 | []=>[]
 | .own t _ _ _::r=>t::Bs r
 | _::r=>Bs r
def V.tags (v:V):List Nat:=Bs v.flat
def Mt:List V→List V
 | []=>[]
 | v::r=>v.flat++Mt r
def Hy:List (Nat×V)→List Nat
 | []=>[]
 | p::r=>p.2.tags++Hy r
def Mb (p:V→Bool):List V→Bool
 | []=>true
 | c::r=>p c&&Mb p r
def Cm:V→V
 | .own t _ sz es=>if t<Bd then .lst sz es else .undef
 | .int k n=>.int k n
 | .bool b=>.bool b
 | .str s=>.str s
 | .lst sz es=>.lst sz es
 | .iptr cs=>.iptr cs
 | _=>.undef
def Hj:V→Bool
 | .int .. | .bool .. | .str .. | .lst .. | .own .. | .iptr .. => false
 | _=>true
def Nh (b:Bool):V→V→V
 | .bool x,.bool y=>.bool (bif b then x else y)
 | .int k x,.int k' y=>if k=k' then .int k (bif b then x else y) else if b then .int k x else .int k' y
 | x,y=>if b then x else y
def St.setBx (S:St) (t:Nat) (cs:List V):St:={ S with bx:=ins S.bx t cs }
def Jf (sz:Nat) (es:List (List V)):List (Nat×List V)→List (List V)
 | []=>es
 | (i,cs)::r=>Jf sz (es.set i cs) r
structure Ow where
 args:List V
 bx:List (List V)
structure Ep where
 r:V
 bx:List (List V)
 rw:List (Nat×Nat×List (List V))
abbrev Az:=Nat→Ow→Ep→Prop
def Fd (t:Nat):List Nat→Nat→Option Nat
 | [],_=>none
 | x::r,k=>if x=t then some k else Fd t r (k+1)
def Bu:List Nat→Bool
 | []=>true
 | x::r=>r.all (· != x)&&Bu r
def Ly:V→V
 | .int k n=>.int k n
 | .bool b=>.bool b
 | .str s=>.str s
 | .lst sz es=>.lst sz es
 | .iptr cs=>.iptr cs
 | _=>.undef
def If:V→V
 | .clo f caps=>.clo f (caps.map Ly)
 | c=>Ly c
def cl0 (XR:List Nat):V→V
 | .own t _ sz es=>if XR.contains t then .undef else .lst sz es
 | c=>If c
def St.cl (S:St) (XB XR:List Nat):Nat→V→V
 | 0,c=>cl0 XR c
 | n+1,.ptr t k=>if XB.contains t then .undef else match look S.bx t with
  | some cs=>.iptr ((cs.drop k).map (S.cl XB XR n))
  | none=>.undef
 | n+1,.clo f caps=>.clo f (caps.map (S.cl XB XR n))
 | _+1,c=>cl0 XR c
def bG (LR LM:List Nat) (fz:Bool) (t off sz:Nat) (es:List (List V)):V:=
 match Fd t LR 0 with
 | some i=>.own (2097152+tg t i) off sz es
 | none=>match Fd t LM 0 with
  | some i=>bif Bh t then .undef else .own (1024000+i) off sz es
  | none=>if fz && !decide (t<Bd) then .undef else .lst sz es
def St.liftP (S:St) (LB XR:List Nat) (fz:Bool) (n:Nat):V→V
 | .ptr t k=>match Fd t LB 0 with
  | some i=>.ptr (Bd+i) k
  | none=>if fz then .undef else S.cl LB XR n (.ptr t k)
 | c=>If c
def St.liftC (S:St) (LB LR LM:List Nat) (fz:Bool):V→V
 | .own t off sz es=>bG LR LM fz t off sz es
 | .clo f caps=>.clo f (caps.map (S.liftP LB (LR++LM) fz 2))
 | c=>S.liftP LB (LR++LM) fz 3 c
def mapW (f:V→V):V→V
 | .agg cs=>.agg (cs.map f)
 | c=>f c
def St.given (S:St):List Nat→List (List V)
 | []=>[]
 | t::r=>(look S.bx t).getD []::S.given r
def Nb (f:V→V):List (List V)→List (List V)
 | []=>[]
 | cs::r=>cs.map f::Nb f r
def St.give (S:St) (args:List V) (LB LR LM:List Nat) (fz:Bool):Ow:=
 ⟨args.map (mapW (S.liftC LB LR LM fz)),Nb (S.liftC LB LR LM fz) (S.given LB)⟩
def Yp (X:List Nat):List Nat→List Nat
 | []=>[]
 | t::r=>if X.contains t then Yp X r else t::Yp X r
def St.frzTags (S:St) (args:List V) (LB LR LM:List Nat):List Nat:=Yp (LR++LM) (Bs (Mt args++(S.given LB).flatten))
def Ma (LR:List Nat) (t:Nat):Option Nat:=match LR[(t-2097152)%32]? with
 | some T=>bif Nat.beq t (2097152+tg T ((t-2097152)%32)) then some T else none
 | none=>none
def Fv (d nn:Nat) (LB LR:List Nat):V→V
 | .own t off sz es=>if t<64 then .own (64*d+t) off sz es else if t<2097152 then .undef else match Ma LR t with
  | some T=>.own T off sz es
  | none=>.undef
 | .ptr t k=>if t<nn then .ptr (64*d+t) k else if t<Bd then .undef else match LB[t-Bd]? with
  | some T=>.ptr T k
  | none=>.undef
 | c=>If c
def Up (LR:List Nat) (rw:List (Nat×Nat×List (List V))):V→V
 | .own t off sz es=>match Fd t LR 0 with
  | none=>.own t off sz es
  | some i=>match rw[i]? with
   | some (o,s,es')=>if off=o∧sz=s∧es.length=es'.length then .own t off sz es' else .undef
   | none=>.undef
 | .nrow T j c sz es=>bif LR.contains T then .undef else .nrow T j c sz es
 | c=>c
def St.rows (S:St) (LR:List Nat) (rw:List (Nat×Nat×List (List V))):St:=
 match LR with
 | []=>S
 | _=>S.map (Up LR rw)
def St.boxes (S:St) (f:V→V):List Nat→List (List V)→St
 | [],_=>S
 | T::r,cs::q=>(S.setBx T (cs.map f)).boxes f r q
 | T::r,[]=>(S.setBx T []).boxes f r []
def Pf (d:Nat):Nat→List Nat
 | 0=>[]
 | n+1=>Pf d n++[64*d+n]
def Lz (d:Nat):List Nat→List Nat
 | []=>[]
 | t::r=>if t<64 then (64*d+t)::Lz d r else Lz d r
def Ep.newR (t:Ep) (d:Nat):List Nat:=Lz d (Bs (t.r.flat++t.bx.flatten))
def Ep.newB (t:Ep) (d nb:Nat):List Nat:=Pf d (t.bx.length-nb)
def St.after (S:St) (args:List V) (d:Nat) (fz:Bool) (LB LR LM:List Nat) (t:Ep):St:=
 let S1:=if fz then S.freezes (S.frzTags args LB LR LM) else S
 let S2:=S1.drops (LM++(t.newR d++t.newB d LB.length))
 (S2.rows LR t.rw).boxes (Fv d (t.bx.length-LB.length) LB LR) (LB++t.newB d LB.length) t.bx
def Fw:V→Bool
 | .int .. | .bool .. | .str .. | .undef | .ptr .. => true
 | .own t _ _ es=>Bh t || es.all (·.all scal)
 | _=>false
def Ep.flat (t:Ep):Bool:=(t.r.flat++t.bx.flatten).all Fw&&t.rw.all fun p=>p.2.2.all (·.all scal)
def Lc:V→V
 | .own t _ sz es=>bif Bh t then .undef else .lst sz es
 | c=>If c
def Na (n:Nat):List Nat→Bool
 | []=>true
 | t::r=>decide (t<n)&&Na n r
def Iy (X:List Nat):List Nat→Bool
 | []=>true
 | t::r => !X.contains t&&Iy X r
def eG (C:Az) (f:Nat) (args:List V) (d:Option Nat) (S:St) (K:St→Prop):Prop:=
 Mb (fun v => !Bc v) args=true∧∃(LB LR LM:List Nat) (fz:Bool) (t:Ep),
  (Bu LB=true∧Bu (LR++LM)=true∧Na Bd LM=true∧LB.all (fun T=>(look S.bx T).isSome)=true) ∧
  (Na 33 [t.bx.length-LB.length,LM.length,LR.length]=true∧Iy (t.newB (d.getD 0) LB.length) LB=true∧Iy (t.newR (d.getD 0)) LR=true) ∧
  (fz=false→t.flat=true)∧C f (S.give args LB LR LM fz) t ∧
  K ((S.after args (d.getD 0) fz LB LR LM t).put d (Ez (Fv (d.getD 0) (t.bx.length-LB.length) LB LR) t.r))
def gO (C:Az) (f:Nat) (args:List V) (d:Option Nat) (g:Bool) (S:St) (K:St→Prop):Prop:=
 (g=true→Mb (fun v => !Bc v) args=true)∧∃(fz:Bool) (r:V),(g=true→C f (S.give args [] [] [] fz) ⟨r,[],[]⟩) ∧
  (fz=false→r.flat.all Fw=true)∧(fz=true→Bs (Mt args)=[])∧K (S.put d (.may g (Ez Lc r)))
def Lk:V→Bool→Option Bool
 | .bool b,want=>some (b==want)
 | .may b' (.bool b),want=>some (b'&&(b==want))
 | _,_=>none
def lA:V→Option (List (List V))
 | .lst (_+1) es=>some es
 | .own _ _ (_+1) es=>some es
 | _=>none
def Jn:V→Option (Nat×List (List V))
 | .lst sz es=>some (sz,es)
 | .own t _ sz es=>bif Bh t then none else some (sz,es)
 | .str s=>some (1,Je s)
 | _=>none
def Uo:V→Bool
 | .own t 0 (_+1) es=>decide (t<Bd) && !Bh t&&es.all (·.all scal)
 | _=>false
def Uq (t sz at_:Nat) (ys:List (List V)):V→V
 | .nrow t' j c s es=>if t'=t then .undef else .nrow t' j c s es
 | c=>Yg t sz at_ ys c
def dW (off j c:Nat) (x:V) (es:List (List V)):List (List V):=es.mapIdx fun i e=>if off+i=j then e.set c x else e
def bZ (T s0 j c:Nat) (x:V):V→V
 | .own t off sz es=>if t=T then (if sz=s0 then .own t off sz (dW off j c x es) else .undef) else .own t off sz es
 | .nrow t j' c' sz es=>if t=T then .undef else .nrow t j' c' sz es
 | v=>v
def jC (T j c sz:Nat) (es:List (List V)):List V→List V→Prop
 | [],[]=>True
 | v::r,u::q=>((v = .nrow T j c sz es∧u = .own 2097152 0 sz es)∨(u=v∧scal v=true∧Bc v=false))∧jC T j c sz es r q
 | _,_=>False
def uX (C:Az) (f:Nat) (args:List V) (d:Option Nat) (S:St) (K:St→Prop):Prop:=
 ∃(T s0 j c sz:Nat) (es es':List (List V)) (us:List V) (r:V),jC T j c sz es args us∧sz≠0∧es'.length=es.length∧(es'.all fun e=>Nat.beq e.length sz&&e.all scal)=true∧scal r=true∧Bc r=false∧Bh T=true ∧
  (∃off es0,S.find T=some (off,es0)∧off≤j∧(es0.getD (j-off) []).length=s0∧(es0.getD (j-off) [])[c]? = some (.lst sz es)) ∧
  C f ⟨us,[]⟩ ⟨r,[],[(0,sz,es')]⟩∧K ((S.map (bZ T s0 j c (.lst sz es'))).put d r)
def Hq (rd:Bj→V) (u:PU) (l:List (Nat×Int)):Option Int:=
 match u with
 | .mv x=>Kh l x
 | .slice x lo _ _=>match Kh l x with
  | some c=>match rd x,Ff (lo.map rd) with
   | .own ..,some l=>some (c-l.getD 0)
   | _,_=>none
  | none=>none
 | _=>none
abbrev Mm (S:St) (rd:Bj→V) (u:PU):Option Int:=Hq rd u S.cp
def Ef (x:Bj) (n:Nat) (l:List (Nat×Int)):Option Int:=
 match Kh l x with
 | some c=>if (n:Int)≤Jq c then some c else none
 | none=>none
def Se (C:Az) (d:Option Nat) (op:aO) (S:St) (K:St→Prop):Prop:=
 match op with
 | .p o=>Bq (fun x=>As true (S.val x)) o.opds∧match pu S (fun x=>Ai (S.val x)) o with
  | some (φ,v)=>φ∧K (S.putC d v (Hq (fun x=>Ai (S.val x)) o))
  | none=>False
 | .pick c a b=>As true (S.val c)∧match Ai (S.val c) with
  | .bool cb=>As cb (S.val a)∧As (!cb) (S.val b)∧K (S.put d (Nh cb (Ai (S.val a)) (Ai (S.val b))))
  | _=>False
 | .box x=>match d with
  | some d=>let S1:=S.drop (64*d)
   As true (S1.val x)∧Bc (Ai (S1.val x))=false∧K ((S1.setBx (64*d) (Ai (S1.val x)).cells).put (some d) (.ptr (64*d) 0))
  | none=>False
 | .alloc zero=>match d with
  | some d=>K (((S.drop (64*d)).setBx (64*d) zero).put (some d) (.ptr (64*d) 0))
  | none=>False
 | .store x v n=>As true (S.val x)∧As true (S.val v) ∧
  let cs:=(Ai (S.val v)).cells
  Bc (Ai (S.val v))=false∧cs.length=n∧match Ai (S.val x) with
  | .ptr t k=>match look S.bx t with
   | some bs=>k+n≤bs.length∧K ((S.setBx t (Bx bs k cs)).put d .undef)
   | none=>False
  | .optr t sz j k=>match S.find t with
   | some (off,es)=>off≤j∧j<off+es.length∧k+n≤sz∧(es.getD (j-off) []).length=sz ∧
    let S1:=S.freezes (Ai (S.val v)).tags
    ((Bh t=false∧cs.all (fun c => !Hj c)=true∧(Ai (S.val v)).tags.all (· != t)=true ∧
     K ((S1.map (Yg t sz j [Bx (es.getD (j-off) []) k (cs.map Cm)])).put d .undef)) ∨
    (Bh t=true∧cs.all (fun c=>scal c || (decide (t<Bd)&&Uo c))=true∧Bu (Ai (S.val v)).tags=true ∧
     K (((S.drops (Ai (S.val v)).tags).map (Uq t sz j [Bx (es.getD (j-off) []) k (cs.map Cm)])).put d .undef)))
   | none=>False
  | _=>False
 | .mkS sz zero len parts=>match d with
  | some d=>
   let vs:=parts.map fun p=>(p.1,Ai (S.val p.2))
   Bq (fun p=>As true (S.val p.2)) parts ∧
   Bq (fun p=>p.1<len∧p.2.cells.length=sz∧p.2.cells.all (fun c => !Hj c)=true) vs ∧
   (K (((S.freezes (Hy vs)).drop (64*d)).put (some d)
    (.own (64*d) 0 sz (Jf sz (List.replicate len zero) (vs.map fun p=>(p.1,p.2.cells.map Cm))))) ∨
   ∃x,parts=[(0,x)]∧len=1∧(Ai (S.val x)).cells.all (fun c=>scal c || Uo c)=true∧Bu (Ai (S.val x)).tags=true ∧
    K ((((S.drop (64*d+32)).put (some d) (.own (64*d+32) 0 sz [List.replicate sz .undef])).drops (Ai (S.val x)).tags).map (Uq (64*d+32) sz 0 [(Ai (S.val x)).cells.map Cm])))
  | none=>False
 | .nilS sz=>match d with
  | some d=>K ((S.drop (64*d)).put (some d) (.own (64*d) 0 sz []))
  | none=>False
 | .make sz bytes zero l c=>As true (S.val l)∧As true (S.val c)∧match d,Ai (S.val l),Ai (S.val c) with
  | some d,.int _ l,.int _ c=>0≤l∧l=c∧c*bytes≤140737488355328 ∧
   (K ((S.drop (64*d)).put (some d) (.own (64*d) 0 sz (List.replicate l.toNat zero))) ∨
    zero.all thin=true∧K ((S.drop (64*d+32)).put (some d) (.own (64*d+32) 0 sz (List.replicate l.toNat zero))))
  | _,_,_=>False
 | .app sz bytes x y=>As true (S.val x)∧As true (S.val y)∧match Ai (S.val x),Jn (Ai (S.val y)) with
  | .own t off s es,some (s',ys)=>t<Bd∧off=0∧s=sz∧s'=sz∧(es.length+ys.length)*bytes≤140737488355328∧Bh t=false ∧
   K ((S.drop t).putC d (.own t 0 sz (es++ys)) (Ef x (es.length+ys.length)))
  | .own t off s es,none=>match Ai (S.val y) with
   | .own t2 off2 s2 ys=>t<Bd∧off=0∧s=sz∧t2<Bd∧off2=0∧s2=sz∧t2≠t∧(es.length+ys.length)*bytes≤140737488355328∧Bh t=true∧Bh t2=true ∧
    K (((S.drop t).drop t2).putC d (.own t 0 sz (es++ys)) (Ef x (es.length+ys.length)))
   | _=>False
  | _,_=>False
 | .appz sz bytes zero x n=>As true (S.val x)∧As true (S.val n)∧match Ai (S.val x),Ai (S.val n) with
  | .own t off s es,.int _ l=>t<Bd∧off=0∧s=sz∧0≤l∧((es.length:Int)+l)*bytes≤140737488355328∧Bh t=false ∧
   (K ((S.drop t).putC d (.own t 0 sz (es++List.replicate l.toNat zero)) (Ef x (es.length+l.toNat))) ∨
    ∃d' c,d=some d'∧S.capOf x=some c∧Ei≤c∧c-Ei<es.length+l∧K ((S.drop (64*d')).put d (.own (64*d') 0 sz (es++List.replicate l.toNat zero))))
  | _,_=>False
 | .copy sz x y=>As true (S.val x)∧As true (S.val y)∧match Ai (S.val x),Jn (Ai (S.val y)) with
  | .own t off s es,some (s',ys)=>s=sz∧s'=sz∧Bh t=false ∧
   K ((S.map (Yg t sz off (ys.take es.length))).put d (.int .i64 (min ys.length es.length:Nat)))
  | _,_=>False
 | .toBytes x=>As true (S.val x)∧match Ai (S.val x) with
  | .str s=>K (S.put d (.lst 1 (Je s)))
  | _=>False
 | .call f args=>Bq (fun x=>As true (S.val x)) args∧(eG C f (args.map fun x=>Ai (S.val x)) d S K∨uX C f (args.map fun x=>Ai (S.val x)) d S K)
 | .callv x args=>As true (S.val x)∧Bq (fun x=>As true (S.val x)) args∧match Ai (S.val x) with
  | .clo f caps=>eG C f (args.map (fun x=>Ai (S.val x))++caps) d S K
  | _=>False
 | .isnil x ne=>As true (S.val x)∧match lA (Ai (S.val x)) with
  | some es=>∀b:Bool,(b=true→es=[])→K (S.put d (.bool (if ne then !b else b)))
  | none=>False
 | .mkM=>match d with
  | some d=>K ((S.drop (64*d)).put (some d) (.own (64*d) 0 0 [[.tup []]]))
  | none=>False
 | .mset x k v=>As true (S.val x)∧As true (S.val k)∧As true (S.val v)∧match Ai (S.val x),Ai (S.val k),Ai (S.val v) with
  | .own t _ 0 ([.tup []]::_),.int .i64 n,.bool b=>K ((S.map (lX t n b)).put d .undef)
  | _,_,_=>False
 | .cap x=>As true (S.val x)∧match Ai (S.val x),x with
  | .own _ off sz es,.t n=>sz≠0∧∀c:Nat,es.length≤c→(off=0→c≤9223372036854775807)→(∀c0,S.capOf x=some c0→Ei≤c0→(c:Int)=c0-Ei)→K (St.put { S with cp:=Jw n (fun _=>some (Ei+c)) S.cp } d (.int .i64 c))
  | _,_=>False
 | .clear sz zero x=>As true (S.val x)∧match Ai (S.val x) with
  | .own t off s es=>s=sz∧Bh t=false∧K ((S.map (Yg t sz off (List.replicate es.length zero))).put d .undef)
  | _=>False
 | .chk3 x lo hi mx=>(As true (S.val x)∧As true (S.val lo)∧As true (S.val hi)∧As true (S.val mx))∧match lA (Ai (S.val x)),Ai (S.val lo),Ai (S.val hi),Ai (S.val mx) with
  | some es,.int _ a,.int _ b,.int _ c=>0≤a∧a≤b∧b≤c∧c≤es.length∧K (S.put d .undef)
  | _,_,_,_=>False
 | .bad=>False
def Cc (S:St) (op:aO) (v:V):Prop:=
 match op with
 | .p o=>Bq (fun x=>As true (S.val x)) o.opds∧∃ψ,pu S (fun x=>Ai (S.val x)) o=some (ψ,v)∧ψ
 | .pick c a b=>As true (S.val c)∧∃cb,Ai (S.val c) = .bool cb∧As cb (S.val a)∧As (!cb) (S.val b)∧v=Nh cb (Ai (S.val a)) (Ai (S.val b))
 | _=>False
def wGd (C:Az) (d:Option Nat) (op:aO) (g:Bool) (S:St) (K:St→Prop):Prop:=
 match op with
 | .p o=>∃u,(g=true→Cc S (.p o) u)∧K (S.put d (.may g u))
 | .pick c a b=>∃u,(g=true→Cc S (.pick c a b) u)∧K (S.put d (.may g u))
 | .call f args=>(Bq (fun x=>As g (S.val x)) args∧gO C f (args.map fun x=>Ai (S.val x)) d g S K)∨((g=true→Se C d (.call f args) S K)∧(g=false→K (S.put d .undef)))
 | .callv x args=>(As g (S.val x)∧Bq (fun x=>As g (S.val x)) args∧match Ai (S.val x) with
  | .clo f caps=>gO C f (args.map (fun x=>Ai (S.val x))++caps) d g S K
  | _=>False)∨((g=true→Se C d (.callv x args) S K)∧(g=false→K (S.put d .undef)))
 | op=>(g=true→Se C d op S K)∧(g=false→K (S.put d .undef))
def Cg (C:Az) (i:Bg) (S:St) (K:St→Prop):Prop:=
 match i.g with
 | none=>Se C i.dst i.op S K
 | some (gs,want)=>match Lk (S.val (.t gs)) want with
  | some g=>wGd C i.dst i.op g S K
  | none=>False
def iF (S:St) (k:Nat) (c:Int):Prop:=
 (∃c',look S.cp k=some c'∧(c=c'∨c<Ei∧c≤Jq c'))∨(∃t off sz es,look S.env k=some (.own t off sz es)∧es≠[]∧c≤es.length∧c<Ei∧sz≠0) ∨
  ∃k' c' t sz off es off' es',look S.cp k'=some c'∧look S.env k'=some (.own t off' sz es')∧es'≠[]∧look S.env k=some (.own t off sz es)∧es≠[]∧sz≠0 ∧
   (c<Ei∧c+off≤Jq c'+off'∨c=c'∧off=off')
def Le (S S':St):Prop:=(∀t v,look S'.env t=some v→look S.env t=some v)∧(∀t cs,look S'.bx t=some cs→look S.bx t=some cs)∧(∀k c,look S'.cp k=some c→iF S k c)
def Vq (S S':St):Prop:=(∀t,look S.env t=look S'.env t)∧∀k,look S.cp k=look S'.cp k
def Qe (t t' x:Nat):Nat:=if x=t then t' else if x=t' then t else x
def vU (t t':Nat):V→V
 | .own x off sz es=>bif (Bh x==Bh (Qe t t' x)) || es.isEmpty then .own (Qe t t' x) off sz es else .undef
 | .optr x sz j k=>bif Bh x==Bh (Qe t t' x) then .optr (Qe t t' x) sz j k else .undef
 | .nrow x j c sz es=>bif Bh x==Bh (Qe t t' x) then .nrow (Qe t t' x) j c sz es else .undef
 | c=>c
def St.swap (S:St) (t t':Nat):St:=S.map (vU t t')
def St.swaps (S:St):List (Nat×Nat)→St
 | []=>S
 | (t,t')::r=>(S.swap t t').swaps r
def gI:List (Nat×Nat)→Bool
 | []=>true
 | (t,t')::r=>decide (t<Bd)&&decide (t'<Bd)&&gI r
inductive Fg:St→St→Prop
 | le {S S':St} (h:Le S S'):Fg S S'
 | fz (S:St) (ts:List Nat):Fg S (S.freezes ts)
 | sw (S:St) (rs:List (Nat×Nat)) (h:gI rs=true):Fg S (S.swaps rs)
 | trans {S S' S'':St} (h1:Fg S S') (h2:Fg S' S''):Fg S S''
def mP (C:Az):List Bg→(St→Prop)→St→Prop
 | [],K,S=>K S
 | i::r,K,S=>∃S1,Fg S S1∧Cg C i S1 (mP C r K)
def Ct (i:Bg) (S:St):Prop:=
 match i.op with
 | .p (.load x _ _)=>match Ai (S.val x) with
  | .optr .. => False
  | _=>True
 | _=>True
def Dq (C:Az) (X:List Bg) (S:St):Prop:=Bq (fun j=>Cg C j S (fun S'=>Vq S' S)) X
def Fy (C:Az) (X l:List Bg) (S:St):Prop:=Bq (fun j=>(Ct j S∨j∈X)∧Cg C j S (fun S'=>Vq S' S)) l
def WD (C:Az):DP→List Bg→(St→Prop)→St→Prop
 | .fin,_,K,S=>K S
 | .take i r,X,K,S=>(Ct i S∧Cg C i S (fun S'=>Dq C X S'∧WD C r X K S'))∨Cg C i S (fun S'=>Dq C (i::X) S'∧WD C r (i::X) K S')
 | .alt held i r rest,X,K,S=>Cg C i S (fun S'=>∃S1,Fg S' S1∧∃X',Fy C X' held S1∧Dq C X' S1∧WD C r X' K S1)∧WD C rest X K S
 | .stop,_,_,_=>True
 | .dead,_,_,_=>False
inductive Ex where
 | normal
 | exit (id:Nat)
 | ret
def W (C:Az):IR→(Ex→St→Prop)→St→Prop
 | .skip,Q,S=>Q .normal S
 | .reg l,Q,S=>mP C l (Q .normal) S
 | .draw p,Q,S=>WD C p [] (Q .normal) S
 | .seq a b,Q,S=>W C a (fun e S'=>match e with | .normal=>∃S1,Fg S' S1∧W C b Q S1 | e=>Q e S') S
 | .ite c a b,Q,S=>As true (S.val c)∧match Ai (S.val c) with
  | .bool cb=>(cb=true→W C a Q S)∧(cb=false→W C b Q S)
  | _=>False
 | .block id a,Q,S=>W C a (fun e S'=>match e with | .exit id'=>if id'=id then Q .normal S' else Q (.exit id') S' | e=>Q e S') S
 | .loop a,Q,S=>∃(I:St→Prop) (μ:St→Nat),(∃S1,Fg S S1∧I S1)∧∀S,I S →
   W C a (fun e S'=>match e with | .normal=>∃S'',Fg S' S''∧I S''∧μ S''<μ S | e=>Q e S') S
 | .exit id,Q,S=>Q (.exit id) S
 | .ret,Q,S=>Q .ret S
 | .bad,_,_=>False
end Go.Ev
