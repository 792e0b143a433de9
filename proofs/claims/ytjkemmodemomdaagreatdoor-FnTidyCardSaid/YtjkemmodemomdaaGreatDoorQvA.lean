/- A small abstract machine over values: values, states, instructions, and the predicate transformer W. No memory, no world. -/
import GoSem.Core.Code
import GoSem.Core.View
import GoSem.Op.String
import Derived.Laws.Externs
set_option linter.all false
namespace Go.Ev
inductive V where
 | int (k:IntKind) (n:Int)
 | bool (b:Bool)
 | str (s:List UInt8)
 | lst (sz:Nat) (es:List (List V))
 | own (tag off sz:Nat) (es:List (List V))
 | nrow (T j c sz:Nat) (es:List (List V))
 | ptr (tag k:Nat)
 | iptr (cs:List V)
 | optr (tag sz j k:Nat)
 | agg (cs:List V)
 | tup (vs:List V)
 | clo (f:Nat) (caps:List V)
 | may (b:Bool) (v:V)
 | undef
 deriving Inhabited
def Az (t:Nat):Bool:=Nat.beq (t / 32%2) 1
def tg (t e:Nat):Nat:=bif Az t then e+32 else e
def look {α:Type}:List (Nat×α)→Nat→Option α
 | [],_=>none
 | (a,x)::r,t=>if a=t then some x else look r t
def ins {α:Type} (l:List (Nat×α)) (d:Nat) (v:α):List (Nat×α):=(d,v)::l
structure St where
 env:List (Nat×V)
 bx:List (Nat×List V)
 
 cp:List (Nat×Int):=[]
inductive Ay where
 | t (n:Nat)
 | c (v:V)
def St.val (S:St):Ay→V
 | .t n=>(look S.env n).getD .undef
 | .c v=>v
abbrev Fj:Int:=4611686018427387904
def Ky (c:Int):Int:=if c<Fj then c else c-Fj
def Ii (l:List (Nat×Int)):Ay→Option Int
 | .t n=>look l n
 | .c _=>none
abbrev St.capOf (S:St) (x:Ay):Option Int:=Ii S.cp x
def Ho (d:Nat) (f:List (Nat×Int)→Option Int):List (Nat×Int)→List (Nat×Int)
 | []=>match f [] with
  | some c=>[(d,c)]
  | none=>[]
 | p::r=>match f (p::r) with
  | some c=>(d,c)::(p::r).filter fun p=>p.1 != d
  | none=>(p::r).filter fun p=>p.1 != d
def St.put (S:St) (d:Option Nat) (v:V):St:=
 match d with
 | some d=>{ env:=ins S.env d v,bx:=S.bx,cp:=Ho d (fun _=>none) S.cp }
 | none=>S
def St.putC (S:St) (d:Option Nat) (v:V) (f:List (Nat×Int)→Option Int):St:=
 match d with
 | some d=>{ env:=ins S.env d v,bx:=S.bx,cp:=Ho d f S.cp }
 | none=>S
def Ab:V→V
 | .may _ v=>v
 | v=>v
def Af (g:Bool):V→Prop
 | .may b _=>g=true→b=true
 | _=>True
def Be {α:Type} (p:α→Prop):List α→Prop
 | []=>True
 | x::r=>p x∧Be p r
def V.cells:V→List V
 | .agg cs=>cs
 | v=>[v]
inductive PU where
 | mv (x:Ay)
 | bin (op:BinOp) (x y:Ay)
 | eqs (ne:Bool) (ks:List Nat) (x y:Ay)
 | un (op:UnOp) (x:Ay)
 | conv (k:IntKind) (x:Ay)
 | load (x:Ay) (n:Nat) (ag:Bool)
 | fieldA (x:Ay) (off:Nat)
 | idxA (x i:Ay) (sz:Nat)
 | idxArr (x i:Ay) (len sz:Nat)
 | field (x:Ay) (off n:Nat) (ag:Bool)
 | idxStr (x i:Ay)
 | sliceStr (x:Ay) (lo hi:Option Ay)
 | slice (x:Ay) (lo hi:Option Ay) (sz:Nat)
 | len (x:Ay)
 | lenS (x:Ay)
 | strc (x:Ay)
 | binB (op:BinOp) (x y:Ay)
 | mn (x y:Ay)
 | mx (x y:Ay)
 | ext (x:Ay) (i:Nat)
 | build (zero:List V) (parts:List (Nat×Nat×Ay))
 | fn (f:Nat) (caps:List Ay)
 | nilc (x:Ay)
 | toStr (x:Ay)
 | xbyte (x c:Ay)
 | scmp (x y:Ay)
 | ovl (x y:Ay)
 | mget (x k:Ay)
 | chr (x:Ay)
def PU.opds:PU→List Ay
 | .mv x | .un _ x | .conv _ x | .load x _ _ | .fieldA x _ | .field x _ _ _ | .len x | .lenS x | .chr x | .strc x | .ext x _ | .nilc x | .toStr x=>[x]
 | .xbyte x y | .scmp x y | .ovl x y | .mget x y | .bin _ x y | .binB _ x y | .eqs _ _ x y | .idxA x y _ | .idxArr x y _ _ | .idxStr x y | .mn x y | .mx x y=>[x,y]
 | .sliceStr x lo hi | .slice x lo hi _=>x::(lo.toList++hi.toList)
 | .build _ ps=>ps.map (·.2.2)
 | .fn _ cs=>cs
def Ti (op:BinOp) (k:IntKind) (a b:Int):Option (Prop×V):=
 match op with
 | .add=>some (True,.int k (k.wrap (a+b)))
 | .sub=>some (True,.int k (k.wrap (a-b)))
 | .mul=>some (True,.int k (k.wrap (a*b)))
 | .quo=>some (b≠0,.int k (k.wrap (a.tdiv b)))
 | .rem=>some (b≠0,.int k (a.tmod b))
 | .and=>some (True,.int k (k.wrap (BitVec.ofInt k.bits a &&& BitVec.ofInt k.bits b).toNat))
 | .or=>some (True,.int k (k.wrap (BitVec.ofInt k.bits a ||| BitVec.ofInt k.bits b).toNat))
 | .xor=>some (True,.int k (k.wrap (BitVec.ofInt k.bits a ^^^ BitVec.ofInt k.bits b).toNat))
 | .andNot=>some (True,.int k (k.wrap (BitVec.ofInt k.bits a &&& ~~~ BitVec.ofInt k.bits b).toNat))
 | .eql=>some (True,.bool (a==b))
 | .neq=>some (True,.bool (a != b))
 | .lss=>some (True,.bool (decide (a<b)))
 | .leq=>some (True,.bool (decide (a≤b)))
 | .gtr=>some (True,.bool (decide (a>b)))
 | .geq=>some (True,.bool (decide (a≥b)))
 | _=>none
def Qe (op:BinOp) (k:IntKind) (a b:Int):Option (Prop×V):=
 match op with
 | .shl=>some (0≤b,.int k (k.wrap (a*2^min b.toNat k.bits)))
 | .shr=>some (0≤b,.int k (a.fdiv (2^min b.toNat k.bits)))
 | _=>none
def Tw (op:BinOp) (a b:List UInt8):Option (Prop×V):=
 match op with
 | .add=>some (a.length+b.length≤9223372036854775807,.str (a++b))
 | .eql=>some (True,.bool (a==b))
 | .neq=>some (True,.bool !(a==b))
 | .lss=>some (True,.bool (Op.bytesLess a b))
 | .leq=>some (True,.bool (Op.bytesLess a b || a==b))
 | .gtr=>some (True,.bool !(Op.bytesLess a b || a==b))
 | .geq=>some (True,.bool !(Op.bytesLess a b))
 | _=>none
def Cx:List Nat→List V→List V→Option Bool
 | [],[],[]=>some true
 | 0::ks,.int k a::r,.int k' b::s=>if k=k' then (Cx ks r s).map ((a==b)&&·) else none
 | 1::ks,.bool a::r,.bool b::s=>(Cx ks r s).map ((a==b)&&·)
 | 2::ks,.str a::r,.str b::s=>(Cx ks r s).map ((a==b)&&·)
 | _,_,_=>none
def Ga (tag:Nat):List V→Option (Nat×List (List V))
 | []=>none
 | .own t off sz es::r=>if t=tag∧sz≠0 then some (off,es) else Ga tag r
 | _::r=>Ga tag r
def Ko (tag:Nat) (env:List (Nat×V)):List (Nat×V)→Option (Nat×List (List V))
 | []=>none
 | (x,_)::r=>match look env x with
  | some v=>match Ga tag v.cells with
   | some y=>some y
   | none=>Ko tag env r
  | none=>Ko tag env r
def Nq (tag:Nat) (bx:List (Nat×List V)):List (Nat×List V)→Option (Nat×List (List V))
 | []=>none
 | (x,_)::r=>match look bx x with
  | some cs=>match Ga tag cs with
   | some y=>some y
   | none=>Nq tag bx r
  | none=>Nq tag bx r
def St.find (S:St) (tag:Nat):Option (Nat×List (List V)):=
 match Ko tag S.env S.env with
 | some x=>some x
 | none=>Nq tag S.bx S.bx
def Iz (ag:Bool) (n:Nat) (cs:List V):Option V:=
 if ag then some (.agg (cs.take n)) else cs.head?
def Bo (cs:List V) (off:Nat):List V→List V
 | []=>cs
 | v::r=>Bo (cs.set off v) (off+1) r
def Ha (s:List UInt8):List (List V):=s.map fun b=>[V.int .u8 (b.toNat:Int)]
def Vt:List (List V)→List UInt8
 | [.int _ n]::r=>UInt8.ofNat n.toNat::Vt r
 | _::r=>0::Vt r
 | []=>[]
def As:V→Bool
 | .undef | .tup .. | .may .. => true
 | _=>false
def Lq:List V→Bool
 | []=>true
 | .int .. :: r | .bool .. :: r | .str .. :: r | .lst .. :: r | .iptr .. :: r | .ptr .. :: r=>Lq r
 | _=>false
def scal:V→Bool
 | .int .. | .bool .. | .str .. | .undef=>true
 | _=>false
def wY:V→Bool
 | .lst _ []=>true
 | c=>scal c
def dD (T j k:Nat):V→V
 | .lst sz es=>.nrow T j k sz es
 | c=>if scal c then c else .undef
def Ka (T j:Nat):Nat→List V→List V
 | _,[]=>[]
 | k,c::r=>dD T j k c::Ka T j (k+1) r
def tE (T j k:Nat) (cs:List V):List V:=bif Az T then Ka T j k cs else cs
def Fz:Option V→Option (Option Int)
 | none=>some none
 | some (.int _ n)=>some (some n)
 | _=>none
def dU (sz n:Nat):List (List V):=List.replicate n (List.replicate sz .undef)
def Sz (s:List UInt8) (n:Int):Int:=Go.firstIdx ⟨s.toArray⟩ n.toNat.toUInt8
def wF (a b:List UInt8):Int:=Extern.BytealgCompare.cmp ⟨a.toArray⟩ ⟨b.toArray⟩
def Lg (n:Int):List (List V)→Bool
 | [.int _ k,.bool b]::r=>if k=n then b else Lg n r
 | _::r=>Lg n r
 | []=>false
def Ov (n:Int) (b:Bool):List (List V)→List (List V)
 | [.int q k,.bool c]::r=>if k=n then [.int q k,.bool b]::r else [.int q k,.bool c]::Ov n b r
 | e::r=>e::Ov n b r
 | []=>[[.int .i64 n,.bool b]]
def qG (n:Int) (b:Bool):List (List V)→List (List V)
 | [.tup []]::r=>[.tup []]::Ov n b r
 | es=>es
def Zv (t:Nat) (n:Int) (b:Bool):V→V
 | .own t' off sz es=>if t'=t then .own t' off sz (qG n b es) else .own t' off sz es
 | c=>c
def pu (S:St) (rd:Ay→V):PU→Option (Prop×V)
 | .mv x=>some (True,rd x)
 | .bin op x y=>match rd x,rd y with
  | .int k a,.int k' b=>match op with
   | .shl | .shr=>Qe op k a b
   | _=>if k=k' then Ti op k a b else none
  | .str a,.str b=>Tw op a b
  | _,_=>none
 | .binB op x y=>match rd x,rd y with
  | .bool a,.bool b=>match op with
   | .eql=>some (True,.bool (a==b))
   | .neq=>some (True,.bool !(a==b))
   | _=>none
  | _,_=>none
 | .eqs ne ks x y=>match rd x,rd y with
  | .agg cs,.agg ds=>match Cx ks cs ds with
   | some b=>some (True,.bool (if ne then !b else b))
   | none=>none
  | _,_=>none
 | .un op x=>match op,rd x with
  | .neg,.int k n=>some (True,.int k (k.wrap (0-n)))
  | .xor,.int k n=>some (True,.int k (k.wrap (BitVec.ofInt k.bits (if k.signed then -1 else k.max) ^^^ BitVec.ofInt k.bits n).toNat))
  | .not,.bool b=>some (True,.bool !b)
  | _,_=>none
 | .conv k x=>match rd x with
  | .int _ n=>some (True,.int k (k.wrap n))
  | _=>none
 | .load x n ag=>match rd x with
  | .ptr tag k=>match look S.bx tag with
   | some cs=>match Iz ag n (cs.drop k) with
    | some v=>some (k+n≤cs.length,v)
    | none=>none
   | none=>none
  | .iptr cs=>match Iz ag n cs with
   | some v=>some (n≤cs.length,v)
   | none=>none
  | .optr tag sz j k=>match S.find tag with
   | some (off,es)=>match Iz ag n (tE tag j k ((es.getD (j-off) []).drop k)) with
    | some v=>some (off≤j∧j<off+es.length∧k+n≤sz∧(es.getD (j-off) []).length=sz,v)
    | none=>none
   | none=>none
  | _=>none
 | .fieldA x off=>match rd x with
  | .ptr tag k=>some (True,.ptr tag (k+off))
  | .iptr cs=>some (off≤cs.length,.iptr (cs.drop off))
  | .optr tag sz j k=>some (True,.optr tag sz j (k+off))
  | _=>none
 | .idxA x i sz=>match rd x,rd i with
  | .lst s es,.int _ n=>some (s=sz∧0≤n∧n<es.length,.iptr (es.getD n.toNat []))
  | .own tag off s es,.int _ n=>some (s=sz∧0≤n∧n<es.length,.optr tag sz (off+n.toNat) 0)
  | _,_=>none
 | .idxArr x i len sz=>match rd x,rd i with
  | .ptr tag k,.int _ n=>some (0≤n∧n<len,.ptr tag (k+n.toNat*sz))
  | .iptr cs,.int _ n=>some (0≤n∧n<len∧n.toNat*sz≤cs.length,.iptr (cs.drop (n.toNat*sz)))
  | _,_=>none
 | .field x off n ag=>match rd x with
  | .agg cs=>match Iz ag n (cs.drop off) with
   | some v=>some (off+n≤cs.length,v)
   | none=>none
  | _=>none
 | .idxStr x i=>match rd x,rd i with
  | .str s,.int _ n=>some (0≤n∧n<s.length,.int .u8 ((s.getD n.toNat 0).toNat:Int))
  | _,_=>none
 | .sliceStr x lo hi=>match rd x,Fz (lo.map rd),Fz (hi.map rd) with
  | .str s,some l,some h=>
   some (0≤l.getD 0∧l.getD 0≤h.getD s.length∧h.getD s.length≤s.length,
    .str ((s.take (h.getD s.length).toNat).drop (l.getD 0).toNat))
  | _,_,_=>none
 | .slice x lo hi sz=>match rd x,Fz (lo.map rd),Fz (hi.map rd) with
  | .lst s es,some l,some h=>
   some (s=sz∧0≤l.getD 0∧l.getD 0≤h.getD es.length∧h.getD es.length≤es.length,
    .lst sz ((es.take (h.getD es.length).toNat).drop (l.getD 0).toNat))
  | .own tag off s es,some l,some h=>
   some (s=sz∧0≤l.getD 0∧l.getD 0≤h.getD es.length∧(h.getD es.length≤es.length∨(off=0∧0<sz∧∃c,S.capOf x=some c∧h.getD es.length≤Ky c)),
    .own tag (off+(l.getD 0).toNat) sz (((es++dU sz ((h.getD es.length).toNat-es.length)).take (h.getD es.length).toNat).drop (l.getD 0).toNat))
  | _,_,_=>none
 | .lenS x=>match rd x with
  | .str s=>some (True,.int .i64 s.length)
  | _=>none
 | .strc x=>match rd x with
  | .str s=>some (True,.str s)
  | _=>none
 | .len x=>match rd x with
  | .lst s es=>some (s≠0,.int .i64 es.length)
  | .own _ _ s es=>some (s≠0,.int .i64 es.length)
  | _=>none
 | .xbyte x y=>match rd x,rd y with
  | .str s,.int .u8 n=>some (True,.int .i64 (Sz s n))
  | _,_=>none
 | .scmp x y=>match rd x,rd y with
  | .str a,.str b=>some (True,.int .i64 (wF a b))
  | _,_=>none
 | .ovl x y=>match rd x,rd y with
  | .own t _ s es,.own t' _ s' es'=>some (t≠t'∧(es≠[]∧es'≠[])∧s≠0∧s'≠0,.bool false)
  | _,_=>none
 | .chr x=>match rd x with
  | .int _ n=>some (0≤n∧n<128,.str [UInt8.ofNat n.toNat])
  | _=>none
 | .mget x y=>match rd x,rd y with
  | .own _ _ 0 ([.tup []]::es),.int .i64 n=>some (True,.bool (Lg n es))
  | .lst 0 ([.tup []]::es),.int .i64 n=>some (True,.bool (Lg n es))
  | _,_=>none
 | .mn x y=>match rd x,rd y with
  | .int k a,.int k' b=>some (k=k',.int k (if b<a then b else a))
  | _,_=>none
 | .mx x y=>match rd x,rd y with
  | .int k a,.int k' b=>some (k=k',.int k (if b>a then b else a))
  | _,_=>none
 | .ext x i=>match rd x with
  | .tup vs=>match vs[i]? with
   | some v=>some (True,v)
   | none=>none
  | _=>none
 | .build zero parts=>
  some (Be (fun p=>As (rd p.2.2)=false∧(rd p.2.2).cells.length=p.2.1∧p.1+p.2.1≤zero.length) parts,
   .agg (parts.foldl (fun cs p=>Bo cs p.1 (rd p.2.2).cells) zero))
 | .fn f caps=>some (Lq (caps.map rd)=true,.clo f (caps.map rd))
 | .nilc x=>match rd x with
  | .ptr t k=>some (True,.ptr t k)
  | .iptr cs=>some (True,.iptr cs)
  | .optr t s j k=>some (True,.optr t s j k)
  | _=>none
 | .toStr x=>match rd x with
  | .lst s es=>some (s=1∧Ha (Vt es)=es,.str (Vt es))
  | .own _ _ s es=>some (s=1∧Ha (Vt es)=es,.str (Vt es))
  | _=>none
inductive Sw where
 | p (o:PU)
 | pick (c a b:Ay)
 | box (x:Ay)
 | alloc (zero:List V)
 | store (x v:Ay) (n:Nat)
 | mkS (sz:Nat) (zero:List V) (len:Nat) (parts:List (Nat×Ay))
 | nilS (sz:Nat)
 | make (sz bytes:Nat) (zero:List V) (l c:Ay)
 | app (sz bytes:Nat) (x y:Ay)
 | appz (sz bytes:Nat) (zero:List V) (x n:Ay)
 | copy (sz:Nat) (x y:Ay)
 | toBytes (x:Ay)
 | call (f:Nat) (args:List Ay)
 | callv (x:Ay) (args:List Ay)
 | isnil (x:Ay) (ne:Bool)
 | cap (x:Ay)
 | mkM
 | mset (x k v:Ay)
 | clear (sz:Nat) (zero:List V) (x:Ay)
 | chk3 (x lo hi mx:Ay)
 | bad
structure Bq where
 dst:Option Nat
 op:Sw
 g:Option (Nat×Bool)
inductive DP where
 | fin
 | take (i:Bq) (r:DP)
 | alt (held:List Bq) (i:Bq) (r rest:DP)
 | stop
 | dead
inductive IR where
 | skip
 | reg (l:List Bq)
 | draw (p:DP)
 | seq (a b:IR)
 | ite (c:Ay) (a b:IR)
 | block (id:Nat) (a:IR)
 | loop (a:IR)
 | exit (id:Nat)
 | ret
 | bad
def Eg (t:Nat):V→Bool
 | .own t' _ _ _ | .ptr t' _ | .optr t' _ _ _ | .nrow t' _ _ _ _=>t' != t
 | _=>true
def Dp (t:Nat):V→Bool
 | .clo _ caps=>caps.all (Eg t)
 | c=>Eg t c
def cellsL:List V→List V
 | []=>[]
 | v::r=>v.cells++cellsL r
def V.flat1:V→List V
 | .agg cs=>cs
 | .tup vs=>cellsL vs
 | v=>[v]
def V.flat:V→List V
 | .may _ v=>v.flat1
 | v=>v.flat1
def V.no (t:Nat) (v:V):Bool:=v.flat.all (Dp t)
def Ya (t:Nat) (v:V):V:=if v.no t then v else .undef
def qD (t:Nat) (v:V):V:=if Dp t v then v else .undef
def Kn (t:Nat):List (Nat×V)→List (Nat×V)
 | []=>[]
 | (a,v)::r=>(a,Ya t v)::Kn t r
def Ht (t:Nat):List V→List V
 | []=>[]
 | c::r=>qD t c::Ht t r
def Pu (t:Nat):List (Nat×List V)→List (Nat×List V)
 | []=>[]
 | (a,cs)::r=>(a,Ht t cs)::Pu t r
def St.drop (S:St) (t:Nat):St:={ env:=Kn t S.env,bx:=Pu t S.bx,cp:=S.cp }
def St.drops (S:St):List Nat→St
 | []=>S
 | t::r=>(S.drop t).drops r
def Ft (f:V→V):V→V
 | .agg cs=>.agg (cs.map f)
 | .tup vs=>.tup (vs.map fun | .agg cs=>.agg (cs.map f) | c=>f c)
 | .may b (.agg cs)=>.may b (.agg (cs.map f))
 | .may b (.tup vs)=>.may b (.tup (vs.map fun | .agg cs=>.agg (cs.map f) | c=>f c))
 | .may b c=>.may b (f c)
 | c=>f c
def Ql (f:V→V):List (Nat×V)→List (Nat×V)
 | []=>[]
 | (a,v)::r=>(a,Ft f v)::Ql f r
def Vb (f:V→V):List (Nat×List V)→List (Nat×List V)
 | []=>[]
 | (a,cs)::r=>(a,cs.map f)::Vb f r
def St.map (S:St) (f:V→V):St:={ env:=Ql f S.env,bx:=Vb f S.bx,cp:=S.cp }
abbrev Au:Nat:=1048576
def frz (t:Nat):V→V
 | .own t' off sz es=>if t'=t then .lst sz es else .own t' off sz es
 | c=>c
def St.freeze (S:St) (t:Nat):St:=if t<Au then (S.map (frz t)).drop t else S.drop t
def St.freezes (S:St):List Nat→St
 | []=>S
 | t::r=>(S.freeze t).freezes r
def Dm (off:Nat) (es:List (List V)) (at_:Nat) (ys:List (List V)):List (List V):=
 es.mapIdx fun i e=>if at_≤off+i then (ys[off+i-at_]?).getD e else e
def Tz (t sz at_:Nat) (ys:List (List V)):V→V
 | .own t' off sz' es=>if t'=t then (if sz'=sz then .own t' off sz' (Dm off es at_ ys) else .undef) else .own t' off sz' es
 | c=>c
def Bj:List V→List Nat
 | []=>[]
 | .own t _ _ _::r=>t::Bj r
 | _::r=>Bj r
def V.tags (v:V):List Nat:=Bj v.flat
def Ld:List V→List V
 | []=>[]
 | v::r=>v.flat++Ld r
def Gf:List (Nat×V)→List Nat
 | []=>[]
 | p::r=>p.2.tags++Gf r
def Lk (p:V→Bool):List V→Bool
 | []=>true
 | c::r=>p c&&Lk p r
def Cj:V→V
 | .own t _ sz es=>if t<Au then .lst sz es else .undef
 | .int k n=>.int k n
 | .bool b=>.bool b
 | .str s=>.str s
 | .lst sz es=>.lst sz es
 | .iptr cs=>.iptr cs
 | _=>.undef
def He:V→Bool
 | .int .. | .bool .. | .str .. | .lst .. | .own .. | .iptr .. => false
 | _=>true
def Ke (b:Bool):V→V→V
 | .bool x,.bool y=>.bool (bif b then x else y)
 | .int k x,.int k' y=>if k=k' then .int k (bif b then x else y) else if b then .int k x else .int k' y
 | x,y=>if b then x else y
def St.setBx (S:St) (t:Nat) (cs:List V):St:={ S with bx:=ins S.bx t cs }
def Hb (sz:Nat) (es:List (List V)):List (Nat×List V)→List (List V)
 | []=>es
 | (i,cs)::r=>Hb sz (es.set i cs) r
structure Lj where
 args:List V
 bx:List (List V)
structure Dh where
 r:V
 bx:List (List V)
 rw:List (Nat×Nat×List (List V))
abbrev Bb:=Nat→Lj→Dh→Prop
def Ds (t:Nat):List Nat→Nat→Option Nat
 | [],_=>none
 | x::r,k=>if x=t then some k else Ds t r (k+1)
def Bn:List Nat→Bool
 | []=>true
 | x::r=>r.all (· != x)&&Bn r
def Iw:V→V
 | .int k n=>.int k n
 | .bool b=>.bool b
 | .str s=>.str s
 | .lst sz es=>.lst sz es
 | .iptr cs=>.iptr cs
 | _=>.undef
def Gi:V→V
 | .clo f caps=>.clo f (caps.map Iw)
 | c=>Iw c
def uI (XR:List Nat):V→V
 | .own t _ sz es=>if XR.contains t then .undef else .lst sz es
 | c=>Gi c
def St.cl (S:St) (XB XR:List Nat):Nat→V→V
 | 0,c=>uI XR c
 | n+1,.ptr t k=>if XB.contains t then .undef else match look S.bx t with
  | some cs=>.iptr ((cs.drop k).map (S.cl XB XR n))
  | none=>.undef
 | n+1,.clo f caps=>.clo f (caps.map (S.cl XB XR n))
 | _+1,c=>uI XR c
def Tj (LR LM:List Nat) (fz:Bool) (t off sz:Nat) (es:List (List V)):V:=
 match Ds t LR 0 with
 | some i=>.own (2097152+tg t i) off sz es
 | none=>match Ds t LM 0 with
  | some i=>bif Az t then .undef else .own (1024000+i) off sz es
  | none=>if fz && !decide (t<Au) then .undef else .lst sz es
def St.liftP (S:St) (LB XR:List Nat) (fz:Bool) (n:Nat):V→V
 | .ptr t k=>match Ds t LB 0 with
  | some i=>.ptr (Au+i) k
  | none=>if fz then .undef else S.cl LB XR n (.ptr t k)
 | c=>Gi c
def St.liftC (S:St) (LB LR LM:List Nat) (fz:Bool):V→V
 | .own t off sz es=>Tj LR LM fz t off sz es
 | .clo f caps=>.clo f (caps.map (S.liftP LB (LR++LM) fz 2))
 | c=>S.liftP LB (LR++LM) fz 3 c
def mapW (f:V→V):V→V
 | .agg cs=>.agg (cs.map f)
 | c=>f c
def St.given (S:St):List Nat→List (List V)
 | []=>[]
 | t::r=>(look S.bx t).getD []::S.given r
def Jy (f:V→V):List (List V)→List (List V)
 | []=>[]
 | cs::r=>cs.map f::Jy f r
def St.give (S:St) (args:List V) (LB LR LM:List Nat) (fz:Bool):Lj:=
 ⟨args.map (mapW (S.liftC LB LR LM fz)),Jy (S.liftC LB LR LM fz) (S.given LB)⟩
def Rp (X:List Nat):List Nat→List Nat
 | []=>[]
 | t::r=>if X.contains t then Rp X r else t::Rp X r
def St.frzTags (S:St) (args:List V) (LB LR LM:List Nat):List Nat:=Rp (LR++LM) (Bj (Ld args++(S.given LB).flatten))
def Ja (LR:List Nat) (t:Nat):Option Nat:=match LR[(t-2097152)%32]? with
 | some T=>bif Nat.beq t (2097152+tg T ((t-2097152)%32)) then some T else none
 | none=>none
def Ek (d nn:Nat) (LB LR:List Nat):V→V
 | .own t off sz es=>if t<64 then .own (64*d+t) off sz es else if t<2097152 then .undef else match Ja LR t with
  | some T=>.own T off sz es
  | none=>.undef
 | .ptr t k=>if t<nn then .ptr (64*d+t) k else if t<Au then .undef else match LB[t-Au]? with
  | some T=>.ptr T k
  | none=>.undef
 | c=>Gi c
def Ow (LR:List Nat) (rw:List (Nat×Nat×List (List V))):V→V
 | .own t off sz es=>match Ds t LR 0 with
  | none=>.own t off sz es
  | some i=>match rw[i]? with
   | some (o,s,es')=>if off=o∧sz=s∧es.length=es'.length then .own t off sz es' else .undef
   | none=>.undef
 | .nrow T j c sz es=>bif LR.contains T then .undef else .nrow T j c sz es
 | c=>c
def St.rows (S:St) (LR:List Nat) (rw:List (Nat×Nat×List (List V))):St:=
 match LR with
 | []=>S
 | _=>S.map (Ow LR rw)
def St.boxes (S:St) (f:V→V):List Nat→List (List V)→St
 | [],_=>S
 | T::r,cs::q=>(S.setBx T (cs.map f)).boxes f r q
 | T::r,[]=>(S.setBx T []).boxes f r []
def Lh (d:Nat):Nat→List Nat
 | 0=>[]
 | n+1=>Lh d n++[64*d+n]
def Kb (d:Nat):List Nat→List Nat
 | []=>[]
 | t::r=>if t<64 then (64*d+t)::Kb d r else Kb d r
def Dh.newR (t:Dh) (d:Nat):List Nat:=Kb d (Bj (t.r.flat++t.bx.flatten))
def Dh.newB (t:Dh) (d nb:Nat):List Nat:=Lh d (t.bx.length-nb)
def St.after (S:St) (args:List V) (d:Nat) (fz:Bool) (LB LR LM:List Nat) (t:Dh):St:=
 let S1:=if fz then S.freezes (S.frzTags args LB LR LM) else S
 let S2:=S1.drops (LM++(t.newR d++t.newB d LB.length))
 (S2.rows LR t.rw).boxes (Ek d (t.bx.length-LB.length) LB LR) (LB++t.newB d LB.length) t.bx
def Gb:V→Bool
 | .int .. | .bool .. | .str .. | .undef | .ptr .. => true
 | .own t _ _ es=>Az t || es.all (·.all scal)
 | _=>false
def Dh.flat (t:Dh):Bool:=(t.r.flat++t.bx.flatten).all Gb&&t.rw.all fun p=>p.2.2.all (·.all scal)
def Jn:V→V
 | .own t _ sz es=>bif Az t then .undef else .lst sz es
 | c=>Gi c
def Lv (n:Nat):List Nat→Bool
 | []=>true
 | t::r=>decide (t<n)&&Lv n r
def Hx (X:List Nat):List Nat→Bool
 | []=>true
 | t::r => !X.contains t&&Hx X r
def Vw (C:Bb) (f:Nat) (args:List V) (d:Option Nat) (S:St) (K:St→Prop):Prop:=
 Lk (fun v => !As v) args=true∧∃(LB LR LM:List Nat) (fz:Bool) (t:Dh),
  (Bn LB=true∧Bn (LR++LM)=true∧Lv Au LM=true∧LB.all (fun T=>(look S.bx T).isSome)=true) ∧
  (Lv 33 [t.bx.length-LB.length,LM.length,LR.length]=true∧Hx (t.newB (d.getD 0) LB.length) LB=true∧Hx (t.newR (d.getD 0)) LR=true) ∧
  (fz=false→t.flat=true)∧C f (S.give args LB LR LM fz) t ∧
  K ((S.after args (d.getD 0) fz LB LR LM t).put d (Ft (Ek (d.getD 0) (t.bx.length-LB.length) LB LR) t.r))
def Xe (C:Bb) (f:Nat) (args:List V) (d:Option Nat) (g:Bool) (S:St) (K:St→Prop):Prop:=
 (g=true→Lk (fun v => !As v) args=true)∧∃(fz:Bool) (r:V),(g=true→C f (S.give args [] [] [] fz) ⟨r,[],[]⟩) ∧
  (fz=false→r.flat.all Gb=true)∧(fz=true→Bj (Ld args)=[])∧K (S.put d (.may g (Ft Jn r)))
def Jc:V→Bool→Option Bool
 | .bool b,want=>some (b==want)
 | .may b' (.bool b),want=>some (b'&&(b==want))
 | _,_=>none
def Zk:V→Option (List (List V))
 | .lst (_+1) es=>some es
 | .own _ _ (_+1) es=>some es
 | _=>none
def Jb:V→Option (Nat×List (List V))
 | .lst sz es=>some (sz,es)
 | .own t _ sz es=>bif Az t then none else some (sz,es)
 | .str s=>some (1,Ha s)
 | _=>none
def Zz:V→Bool
 | .own t 0 (_+1) es=>decide (t<Au) && !Az t&&es.all (·.all scal)
 | _=>false
def Vu (t sz at_:Nat) (ys:List (List V)):V→V
 | .nrow t' j c s es=>if t'=t then .undef else .nrow t' j c s es
 | c=>Tz t sz at_ ys c
def eC (off j c:Nat) (x:V) (es:List (List V)):List (List V):=es.mapIdx fun i e=>if off+i=j then e.set c x else e
def Vv (T s0 j c:Nat) (x:V):V→V
 | .own t off sz es=>if t=T then (if sz=s0 then .own t off sz (eC off j c x es) else .undef) else .own t off sz es
 | .nrow t j' c' sz es=>if t=T then .undef else .nrow t j' c' sz es
 | v=>v
def cN (T j c sz:Nat) (es:List (List V)):List V→List V→Prop
 | [],[]=>True
 | v::r,u::q=>((v = .nrow T j c sz es∧u = .own 2097152 0 sz es)∨(u=v∧scal v=true∧As v=false))∧cN T j c sz es r q
 | _,_=>False
def eN (C:Bb) (f:Nat) (args:List V) (d:Option Nat) (S:St) (K:St→Prop):Prop:=
 ∃(T s0 j c sz:Nat) (es es':List (List V)) (us:List V) (r:V),cN T j c sz es args us∧sz≠0∧es'.length=es.length∧(es'.all fun e=>Nat.beq e.length sz&&e.all scal)=true∧scal r=true∧As r=false∧Az T=true ∧
  (∃off es0,S.find T=some (off,es0)∧off≤j∧(es0.getD (j-off) []).length=s0∧(es0.getD (j-off) [])[c]? = some (.lst sz es)) ∧
  C f ⟨us,[]⟩ ⟨r,[],[(0,sz,es')]⟩∧K ((S.map (Vv T s0 j c (.lst sz es'))).put d r)
def Fv (rd:Ay→V) (u:PU) (l:List (Nat×Int)):Option Int:=
 match u with
 | .mv x=>Ii l x
 | .slice x lo _ _=>match Ii l x with
  | some c=>match rd x,Fz (lo.map rd) with
   | .own ..,some l=>some (c-l.getD 0)
   | _,_=>none
  | none=>none
 | _=>none
abbrev Jm (S:St) (rd:Ay→V) (u:PU):Option Int:=Fv rd u S.cp
def Ih (x:Ay) (n:Nat) (l:List (Nat×Int)):Option Int:=
 match Ii l x with
 | some c=>if (n:Int)≤Ky c then some c else none
 | none=>none
def Nb (C:Bb) (d:Option Nat) (op:Sw) (S:St) (K:St→Prop):Prop:=
 match op with
 | .p o=>Be (fun x=>Af true (S.val x)) o.opds∧match pu S (fun x=>Ab (S.val x)) o with
  | some (φ,v)=>φ∧K (S.putC d v (Fv (fun x=>Ab (S.val x)) o))
  | none=>False
 | .pick c a b=>Af true (S.val c)∧match Ab (S.val c) with
  | .bool cb=>Af cb (S.val a)∧Af (!cb) (S.val b)∧K (S.put d (Ke cb (Ab (S.val a)) (Ab (S.val b))))
  | _=>False
 | .box x=>match d with
  | some d=>let S1:=S.drop (64*d)
   Af true (S1.val x)∧As (Ab (S1.val x))=false∧K ((S1.setBx (64*d) (Ab (S1.val x)).cells).put (some d) (.ptr (64*d) 0))
  | none=>False
 | .alloc zero=>match d with
  | some d=>K (((S.drop (64*d)).setBx (64*d) zero).put (some d) (.ptr (64*d) 0))
  | none=>False
 | .store x v n=>Af true (S.val x)∧Af true (S.val v) ∧
  let cs:=(Ab (S.val v)).cells
  As (Ab (S.val v))=false∧cs.length=n∧match Ab (S.val x) with
  | .ptr t k=>match look S.bx t with
   | some bs=>k+n≤bs.length∧K ((S.setBx t (Bo bs k cs)).put d .undef)
   | none=>False
  | .optr t sz j k=>match S.find t with
   | some (off,es)=>off≤j∧j<off+es.length∧k+n≤sz∧(es.getD (j-off) []).length=sz ∧
    let S1:=S.freezes (Ab (S.val v)).tags
    ((Az t=false∧cs.all (fun c => !He c)=true∧(Ab (S.val v)).tags.all (· != t)=true ∧
     K ((S1.map (Tz t sz j [Bo (es.getD (j-off) []) k (cs.map Cj)])).put d .undef)) ∨
    (Az t=true∧cs.all (fun c=>scal c || (decide (t<Au)&&Zz c))=true∧Bn (Ab (S.val v)).tags=true ∧
     K (((S.drops (Ab (S.val v)).tags).map (Vu t sz j [Bo (es.getD (j-off) []) k (cs.map Cj)])).put d .undef)))
   | none=>False
  | _=>False
 | .mkS sz zero len parts=>match d with
  | some d=>
   let vs:=parts.map fun p=>(p.1,Ab (S.val p.2))
   Be (fun p=>Af true (S.val p.2)) parts ∧
   Be (fun p=>p.1<len∧p.2.cells.length=sz∧p.2.cells.all (fun c => !He c)=true) vs ∧
   (K (((S.freezes (Gf vs)).drop (64*d)).put (some d)
    (.own (64*d) 0 sz (Hb sz (List.replicate len zero) (vs.map fun p=>(p.1,p.2.cells.map Cj))))) ∨
   False)
  | none=>False
 | .nilS sz=>match d with
  | some d=>K ((S.drop (64*d)).put (some d) (.own (64*d) 0 sz []))
  | none=>False
 | .make sz bytes zero l c=>Af true (S.val l)∧Af true (S.val c)∧match d,Ab (S.val l),Ab (S.val c) with
  | some d,.int _ l,.int _ c=>0≤l∧l=c∧c*bytes≤140737488355328 ∧
   (K ((S.drop (64*d)).put (some d) (.own (64*d) 0 sz (List.replicate l.toNat zero))) ∨
    zero.all wY=true∧K ((S.drop (64*d+32)).put (some d) (.own (64*d+32) 0 sz (List.replicate l.toNat zero))))
  | _,_,_=>False
 | .app sz bytes x y=>Af true (S.val x)∧Af true (S.val y)∧match Ab (S.val x),Jb (Ab (S.val y)) with
  | .own t off s es,some (s',ys)=>t<Au∧off=0∧s=sz∧s'=sz∧(es.length+ys.length)*bytes≤140737488355328∧Az t=false ∧
   K ((S.drop t).putC d (.own t 0 sz (es++ys)) (Ih x (es.length+ys.length)))
  | _,_=>False
 | .appz sz bytes zero x n=>Af true (S.val x)∧Af true (S.val n)∧match Ab (S.val x),Ab (S.val n) with
  | .own t off s es,.int _ l=>t<Au∧off=0∧s=sz∧0≤l∧((es.length:Int)+l)*bytes≤140737488355328∧Az t=false ∧
   (K ((S.drop t).putC d (.own t 0 sz (es++List.replicate l.toNat zero)) (Ih x (es.length+l.toNat))) ∨
    ∃d' c,d=some d'∧S.capOf x=some c∧Fj≤c∧c-Fj<es.length+l∧K ((S.drop (64*d')).put d (.own (64*d') 0 sz (es++List.replicate l.toNat zero))))
  | _,_=>False
 | .copy sz x y=>Af true (S.val x)∧Af true (S.val y)∧match Ab (S.val x),Jb (Ab (S.val y)) with
  | .own t off s es,some (s',ys)=>s=sz∧s'=sz∧Az t=false ∧
   K ((S.map (Tz t sz off (ys.take es.length))).put d (.int .i64 (min ys.length es.length:Nat)))
  | _,_=>False
 | .toBytes x=>Af true (S.val x)∧match Ab (S.val x) with
  | .str s=>K (S.put d (.lst 1 (Ha s)))
  | _=>False
 | .call f args=>Be (fun x=>Af true (S.val x)) args∧(Vw C f (args.map fun x=>Ab (S.val x)) d S K∨eN C f (args.map fun x=>Ab (S.val x)) d S K)
 | .callv x args=>Af true (S.val x)∧Be (fun x=>Af true (S.val x)) args∧match Ab (S.val x) with
  | .clo f caps=>Vw C f (args.map (fun x=>Ab (S.val x))++caps) d S K
  | _=>False
 | .isnil x ne=>Af true (S.val x)∧match Zk (Ab (S.val x)) with
  | some es=>∀b:Bool,(b=true→es=[])→K (S.put d (.bool (if ne then !b else b)))
  | none=>False
 | .mkM=>match d with
  | some d=>K ((S.drop (64*d)).put (some d) (.own (64*d) 0 0 [[.tup []]]))
  | none=>False
 | .mset x k v=>Af true (S.val x)∧Af true (S.val k)∧Af true (S.val v)∧match Ab (S.val x),Ab (S.val k),Ab (S.val v) with
  | .own t _ 0 ([.tup []]::_),.int .i64 n,.bool b=>K ((S.map (Zv t n b)).put d .undef)
  | _,_,_=>False
 | .cap x=>Af true (S.val x)∧match Ab (S.val x),x with
  | .own _ off sz es,.t n=>sz≠0∧∀c:Nat,es.length≤c→(off=0→c≤9223372036854775807)→(∀c0,S.capOf x=some c0→Fj≤c0→(c:Int)=c0-Fj)→K (St.put { S with cp:=Ho n (fun _=>some (Fj+c)) S.cp } d (.int .i64 c))
  | _,_=>False
 | .clear sz zero x=>Af true (S.val x)∧match Ab (S.val x) with
  | .own t off s es=>s=sz∧Az t=false∧K ((S.map (Tz t sz off (List.replicate es.length zero))).put d .undef)
  | _=>False
 | .chk3 x lo hi mx=>(Af true (S.val x)∧Af true (S.val lo)∧Af true (S.val hi)∧Af true (S.val mx))∧match Zk (Ab (S.val x)),Ab (S.val lo),Ab (S.val hi),Ab (S.val mx) with
  | some es,.int _ a,.int _ b,.int _ c=>0≤a∧a≤b∧b≤c∧c≤es.length∧K (S.put d .undef)
  | _,_,_,_=>False
 | .bad=>False
def Cf (S:St) (op:Sw) (v:V):Prop:=
 match op with
 | .p o=>Be (fun x=>Af true (S.val x)) o.opds∧∃ψ,pu S (fun x=>Ab (S.val x)) o=some (ψ,v)∧ψ
 | .pick c a b=>Af true (S.val c)∧∃cb,Ab (S.val c) = .bool cb∧Af cb (S.val a)∧Af (!cb) (S.val b)∧v=Ke cb (Ab (S.val a)) (Ab (S.val b))
 | _=>False
def xG (C:Bb) (d:Option Nat) (op:Sw) (g:Bool) (S:St) (K:St→Prop):Prop:=
 match op with
 | .p o=>∃u,(g=true→Cf S (.p o) u)∧K (S.put d (.may g u))
 | .pick c a b=>∃u,(g=true→Cf S (.pick c a b) u)∧K (S.put d (.may g u))
 | .call f args=>(Be (fun x=>Af g (S.val x)) args∧Xe C f (args.map fun x=>Ab (S.val x)) d g S K)∨((g=true→Nb C d (.call f args) S K)∧(g=false→K (S.put d .undef)))
 | .callv x args=>(Af g (S.val x)∧Be (fun x=>Af g (S.val x)) args∧match Ab (S.val x) with
  | .clo f caps=>Xe C f (args.map (fun x=>Ab (S.val x))++caps) d g S K
  | _=>False)∨((g=true→Nb C d (.callv x args) S K)∧(g=false→K (S.put d .undef)))
 | op=>(g=true→Nb C d op S K)∧(g=false→K (S.put d .undef))
def Cb (C:Bb) (i:Bq) (S:St) (K:St→Prop):Prop:=
 match i.g with
 | none=>Nb C i.dst i.op S K
 | some (gs,want)=>match Jc (S.val (.t gs)) want with
  | some g=>xG C i.dst i.op g S K
  | none=>False
def mZ (S:St) (k:Nat) (c:Int):Prop:=
 (∃c',look S.cp k=some c'∧(c=c'∨c<Fj∧c≤Ky c'))∨(∃t off sz es,look S.env k=some (.own t off sz es)∧es≠[]∧c≤es.length∧c<Fj∧sz≠0) ∨
  ∃k' c' t sz off es off' es',look S.cp k'=some c'∧look S.env k'=some (.own t off' sz es')∧es'≠[]∧look S.env k=some (.own t off sz es)∧es≠[]∧sz≠0 ∧
   (c<Fj∧c+off≤Ky c'+off'∨c=c'∧off=off')
def Le (S S':St):Prop:=(∀t v,look S'.env t=some v→look S.env t=some v)∧(∀t cs,look S'.bx t=some cs→look S.bx t=some cs)∧(∀k c,look S'.cp k=some c→mZ S k c)
def Pj (S S':St):Prop:=(∀t,look S.env t=look S'.env t)∧∀k,look S.cp k=look S'.cp k
def Mb (t t' x:Nat):Nat:=if x=t then t' else if x=t' then t else x
def fH (t t':Nat):V→V
 | .own x off sz es=>bif (Az x==Az (Mb t t' x)) || es.isEmpty then .own (Mb t t' x) off sz es else .undef
 | .optr x sz j k=>bif Az x==Az (Mb t t' x) then .optr (Mb t t' x) sz j k else .undef
 | .nrow x j c sz es=>bif Az x==Az (Mb t t' x) then .nrow (Mb t t' x) j c sz es else .undef
 | c=>c
def St.swap (S:St) (t t':Nat):St:=S.map (fH t t')
def St.swaps (S:St):List (Nat×Nat)→St
 | []=>S
 | (t,t')::r=>(S.swap t t').swaps r
def eE:List (Nat×Nat)→Bool
 | []=>true
 | (t,t')::r=>decide (t<Au)&&decide (t'<Au)&&eE r
inductive Fg:St→St→Prop
 | le {S S':St} (h:Le S S'):Fg S S'
 | fz (S:St) (ts:List Nat):Fg S (S.freezes ts)
 | sw (S:St) (rs:List (Nat×Nat)) (h:eE rs=true):Fg S (S.swaps rs)
 | trans {S S' S'':St} (h1:Fg S S') (h2:Fg S' S''):Fg S S''
def aL (C:Bb):List Bq→(St→Prop)→St→Prop
 | [],K,S=>K S
 | i::r,K,S=>∃S1,Fg S S1∧Cb C i S1 (aL C r K)
def Bu (i:Bq) (S:St):Prop:=
 match i.op with
 | .p (.load x _ _)=>match Ab (S.val x) with
  | .optr .. => False
  | _=>True
 | _=>True
def Ct (C:Bb) (X:List Bq) (S:St):Prop:=Be (fun j=>Cb C j S (fun S'=>Pj S' S)) X
def Fp (C:Bb) (X l:List Bq) (S:St):Prop:=Be (fun j=>(Bu j S∨j∈X)∧Cb C j S (fun S'=>Pj S' S)) l
def WD (C:Bb):DP→List Bq→(St→Prop)→St→Prop
 | .fin,_,K,S=>K S
 | .take i r,X,K,S=>(Bu i S∧Cb C i S (fun S'=>Ct C X S'∧WD C r X K S'))∨Cb C i S (fun S'=>Ct C (i::X) S'∧WD C r (i::X) K S')
 | .alt held i r rest,X,K,S=>Cb C i S (fun S'=>∃S1,Fg S' S1∧∃X',Fp C X' held S1∧Ct C X' S1∧WD C r X' K S1)∧WD C rest X K S
 | .stop,_,_,_=>True
 | .dead,_,_,_=>False
inductive Ex where
 | normal
 | exit (id:Nat)
 | ret
def W (C:Bb):IR→(Ex→St→Prop)→St→Prop
 | .skip,Q,S=>Q .normal S
 | .reg l,Q,S=>aL C l (Q .normal) S
 | .draw p,Q,S=>WD C p [] (Q .normal) S
 | .seq a b,Q,S=>W C a (fun e S'=>match e with | .normal=>∃S1,Fg S' S1∧W C b Q S1 | e=>Q e S') S
 | .ite c a b,Q,S=>Af true (S.val c)∧match Ab (S.val c) with
  | .bool cb=>(cb=true→W C a Q S)∧(cb=false→W C b Q S)
  | _=>False
 | .block id a,Q,S=>W C a (fun e S'=>match e with | .exit id'=>if id'=id then Q .normal S' else Q (.exit id') S' | e=>Q e S') S
 | .loop a,Q,S=>∃(I:St→Prop) (μ:St→Nat),(∃S1,Fg S S1∧I S1)∧∀S,I S →
   W C a (fun e S'=>match e with | .normal=>∃S'',Fg S' S''∧I S''∧μ S''<μ S | e=>Q e S') S
 | .exit id,Q,S=>Q (.exit id) S
 | .ret,Q,S=>Q .ret S
 | .bad,_,_=>False
end Go.Ev
