/- A small abstract machine over values: values, states, instructions, and the predicate transformer W. No memory, no world. -/
import GoSem.Core.Code
import GoSem.Core.View
import GoSem.Op.String
import Derived.Laws.Externs
set_option linter.all false
namespace Go.Ev
inductive V where
 | int (k:IntKind) (n:Int)
 | bool (b:Bool)
 | str (s:List UInt8)
 | lst (sz:Nat) (es:List (List V))
 | own (tag off sz:Nat) (es:List (List V))
 | ptr (tag k:Nat)
 | iptr (cs:List V)
 | optr (tag sz j k:Nat)
 | agg (cs:List V)
 | tup (vs:List V)
 | clo (f:Nat) (caps:List V)
 | may (b:Bool) (v:V)
 | undef
 deriving Inhabited
def look {α:Type}:List (Nat×α)→Nat→Option α
 | [],_=>none
 | (a,x)::r,t=>if a=t then some x else look r t
def ins {α:Type} (l:List (Nat×α)) (d:Nat) (v:α):List (Nat×α):=(d,v)::l
structure St where
 env:List (Nat×V)
 bx:List (Nat×List V)
 
 cp:List (Nat×Int):=[]
inductive Bm where
 | t (n:Nat)
 | c (v:V)
def St.val (S:St):Bm→V
 | .t n=>(look S.env n).getD .undef
 | .c v=>v
abbrev Em:Int:=4611686018427387904
def Kv (c:Int):Int:=if c<Em then c else c-Em
def Ji (l:List (Nat×Int)):Bm→Option Int
 | .t n=>look l n
 | .c _=>none
abbrev St.capOf (S:St) (x:Bm):Option Int:=Ji S.cp x
def Ja (d:Nat) (f:List (Nat×Int)→Option Int):List (Nat×Int)→List (Nat×Int)
 | []=>match f [] with
  | some c=>[(d,c)]
  | none=>[]
 | p::r=>match f (p::r) with
  | some c=>(d,c)::(p::r).filter fun p=>p.1 != d
  | none=>(p::r).filter fun p=>p.1 != d
def St.put (S:St) (d:Option Nat) (v:V):St:=
 match d with
 | some d=>{ env:=ins S.env d v,bx:=S.bx,cp:=Ja d (fun _=>none) S.cp }
 | none=>S
def St.putC (S:St) (d:Option Nat) (v:V) (f:List (Nat×Int)→Option Int):St:=
 match d with
 | some d=>{ env:=ins S.env d v,bx:=S.bx,cp:=Ja d f S.cp }
 | none=>S
def Am:V→V
 | .may _ v=>v
 | v=>v
def Au (g:Bool):V→Prop
 | .may b _=>g=true→b=true
 | _=>True
def Bt {α:Type} (p:α→Prop):List α→Prop
 | []=>True
 | x::r=>p x∧Bt p r
def V.cells:V→List V
 | .agg cs=>cs
 | v=>[v]
inductive PU where
 | mv (x:Bm)
 | bin (op:BinOp) (x y:Bm)
 | eqs (ne:Bool) (ks:List Nat) (x y:Bm)
 | un (op:UnOp) (x:Bm)
 | conv (k:IntKind) (x:Bm)
 | load (x:Bm) (n:Nat) (ag:Bool)
 | fieldA (x:Bm) (off:Nat)
 | idxA (x i:Bm) (sz:Nat)
 | idxArr (x i:Bm) (len sz:Nat)
 | field (x:Bm) (off n:Nat) (ag:Bool)
 | idxStr (x i:Bm)
 | sliceStr (x:Bm) (lo hi:Option Bm)
 | slice (x:Bm) (lo hi:Option Bm) (sz:Nat)
 | len (x:Bm)
 | lenS (x:Bm)
 | strc (x:Bm)
 | binB (op:BinOp) (x y:Bm)
 | mn (x y:Bm)
 | mx (x y:Bm)
 | ext (x:Bm) (i:Nat)
 | build (zero:List V) (parts:List (Nat×Nat×Bm))
 | fn (f:Nat) (caps:List Bm)
 | nilc (x:Bm)
 | toStr (x:Bm)
 | xbyte (x c:Bm)
 | scmp (x y:Bm)
 | ovl (x y:Bm)
 | mget (x k:Bm)
 | chr (x:Bm)
def PU.opds:PU→List Bm
 | .mv x | .un _ x | .conv _ x | .load x _ _ | .fieldA x _ | .field x _ _ _ | .len x | .lenS x | .chr x | .strc x | .ext x _ | .nilc x | .toStr x=>[x]
 | .xbyte x y | .scmp x y | .ovl x y | .mget x y | .bin _ x y | .binB _ x y | .eqs _ _ x y | .idxA x y _ | .idxArr x y _ _ | .idxStr x y | .mn x y | .mx x y=>[x,y]
 | .sliceStr x lo hi | .slice x lo hi _=>x::(lo.toList++hi.toList)
 | .build _ ps=>ps.map (·.2.2)
 | .fn _ cs=>cs
def Xv (op:BinOp) (k:IntKind) (a b:Int):Option (Prop×V):=
 match op with
 | .add=>some (True,.int k (k.wrap (a+b)))
 | .sub=>some (True,.int k (k.wrap (a-b)))
 | .mul=>some (True,.int k (k.wrap (a*b)))
 | .quo=>some (b≠0,.int k (k.wrap (a.tdiv b)))
 | .rem=>some (b≠0,.int k (a.tmod b))
 | .and=>some (True,.int k (k.wrap (BitVec.ofInt k.bits a &&& BitVec.ofInt k.bits b).toNat))
 | .or=>some (True,.int k (k.wrap (BitVec.ofInt k.bits a ||| BitVec.ofInt k.bits b).toNat))
 | .xor=>some (True,.int k (k.wrap (BitVec.ofInt k.bits a ^^^ BitVec.ofInt k.bits b).toNat))
 | .andNot=>some (True,.int k (k.wrap (BitVec.ofInt k.bits a &&& ~~~ BitVec.ofInt k.bits b).toNat))
 | .eql=>some (True,.bool (a==b))
 | .neq=>some (True,.bool (a != b))
 | .lss=>some (True,.bool (decide (a<b)))
 | .leq=>some (True,.bool (decide (a≤b)))
 | .gtr=>some (True,.bool (decide (a>b)))
 | .geq=>some (True,.bool (decide (a≥b)))
 | _=>none
def Ue (op:BinOp) (k:IntKind) (a b:Int):Option (Prop×V):=
 match op with
 | .shl=>some (0≤b,.int k (k.wrap (a*2^min b.toNat k.bits)))
 | .shr=>some (0≤b,.int k (a.fdiv (2^min b.toNat k.bits)))
 | _=>none
def Ym (op:BinOp) (a b:List UInt8):Option (Prop×V):=
 match op with
 | .add=>some (a.length+b.length≤9223372036854775807,.str (a++b))
 | .eql=>some (True,.bool (a==b))
 | .neq=>some (True,.bool !(a==b))
 | .lss=>some (True,.bool (Op.bytesLess a b))
 | .leq=>some (True,.bool (Op.bytesLess a b || a==b))
 | .gtr=>some (True,.bool !(Op.bytesLess a b || a==b))
 | .geq=>some (True,.bool !(Op.bytesLess a b))
 | _=>none
def Ea:List Nat→List V→List V→Option Bool
 | [],[],[]=>some true
 | 0::ks,.int k a::r,.int k' b::s=>if k=k' then (Ea ks r s).map ((a==b)&&·) else none
 | 1::ks,.bool a::r,.bool b::s=>(Ea ks r s).map ((a==b)&&·)
 | 2::ks,.str a::r,.str b::s=>(Ea ks r s).map ((a==b)&&·)
 | _,_,_=>none
def Hn (tag:Nat):List V→Option (Nat×List (List V))
 | []=>none
 | .own t off sz es::r=>if t=tag∧sz≠0 then some (off,es) else Hn tag r
 | _::r=>Hn tag r
def Mu (tag:Nat) (env:List (Nat×V)):List (Nat×V)→Option (Nat×List (List V))
 | []=>none
 | (x,_)::r=>match look env x with
  | some v=>match Hn tag v.cells with
   | some y=>some y
   | none=>Mu tag env r
  | none=>Mu tag env r
def Rc (tag:Nat) (bx:List (Nat×List V)):List (Nat×List V)→Option (Nat×List (List V))
 | []=>none
 | (x,_)::r=>match look bx x with
  | some cs=>match Hn tag cs with
   | some y=>some y
   | none=>Rc tag bx r
  | none=>Rc tag bx r
def St.find (S:St) (tag:Nat):Option (Nat×List (List V)):=
 match Mu tag S.env S.env with
 | some x=>some x
 | none=>Rc tag S.bx S.bx
def Lf (ag:Bool) (n:Nat) (cs:List V):Option V:=
 if ag then some (.agg (cs.take n)) else cs.head?
def Cm (cs:List V) (off:Nat):List V→List V
 | []=>cs
 | v::r=>Cm (cs.set off v) (off+1) r
def Ij (s:List UInt8):List (List V):=s.map fun b=>[V.int .u8 (b.toNat:Int)]
def Vr:List (List V)→List UInt8
 | [.int _ n]::r=>UInt8.ofNat n.toNat::Vr r
 | _::r=>0::Vr r
 | []=>[]
def Bk:V→Bool
 | .undef | .tup .. | .may .. => true
 | _=>false
def Oi:List V→Bool
 | []=>true
 | .int .. :: r | .bool .. :: r | .str .. :: r | .lst .. :: r | .iptr .. :: r | .ptr .. :: r=>Oi r
 | _=>false
def Ep:Option V→Option (Option Int)
 | none=>some none
 | some (.int _ n)=>some (some n)
 | _=>none
def Uz (sz n:Nat):List (List V):=List.replicate n (List.replicate sz .undef)
def iP (s:List UInt8) (n:Int):Int:=Go.firstIdx ⟨s.toArray⟩ n.toNat.toUInt8
def Vj (a b:List UInt8):Int:=Extern.BytealgCompare.cmp ⟨a.toArray⟩ ⟨b.toArray⟩
def Ny (n:Int):List (List V)→Bool
 | [.int _ k,.bool b]::r=>if k=n then b else Ny n r
 | _::r=>Ny n r
 | []=>false
def Sb (n:Int) (b:Bool):List (List V)→List (List V)
 | [.int q k,.bool c]::r=>if k=n then [.int q k,.bool b]::r else [.int q k,.bool c]::Sb n b r
 | e::r=>e::Sb n b r
 | []=>[[.int .i64 n,.bool b]]
def PI (n:Int) (b:Bool):List (List V)→List (List V)
 | [.tup []]::r=>[.tup []]::Sb n b r
 | es=>es
def gH (t:Nat) (n:Int) (b:Bool):V→V
 | .own t' off sz es=>if t'=t then .own t' off sz (PI n b es) else .own t' off sz es
 | c=>c
def pu (S:St) (rd:Bm→V):PU→Option (Prop×V)
 | .mv x=>some (True,rd x)
 | .bin op x y=>match rd x,rd y with
  | .int k a,.int k' b=>match op with
   | .shl | .shr=>Ue op k a b
   | _=>if k=k' then Xv op k a b else none
  | .str a,.str b=>Ym op a b
  | _,_=>none
 | .binB op x y=>match rd x,rd y with
  | .bool a,.bool b=>match op with
   | .eql=>some (True,.bool (a==b))
   | .neq=>some (True,.bool !(a==b))
   | _=>none
  | _,_=>none
 | .eqs ne ks x y=>match rd x,rd y with
  | .agg cs,.agg ds=>match Ea ks cs ds with
   | some b=>some (True,.bool (if ne then !b else b))
   | none=>none
  | _,_=>none
 | .un op x=>match op,rd x with
  | .neg,.int k n=>some (True,.int k (k.wrap (0-n)))
  | .xor,.int k n=>some (True,.int k (k.wrap (BitVec.ofInt k.bits (if k.signed then -1 else k.max) ^^^ BitVec.ofInt k.bits n).toNat))
  | .not,.bool b=>some (True,.bool !b)
  | _,_=>none
 | .conv k x=>match rd x with
  | .int _ n=>some (True,.int k (k.wrap n))
  | _=>none
 | .load x n ag=>match rd x with
  | .ptr tag k=>match look S.bx tag with
   | some cs=>match Lf ag n (cs.drop k) with
    | some v=>some (k+n≤cs.length,v)
    | none=>none
   | none=>none
  | .iptr cs=>match Lf ag n cs with
   | some v=>some (n≤cs.length,v)
   | none=>none
  | .optr tag sz j k=>match S.find tag with
   | some (off,es)=>match Lf ag n ((es.getD (j-off) []).drop k) with
    | some v=>some (off≤j∧j<off+es.length∧k+n≤sz∧(es.getD (j-off) []).length=sz,v)
    | none=>none
   | none=>none
  | _=>none
 | .fieldA x off=>match rd x with
  | .ptr tag k=>some (True,.ptr tag (k+off))
  | .iptr cs=>some (off≤cs.length,.iptr (cs.drop off))
  | .optr tag sz j k=>some (True,.optr tag sz j (k+off))
  | _=>none
 | .idxA x i sz=>match rd x,rd i with
  | .lst s es,.int _ n=>some (s=sz∧0≤n∧n<es.length,.iptr (es.getD n.toNat []))
  | .own tag off s es,.int _ n=>some (s=sz∧0≤n∧n<es.length,.optr tag sz (off+n.toNat) 0)
  | _,_=>none
 | .idxArr x i len sz=>match rd x,rd i with
  | .ptr tag k,.int _ n=>some (0≤n∧n<len,.ptr tag (k+n.toNat*sz))
  | .iptr cs,.int _ n=>some (0≤n∧n<len∧n.toNat*sz≤cs.length,.iptr (cs.drop (n.toNat*sz)))
  | _,_=>none
 | .field x off n ag=>match rd x with
  | .agg cs=>match Lf ag n (cs.drop off) with
   | some v=>some (off+n≤cs.length,v)
   | none=>none
  | _=>none
 | .idxStr x i=>match rd x,rd i with
  | .str s,.int _ n=>some (0≤n∧n<s.length,.int .u8 ((s.getD n.toNat 0).toNat:Int))
  | _,_=>none
 | .sliceStr x lo hi=>match rd x,Ep (lo.map rd),Ep (hi.map rd) with
  | .str s,some l,some h=>
   some (0≤l.getD 0∧l.getD 0≤h.getD s.length∧h.getD s.length≤s.length,
    .str ((s.take (h.getD s.length).toNat).drop (l.getD 0).toNat))
  | _,_,_=>none
 | .slice x lo hi sz=>match rd x,Ep (lo.map rd),Ep (hi.map rd) with
  | .lst s es,some l,some h=>
   some (s=sz∧0≤l.getD 0∧l.getD 0≤h.getD es.length∧h.getD es.length≤es.length,
    .lst sz ((es.take (h.getD es.length).toNat).drop (l.getD 0).toNat))
  | .own tag off s es,some l,some h=>
   some (s=sz∧0≤l.getD 0∧l.getD 0≤h.getD es.length∧(h.getD es.length≤es.length∨(off=0∧0<sz∧∃c,S.capOf x=some c∧h.getD es.length≤Kv c)),
    .own tag (off+(l.getD 0).toNat) sz (((es++Uz sz ((h.getD es.length).toNat-es.length)).take (h.getD es.length).toNat).drop (l.getD 0).toNat))
  | _,_,_=>none
 | .lenS x=>match rd x with
  | .str s=>some (True,.int .i64 s.length)
  | _=>none
 | .strc x=>match rd x with
  | .str s=>some (True,.str s)
  | _=>none
 | .len x=>match rd x with
  | .lst s es=>some (s≠0,.int .i64 es.length)
  | .own _ _ s es=>some (s≠0,.int .i64 es.length)
  | _=>none
 | .xbyte x y=>match rd x,rd y with
  | .str s,.int .u8 n=>some (True,.int .i64 (iP s n))
  | _,_=>none
 | .scmp x y=>match rd x,rd y with
  | .str a,.str b=>some (True,.int .i64 (Vj a b))
  | _,_=>none
 | .ovl x y=>match rd x,rd y with
  | .own t _ s es,.own t' _ s' es'=>some (t≠t'∧(es≠[]∧es'≠[])∧s≠0∧s'≠0,.bool false)
  | _,_=>none
 | .chr x=>match rd x with
  | .int _ n=>some (0≤n∧n<128,.str [UInt8.ofNat n.toNat])
  | _=>none
 | .mget x y=>match rd x,rd y with
  | .own _ _ 0 ([.tup []]::es),.int .i64 n=>some (True,.bool (Ny n es))
  | .lst 0 ([.tup []]::es),.int .i64 n=>some (True,.bool (Ny n es))
  | _,_=>none
 | .mn x y=>match rd x,rd y with
  | .int k a,.int k' b=>some (k=k',.int k (if b<a then b else a))
  | _,_=>none
 | .mx x y=>match rd x,rd y with
  | .int k a,.int k' b=>some (k=k',.int k (if b>a then b else a))
  | _,_=>none
 | .ext x i=>match rd x with
  | .tup vs=>match vs[i]? with
   | some v=>some (True,v)
   | none=>none
  | _=>none
 | .build zero parts=>
  some (Bt (fun p=>Bk (rd p.2.2)=false∧(rd p.2.2).cells.length=p.2.1∧p.1+p.2.1≤zero.length) parts,
   .agg (parts.foldl (fun cs p=>Cm cs p.1 (rd p.2.2).cells) zero))
 | .fn f caps=>some (Oi (caps.map rd)=true,.clo f (caps.map rd))
 | .nilc x=>match rd x with
  | .ptr t k=>some (True,.ptr t k)
  | .iptr cs=>some (True,.iptr cs)
  | .optr t s j k=>some (True,.optr t s j k)
  | _=>none
 | .toStr x=>match rd x with
  | .lst s es=>some (s=1∧Ij (Vr es)=es,.str (Vr es))
  | .own _ _ s es=>some (s=1∧Ij (Vr es)=es,.str (Vr es))
  | _=>none
inductive Xc where
 | p (o:PU)
 | pick (c a b:Bm)
 | box (x:Bm)
 | alloc (zero:List V)
 | store (x v:Bm) (n:Nat)
 | mkS (sz:Nat) (zero:List V) (len:Nat) (parts:List (Nat×Bm))
 | nilS (sz:Nat)
 | make (sz bytes:Nat) (zero:List V) (l c:Bm)
 | app (sz bytes:Nat) (x y:Bm)
 | appz (sz bytes:Nat) (zero:List V) (x n:Bm)
 | copy (sz:Nat) (x y:Bm)
 | toBytes (x:Bm)
 | call (f:Nat) (args:List Bm)
 | callv (x:Bm) (args:List Bm)
 | isnil (x:Bm) (ne:Bool)
 | cap (x:Bm)
 | mkM
 | mset (x k v:Bm)
 | clear (sz:Nat) (zero:List V) (x:Bm)
 | chk3 (x lo hi mx:Bm)
 | bad
structure Bi where
 dst:Option Nat
 op:Xc
 g:Option (Nat×Bool)
inductive DP where
 | fin
 | take (i:Bi) (r:DP)
 | alt (held:List Bi) (i:Bi) (r rest:DP)
 | stop
 | dead
inductive IR where
 | skip
 | reg (l:List Bi)
 | draw (p:DP)
 | seq (a b:IR)
 | ite (c:Bm) (a b:IR)
 | block (id:Nat) (a:IR)
 | loop (a:IR)
 | exit (id:Nat)
 | ret
 | bad
def Hj (t:Nat):V→Bool
 | .own t' _ _ _ | .ptr t' _ | .optr t' _ _ _=>t' != t
 | _=>true
def Gn (t:Nat):V→Bool
 | .clo _ caps=>caps.all (Hj t)
 | c=>Hj t c
def cellsL:List V→List V
 | []=>[]
 | v::r=>v.cells++cellsL r
def V.flat1:V→List V
 | .agg cs=>cs
 | .tup vs=>cellsL vs
 | v=>[v]
def V.flat:V→List V
 | .may _ v=>v.flat1
 | v=>v.flat1
def V.no (t:Nat) (v:V):Bool:=v.flat.all (Gn t)
def dB (t:Nat) (v:V):V:=if v.no t then v else .undef
def PE (t:Nat) (v:V):V:=if Gn t v then v else .undef
def Mt (t:Nat):List (Nat×V)→List (Nat×V)
 | []=>[]
 | (a,v)::r=>(a,dB t v)::Mt t r
def Jj (t:Nat):List V→List V
 | []=>[]
 | c::r=>PE t c::Jj t r
def Tw (t:Nat):List (Nat×List V)→List (Nat×List V)
 | []=>[]
 | (a,cs)::r=>(a,Jj t cs)::Tw t r
def St.drop (S:St) (t:Nat):St:={ env:=Mt t S.env,bx:=Tw t S.bx,cp:=S.cp }
def St.drops (S:St):List Nat→St
 | []=>S
 | t::r=>(S.drop t).drops r
def Gt (f:V→V):V→V
 | .agg cs=>.agg (cs.map f)
 | .tup vs=>.tup (vs.map fun | .agg cs=>.agg (cs.map f) | c=>f c)
 | .may b (.agg cs)=>.may b (.agg (cs.map f))
 | .may b (.tup vs)=>.may b (.tup (vs.map fun | .agg cs=>.agg (cs.map f) | c=>f c))
 | .may b c=>.may b (f c)
 | c=>f c
def Uk (f:V→V):List (Nat×V)→List (Nat×V)
 | []=>[]
 | (a,v)::r=>(a,Gt f v)::Uk f r
def Zx (f:V→V):List (Nat×List V)→List (Nat×List V)
 | []=>[]
 | (a,cs)::r=>(a,cs.map f)::Zx f r
def St.map (S:St) (f:V→V):St:={ env:=Uk f S.env,bx:=Zx f S.bx,cp:=S.cp }
abbrev Bx:Nat:=1048576
def frz (t:Nat):V→V
 | .own t' off sz es=>if t'=t then .lst sz es else .own t' off sz es
 | c=>c
def St.freeze (S:St) (t:Nat):St:=if t<Bx then (S.map (frz t)).drop t else S.drop t
def St.freezes (S:St):List Nat→St
 | []=>S
 | t::r=>(S.freeze t).freezes r
def Ei (off:Nat) (es:List (List V)) (at_:Nat) (ys:List (List V)):List (List V):=
 es.mapIdx fun i e=>if at_≤off+i then (ys[off+i-at_]?).getD e else e
def aO (t sz at_:Nat) (ys:List (List V)):V→V
 | .own t' off sz' es=>if t'=t then (if sz'=sz then .own t' off sz' (Ei off es at_ ys) else .undef) else .own t' off sz' es
 | c=>c
def Fx:List V→List Nat
 | []=>[]
 | .own t _ _ _::r=>t::Fx r
 | _::r=>Fx r
def V.tags (v:V):List Nat:=Fx v.flat
def Mb:List V→List V
 | []=>[]
 | v::r=>v.flat++Mb r
def Hs:List (Nat×V)→List Nat
 | []=>[]
 | p::r=>p.2.tags++Hs r
def Lp (p:V→Bool):List V→Bool
 | []=>true
 | c::r=>p c&&Lp p r
def Dz:V→V
 | .own t _ sz es=>if t<Bx then .lst sz es else .undef
 | .int k n=>.int k n
 | .bool b=>.bool b
 | .str s=>.str s
 | .lst sz es=>.lst sz es
 | .iptr cs=>.iptr cs
 | _=>.undef
def Io:V→Bool
 | .int .. | .bool .. | .str .. | .lst .. | .own .. | .iptr .. => false
 | _=>true
def Mm (b:Bool):V→V→V
 | .bool x,.bool y=>.bool (bif b then x else y)
 | .int k x,.int k' y=>if k=k' then .int k (bif b then x else y) else if b then .int k x else .int k' y
 | x,y=>if b then x else y
def St.setBx (S:St) (t:Nat) (cs:List V):St:={ S with bx:=ins S.bx t cs }
def Il (sz:Nat) (es:List (List V)):List (Nat×List V)→List (List V)
 | []=>es
 | (i,cs)::r=>Il sz (es.set i cs) r
structure Oc where
 args:List V
 bx:List (List V)
structure Eo where
 r:V
 bx:List (List V)
 rw:List (Nat×Nat×List (List V))
abbrev Bf:=Nat→Oc→Eo→Prop
def Ff (t:Nat):List Nat→Nat→Option Nat
 | [],_=>none
 | x::r,k=>if x=t then some k else Ff t r (k+1)
def Dr:List Nat→Bool
 | []=>true
 | x::r=>r.all (· != x)&&Dr r
def Lc:V→V
 | .int k n=>.int k n
 | .bool b=>.bool b
 | .str s=>.str s
 | .lst sz es=>.lst sz es
 | .iptr cs=>.iptr cs
 | _=>.undef
def Hv:V→V
 | .clo f caps=>.clo f (caps.map Lc)
 | c=>Lc c
def UC (XR:List Nat):V→V
 | .own t _ sz es=>if XR.contains t then .undef else .lst sz es
 | c=>Hv c
def St.cl (S:St) (XB XR:List Nat):Nat→V→V
 | 0,c=>UC XR c
 | n+1,.ptr t k=>if XB.contains t then .undef else match look S.bx t with
  | some cs=>.iptr ((cs.drop k).map (S.cl XB XR n))
  | none=>.undef
 | n+1,.clo f caps=>.clo f (caps.map (S.cl XB XR n))
 | _+1,c=>UC XR c
def Xw (LR LM:List Nat) (fz:Bool) (t off sz:Nat) (es:List (List V)):V:=
 match Ff t LR 0 with
 | some i=>.own (2097152+i) off sz es
 | none=>match Ff t LM 0 with
  | some i=>.own (1024000+i) off sz es
  | none=>if fz && !decide (t<Bx) then .undef else .lst sz es
def St.liftP (S:St) (LB XR:List Nat) (fz:Bool) (n:Nat):V→V
 | .ptr t k=>match Ff t LB 0 with
  | some i=>.ptr (Bx+i) k
  | none=>if fz then .undef else S.cl LB XR n (.ptr t k)
 | c=>Hv c
def St.liftC (S:St) (LB LR LM:List Nat) (fz:Bool):V→V
 | .own t off sz es=>Xw LR LM fz t off sz es
 | .clo f caps=>.clo f (caps.map (S.liftP LB (LR++LM) fz 2))
 | c=>S.liftP LB (LR++LM) fz 3 c
def mapW (f:V→V):V→V
 | .agg cs=>.agg (cs.map f)
 | c=>f c
def St.given (S:St):List Nat→List (List V)
 | []=>[]
 | t::r=>(look S.bx t).getD []::S.given r
def Mj (f:V→V):List (List V)→List (List V)
 | []=>[]
 | cs::r=>cs.map f::Mj f r
def St.give (S:St) (args:List V) (LB LR LM:List Nat) (fz:Bool):Oc:=
 ⟨args.map (mapW (S.liftC LB LR LM fz)),Mj (S.liftC LB LR LM fz) (S.given LB)⟩
def Vp (X:List Nat):List Nat→List Nat
 | []=>[]
 | t::r=>if X.contains t then Vp X r else t::Vp X r
def St.frzTags (S:St) (args:List V) (LB LR LM:List Nat):List Nat:=Vp (LR++LM) (Fx (Mb args++(S.given LB).flatten))
def Fs (d nn:Nat) (LB LR:List Nat):V→V
 | .own t off sz es=>if t<64 then .own (64*d+t) off sz es else if t<2097152 then .undef else match LR[t-2097152]? with
  | some T=>.own T off sz es
  | none=>.undef
 | .ptr t k=>if t<nn then .ptr (64*d+t) k else if t<Bx then .undef else match LB[t-Bx]? with
  | some T=>.ptr T k
  | none=>.undef
 | c=>Hv c
def Vl (LR:List Nat) (rw:List (Nat×Nat×List (List V))):V→V
 | .own t off sz es=>match Ff t LR 0 with
  | none=>.own t off sz es
  | some i=>match rw[i]? with
   | some (o,s,es')=>if off=o∧sz=s∧es.length=es'.length then .own t off sz es' else .undef
   | none=>.undef
 | c=>c
def St.rows (S:St) (LR:List Nat) (rw:List (Nat×Nat×List (List V))):St:=
 match LR with
 | []=>S
 | _=>S.map (Vl LR rw)
def St.boxes (S:St) (f:V→V):List Nat→List (List V)→St
 | [],_=>S
 | T::r,cs::q=>(S.setBx T (cs.map f)).boxes f r q
 | T::r,[]=>(S.setBx T []).boxes f r []
def Nz (d:Nat):Nat→List Nat
 | 0=>[]
 | n+1=>Nz d n++[64*d+n]
def Ld (d:Nat):List Nat→List Nat
 | []=>[]
 | t::r=>if t<64 then (64*d+t)::Ld d r else Ld d r
def Eo.newR (t:Eo) (d:Nat):List Nat:=Ld d (Fx (t.r.flat++t.bx.flatten))
def Eo.newB (t:Eo) (d nb:Nat):List Nat:=Nz d (t.bx.length-nb)
def St.after (S:St) (args:List V) (d:Nat) (fz:Bool) (LB LR LM:List Nat) (t:Eo):St:=
 let S1:=if fz then S.freezes (S.frzTags args LB LR LM) else S
 let S2:=S1.drops (LM++(t.newR d++t.newB d LB.length))
 (S2.rows LR t.rw).boxes (Fs d (t.bx.length-LB.length) LB LR) (LB++t.newB d LB.length) t.bx
def Vq:V→Bool
 | .int .. | .bool .. | .str .. | .undef=>true
 | _=>false
def Ho:V→Bool
 | .int .. | .bool .. | .str .. | .undef | .ptr .. => true
 | .own _ _ _ es=>es.all (·.all Vq)
 | _=>false
def Eo.flat (t:Eo):Bool:=(t.r.flat++t.bx.flatten).all Ho&&t.rw.all fun p=>p.2.2.all (·.all Vq)
def Ol:V→V
 | .own _ _ sz es=>.lst sz es
 | c=>Hv c
def Ou (n:Nat):List Nat→Bool
 | []=>true
 | t::r=>decide (t<n)&&Ou n r
def Jt (X:List Nat):List Nat→Bool
 | []=>true
 | t::r => !X.contains t&&Jt X r
def aP (C:Bf) (f:Nat) (args:List V) (d:Option Nat) (S:St) (K:St→Prop):Prop:=
 Lp (fun v => !Bk v) args=true∧∃(LB LR LM:List Nat) (fz:Bool) (t:Eo),
  (Dr LB=true∧Dr (LR++LM)=true∧Ou Bx LM=true∧LB.all (fun T=>(look S.bx T).isSome)=true) ∧
  (Ou 65 [t.bx.length-LB.length,LM.length]=true∧Jt (t.newB (d.getD 0) LB.length) LB=true∧Jt (t.newR (d.getD 0)) LR=true) ∧
  (fz=false→t.flat=true)∧C f (S.give args LB LR LM fz) t ∧
  K ((S.after args (d.getD 0) fz LB LR LM t).put d (Gt (Fs (d.getD 0) (t.bx.length-LB.length) LB LR) t.r))
def cG (C:Bf) (f:Nat) (args:List V) (d:Option Nat) (g:Bool) (S:St) (K:St→Prop):Prop:=
 (g=true→Lp (fun v => !Bk v) args=true)∧∃(fz:Bool) (r:V),(g=true→C f (S.give args [] [] [] fz) ⟨r,[],[]⟩) ∧
  (fz=false→r.flat.all Ho=true)∧(fz=true→Fx (Mb args)=[])∧K (S.put d (.may g (Gt Ol r)))
def Kr:V→Bool→Option Bool
 | .bool b,want=>some (b==want)
 | .may b' (.bool b),want=>some (b'&&(b==want))
 | _,_=>none
def fL:V→Option (List (List V))
 | .lst (_+1) es=>some es
 | .own _ _ (_+1) es=>some es
 | _=>none
def Oa:V→Option (Nat×List (List V))
 | .lst sz es=>some (sz,es)
 | .own _ _ sz es=>some (sz,es)
 | .str s=>some (1,Ij s)
 | _=>none
def Hi (rd:Bm→V) (u:PU) (l:List (Nat×Int)):Option Int:=
 match u with
 | .mv x=>Ji l x
 | .slice x lo _ _=>match Ji l x with
  | some c=>match rd x,Ep (lo.map rd) with
   | .own ..,some l=>some (c-l.getD 0)
   | _,_=>none
  | none=>none
 | _=>none
abbrev Lu (S:St) (rd:Bm→V) (u:PU):Option Int:=Hi rd u S.cp
def Hh (x:Bm) (n:Nat) (l:List (Nat×Int)):Option Int:=
 match Ji l x with
 | some c=>if (n:Int)≤Kv c then some c else none
 | none=>none
def Qk (C:Bf) (d:Option Nat) (op:Xc) (S:St) (K:St→Prop):Prop:=
 match op with
 | .p o=>Bt (fun x=>Au true (S.val x)) o.opds∧match pu S (fun x=>Am (S.val x)) o with
  | some (φ,v)=>φ∧K (S.putC d v (Hi (fun x=>Am (S.val x)) o))
  | none=>False
 | .pick c a b=>Au true (S.val c)∧match Am (S.val c) with
  | .bool cb=>Au cb (S.val a)∧Au (!cb) (S.val b)∧K (S.put d (Mm cb (Am (S.val a)) (Am (S.val b))))
  | _=>False
 | .box x=>match d with
  | some d=>let S1:=S.drop (64*d)
   Au true (S1.val x)∧Bk (Am (S1.val x))=false∧K ((S1.setBx (64*d) (Am (S1.val x)).cells).put (some d) (.ptr (64*d) 0))
  | none=>False
 | .alloc zero=>match d with
  | some d=>K (((S.drop (64*d)).setBx (64*d) zero).put (some d) (.ptr (64*d) 0))
  | none=>False
 | .store x v n=>Au true (S.val x)∧Au true (S.val v) ∧
  let cs:=(Am (S.val v)).cells
  Bk (Am (S.val v))=false∧cs.length=n∧match Am (S.val x) with
  | .ptr t k=>match look S.bx t with
   | some bs=>k+n≤bs.length∧K ((S.setBx t (Cm bs k cs)).put d .undef)
   | none=>False
  | .optr t sz j k=>match S.find t with
   | some (off,es)=>off≤j∧j<off+es.length∧k+n≤sz∧(es.getD (j-off) []).length=sz ∧
    let S1:=S.freezes (Am (S.val v)).tags
    cs.all (fun c => !Io c)=true∧(Am (S.val v)).tags.all (· != t)=true ∧
    K ((S1.map (aO t sz j [Cm (es.getD (j-off) []) k (cs.map Dz)])).put d .undef)
   | none=>False
  | _=>False
 | .mkS sz zero len parts=>match d with
  | some d=>
   let vs:=parts.map fun p=>(p.1,Am (S.val p.2))
   Bt (fun p=>Au true (S.val p.2)) parts ∧
   Bt (fun p=>p.1<len∧p.2.cells.length=sz∧p.2.cells.all (fun c => !Io c)=true) vs ∧
   K (((S.freezes (Hs vs)).drop (64*d)).put (some d)
    (.own (64*d) 0 sz (Il sz (List.replicate len zero) (vs.map fun p=>(p.1,p.2.cells.map Dz)))))
  | none=>False
 | .nilS sz=>match d with
  | some d=>K ((S.drop (64*d)).put (some d) (.own (64*d) 0 sz []))
  | none=>False
 | .make sz bytes zero l c=>Au true (S.val l)∧Au true (S.val c)∧match d,Am (S.val l),Am (S.val c) with
  | some d,.int _ l,.int _ c=>0≤l∧l=c∧c*bytes≤140737488355328 ∧
   K ((S.drop (64*d)).put (some d) (.own (64*d) 0 sz (List.replicate l.toNat zero)))
  | _,_,_=>False
 | .app sz bytes x y=>Au true (S.val x)∧Au true (S.val y)∧match Am (S.val x),Oa (Am (S.val y)) with
  | .own t off s es,some (s',ys)=>t<Bx∧off=0∧s=sz∧s'=sz∧(es.length+ys.length)*bytes≤140737488355328 ∧
   K ((S.drop t).putC d (.own t 0 sz (es++ys)) (Hh x (es.length+ys.length)))
  | _,_=>False
 | .appz sz bytes zero x n=>Au true (S.val x)∧Au true (S.val n)∧match Am (S.val x),Am (S.val n) with
  | .own t off s es,.int _ l=>t<Bx∧off=0∧s=sz∧0≤l∧((es.length:Int)+l)*bytes≤140737488355328 ∧
   (K ((S.drop t).putC d (.own t 0 sz (es++List.replicate l.toNat zero)) (Hh x (es.length+l.toNat))) ∨
    ∃d' c,d=some d'∧S.capOf x=some c∧Em≤c∧c-Em<es.length+l∧K ((S.drop (64*d')).put d (.own (64*d') 0 sz (es++List.replicate l.toNat zero))))
  | _,_=>False
 | .copy sz x y=>Au true (S.val x)∧Au true (S.val y)∧match Am (S.val x),Oa (Am (S.val y)) with
  | .own t off s es,some (s',ys)=>s=sz∧s'=sz ∧
   K ((S.map (aO t sz off (ys.take es.length))).put d (.int .i64 (min ys.length es.length:Nat)))
  | _,_=>False
 | .toBytes x=>Au true (S.val x)∧match Am (S.val x) with
  | .str s=>K (S.put d (.lst 1 (Ij s)))
  | _=>False
 | .call f args=>Bt (fun x=>Au true (S.val x)) args∧aP C f (args.map fun x=>Am (S.val x)) d S K
 | .callv x args=>Au true (S.val x)∧Bt (fun x=>Au true (S.val x)) args∧match Am (S.val x) with
  | .clo f caps=>aP C f (args.map (fun x=>Am (S.val x))++caps) d S K
  | _=>False
 | .isnil x ne=>Au true (S.val x)∧match fL (Am (S.val x)) with
  | some es=>∀b:Bool,(b=true→es=[])→K (S.put d (.bool (if ne then !b else b)))
  | none=>False
 | .mkM=>match d with
  | some d=>K ((S.drop (64*d)).put (some d) (.own (64*d) 0 0 [[.tup []]]))
  | none=>False
 | .mset x k v=>Au true (S.val x)∧Au true (S.val k)∧Au true (S.val v)∧match Am (S.val x),Am (S.val k),Am (S.val v) with
  | .own t _ 0 ([.tup []]::_),.int .i64 n,.bool b=>K ((S.map (gH t n b)).put d .undef)
  | _,_,_=>False
 | .cap x=>Au true (S.val x)∧match Am (S.val x),x with
  | .own _ off sz es,.t n=>sz≠0∧∀c:Nat,es.length≤c→(off=0→c≤9223372036854775807)→(∀c0,S.capOf x=some c0→Em≤c0→(c:Int)=c0-Em)→K (St.put { S with cp:=Ja n (fun _=>some (Em+c)) S.cp } d (.int .i64 c))
  | _,_=>False
 | .clear sz zero x=>Au true (S.val x)∧match Am (S.val x) with
  | .own t off s es=>s=sz∧K ((S.map (aO t sz off (List.replicate es.length zero))).put d .undef)
  | _=>False
 | .chk3 x lo hi mx=>(Au true (S.val x)∧Au true (S.val lo)∧Au true (S.val hi)∧Au true (S.val mx))∧match fL (Am (S.val x)),Am (S.val lo),Am (S.val hi),Am (S.val mx) with
  | some es,.int _ a,.int _ b,.int _ c=>0≤a∧a≤b∧b≤c∧c≤es.length∧K (S.put d .undef)
  | _,_,_,_=>False
 | .bad=>False
def Cj (S:St) (op:Xc) (v:V):Prop:=
 match op with
 | .p o=>Bt (fun x=>Au true (S.val x)) o.opds∧∃ψ,pu S (fun x=>Am (S.val x)) o=some (ψ,v)∧ψ
 | .pick c a b=>Au true (S.val c)∧∃cb,Am (S.val c) = .bool cb∧Au cb (S.val a)∧Au (!cb) (S.val b)∧v=Mm cb (Am (S.val a)) (Am (S.val b))
 | _=>False
def YT (C:Bf) (d:Option Nat) (op:Xc) (g:Bool) (S:St) (K:St→Prop):Prop:=
 match op with
 | .p o=>∃u,(g=true→Cj S (.p o) u)∧K (S.put d (.may g u))
 | .pick c a b=>∃u,(g=true→Cj S (.pick c a b) u)∧K (S.put d (.may g u))
 | .call f args=>(Bt (fun x=>Au g (S.val x)) args∧cG C f (args.map fun x=>Am (S.val x)) d g S K)∨((g=true→Qk C d (.call f args) S K)∧(g=false→K (S.put d .undef)))
 | .callv x args=>(Au g (S.val x)∧Bt (fun x=>Au g (S.val x)) args∧match Am (S.val x) with
  | .clo f caps=>cG C f (args.map (fun x=>Am (S.val x))++caps) d g S K
  | _=>False)∨((g=true→Qk C d (.callv x args) S K)∧(g=false→K (S.put d .undef)))
 | op=>(g=true→Qk C d op S K)∧(g=false→K (S.put d .undef))
def Cn (C:Bf) (i:Bi) (S:St) (K:St→Prop):Prop:=
 match i.g with
 | none=>Qk C i.dst i.op S K
 | some (gs,want)=>match Kr (S.val (.t gs)) want with
  | some g=>YT C i.dst i.op g S K
  | none=>False
def cX (S:St) (k:Nat) (c:Int):Prop:=
 (∃c',look S.cp k=some c'∧(c=c'∨c<Em∧c≤Kv c'))∨(∃t off sz es,look S.env k=some (.own t off sz es)∧es≠[]∧c≤es.length∧c<Em∧sz≠0) ∨
  ∃k' c' t sz off es off' es',look S.cp k'=some c'∧look S.env k'=some (.own t off' sz es')∧es'≠[]∧look S.env k=some (.own t off sz es)∧es≠[]∧sz≠0 ∧
   (c<Em∧c+off≤Kv c'+off'∨c=c'∧off=off')
def Le (S S':St):Prop:=(∀t v,look S'.env t=some v→look S.env t=some v)∧(∀t cs,look S'.bx t=some cs→look S.bx t=some cs)∧(∀k c,look S'.cp k=some c→cX S k c)
def Ti (S S':St):Prop:=(∀t,look S.env t=look S'.env t)∧∀k,look S.cp k=look S'.cp k
def iD (t t' x:Nat):Nat:=if x=t then t' else if x=t' then t else x
def YS (t t':Nat):V→V
 | .own x off sz es=>.own (iD t t' x) off sz es
 | .optr x sz j k=>.optr (iD t t' x) sz j k
 | c=>c
def St.swap (S:St) (t t':Nat):St:=S.map (YS t t')
def St.swaps (S:St):List (Nat×Nat)→St
 | []=>S
 | (t,t')::r=>(S.swap t t').swaps r
def gV:List (Nat×Nat)→Bool
 | []=>true
 | (t,t')::r=>decide (t<Bx)&&decide (t'<Bx)&&gV r
inductive Fg:St→St→Prop
 | le {S S':St} (h:Le S S'):Fg S S'
 | fz (S:St) (ts:List Nat):Fg S (S.freezes ts)
 | sw (S:St) (rs:List (Nat×Nat)) (h:gV rs=true):Fg S (S.swaps rs)
 | trans {S S' S'':St} (h1:Fg S S') (h2:Fg S' S''):Fg S S''
def gY (C:Bf):List Bi→(St→Prop)→St→Prop
 | [],K,S=>K S
 | i::r,K,S=>∃S1,Fg S S1∧Cn C i S1 (gY C r K)
def Cl (i:Bi) (S:St):Prop:=
 match i.op with
 | .p (.load x _ _)=>match Am (S.val x) with
  | .optr .. => False
  | _=>True
 | _=>True
def Dj (C:Bf) (X:List Bi) (S:St):Prop:=Bt (fun j=>Cn C j S (fun S'=>Ti S' S)) X
def Fn (C:Bf) (X l:List Bi) (S:St):Prop:=Bt (fun j=>(Cl j S∨j∈X)∧Cn C j S (fun S'=>Ti S' S)) l
def WD (C:Bf):DP→List Bi→(St→Prop)→St→Prop
 | .fin,_,K,S=>K S
 | .take i r,X,K,S=>(Cl i S∧Cn C i S (fun S'=>Dj C X S'∧WD C r X K S'))∨Cn C i S (fun S'=>Dj C (i::X) S'∧WD C r (i::X) K S')
 | .alt held i r rest,X,K,S=>Cn C i S (fun S'=>∃S1,Fg S' S1∧∃X',Fn C X' held S1∧Dj C X' S1∧WD C r X' K S1)∧WD C rest X K S
 | .stop,_,_,_=>True
 | .dead,_,_,_=>False
inductive Ex where
 | normal
 | exit (id:Nat)
 | ret
def W (C:Bf):IR→(Ex→St→Prop)→St→Prop
 | .skip,Q,S=>Q .normal S
 | .reg l,Q,S=>gY C l (Q .normal) S
 | .draw p,Q,S=>WD C p [] (Q .normal) S
 | .seq a b,Q,S=>W C a (fun e S'=>match e with | .normal=>∃S1,Fg S' S1∧W C b Q S1 | e=>Q e S') S
 | .ite c a b,Q,S=>Au true (S.val c)∧match Am (S.val c) with
  | .bool cb=>(cb=true→W C a Q S)∧(cb=false→W C b Q S)
  | _=>False
 | .block id a,Q,S=>W C a (fun e S'=>match e with | .exit id'=>if id'=id then Q .normal S' else Q (.exit id') S' | e=>Q e S') S
 | .loop a,Q,S=>∃(I:St→Prop) (μ:St→Nat),(∃S1,Fg S S1∧I S1)∧∀S,I S →
   W C a (fun e S'=>match e with | .normal=>∃S'',Fg S' S''∧I S''∧μ S''<μ S | e=>Q e S') S
 | .exit id,Q,S=>Q (.exit id) S
 | .ret,Q,S=>Q .ret S
 | .bad,_,_=>False
end Go.Ev
