/- A small abstract machine over values: values, states, instructions, and the predicate transformer W. No memory, no world. -/
import GoSem.Core.Code
import GoSem.Core.View
import GoSem.Op.String
import Derived.Laws.Externs
set_option linter.all false
namespace Go.Ev
inductive V where
 | int (k:IntKind) (n:Int)
 | bool (b:Bool)
 | str (s:List UInt8)
 | lst (sz:Nat) (es:List (List V))
 | own (tag off sz:Nat) (es:List (List V))
 | ptr (tag k:Nat)
 | iptr (cs:List V)
 | optr (tag sz j k:Nat)
 | agg (cs:List V)
 | tup (vs:List V)
 | clo (f:Nat) (caps:List V)
 | may (b:Bool) (v:V)
 | undef
 deriving Inhabited
def look {α:Type}:List (Nat×α)→Nat→Option α
 | [],_=>none
 | (a,x)::r,t=>if a=t then some x else look r t
def ins {α:Type} (l:List (Nat×α)) (d:Nat) (v:α):List (Nat×α):=(d,v)::l
structure St where
 env:List (Nat×V)
 bx:List (Nat×List V)
 
 cp:List (Nat×Int):=[]
inductive Ck where
 | t (n:Nat)
 | c (v:V)
def St.val (S:St):Ck→V
 | .t n=>(look S.env n).getD .undef
 | .c v=>v
abbrev Em:Int:=4611686018427387904
def Nh (c:Int):Int:=if c<Em then c else c-Em
def Lt (l:List (Nat×Int)):Ck→Option Int
 | .t n=>look l n
 | .c _=>none
abbrev St.capOf (S:St) (x:Ck):Option Int:=Lt S.cp x
def Li (d:Nat) (f:List (Nat×Int)→Option Int):List (Nat×Int)→List (Nat×Int)
 | []=>match f [] with
  | some c=>[(d,c)]
  | none=>[]
 | p::r=>match f (p::r) with
  | some c=>(d,c)::(p::r).filter fun p=>p.1 != d
  | none=>(p::r).filter fun p=>p.1 != d
def St.put (S:St) (d:Option Nat) (v:V):St:=
 match d with
 | some d=>{ env:=ins S.env d v,bx:=S.bx,cp:=Li d (fun _=>none) S.cp }
 | none=>S
def St.putC (S:St) (d:Option Nat) (v:V) (f:List (Nat×Int)→Option Int):St:=
 match d with
 | some d=>{ env:=ins S.env d v,bx:=S.bx,cp:=Li d f S.cp }
 | none=>S
def Av:V→V
 | .may _ v=>v
 | v=>v
def Bh (g:Bool):V→Prop
 | .may b _=>g=true→b=true
 | _=>True
def Ct {α:Type} (p:α→Prop):List α→Prop
 | []=>True
 | x::r=>p x∧Ct p r
def V.cells:V→List V
 | .agg cs=>cs
 | v=>[v]
inductive PU where
 | mv (x:Ck)
 | bin (op:BinOp) (x y:Ck)
 | eqs (ne:Bool) (ks:List Nat) (x y:Ck)
 | un (op:UnOp) (x:Ck)
 | conv (k:IntKind) (x:Ck)
 | load (x:Ck) (n:Nat) (ag:Bool)
 | fieldA (x:Ck) (off:Nat)
 | idxA (x i:Ck) (sz:Nat)
 | idxArr (x i:Ck) (len sz:Nat)
 | field (x:Ck) (off n:Nat) (ag:Bool)
 | idxStr (x i:Ck)
 | sliceStr (x:Ck) (lo hi:Option Ck)
 | slice (x:Ck) (lo hi:Option Ck) (sz:Nat)
 | len (x:Ck)
 | lenS (x:Ck)
 | strc (x:Ck)
 | binB (op:BinOp) (x y:Ck)
 | mn (x y:Ck)
 | mx (x y:Ck)
 | ext (x:Ck) (i:Nat)
 | build (zero:List V) (parts:List (Nat×Nat×Ck))
 | fn (f:Nat) (caps:List Ck)
 | nilc (x:Ck)
 | toStr (x:Ck)
 | xbyte (x c:Ck)
 | ovl (x y:Ck)
 | mget (x k:Ck)
 | chr (x:Ck)
def PU.opds:PU→List Ck
 | .mv x | .un _ x | .conv _ x | .load x _ _ | .fieldA x _ | .field x _ _ _ | .len x | .lenS x | .chr x | .strc x | .ext x _ | .nilc x | .toStr x=>[x]
 | .xbyte x y | .ovl x y | .mget x y | .bin _ x y | .binB _ x y | .eqs _ _ x y | .idxA x y _ | .idxArr x y _ _ | .idxStr x y | .mn x y | .mx x y=>[x,y]
 | .sliceStr x lo hi | .slice x lo hi _=>x::(lo.toList++hi.toList)
 | .build _ ps=>ps.map (·.2.2)
 | .fn _ cs=>cs
def fW (op:BinOp) (k:IntKind) (a b:Int):Option (Prop×V):=
 match op with
 | .add=>some (True,.int k (k.wrap (a+b)))
 | .sub=>some (True,.int k (k.wrap (a-b)))
 | .mul=>some (True,.int k (k.wrap (a*b)))
 | .quo=>some (b≠0,.int k (k.wrap (a.tdiv b)))
 | .rem=>some (b≠0,.int k (a.tmod b))
 | .and=>some (True,.int k (k.wrap (BitVec.ofInt k.bits a &&& BitVec.ofInt k.bits b).toNat))
 | .or=>some (True,.int k (k.wrap (BitVec.ofInt k.bits a ||| BitVec.ofInt k.bits b).toNat))
 | .xor=>some (True,.int k (k.wrap (BitVec.ofInt k.bits a ^^^ BitVec.ofInt k.bits b).toNat))
 | .andNot=>some (True,.int k (k.wrap (BitVec.ofInt k.bits a &&& ~~~ BitVec.ofInt k.bits b).toNat))
 | .eql=>some (True,.bool (a==b))
 | .neq=>some (True,.bool (a != b))
 | .lss=>some (True,.bool (decide (a<b)))
 | .leq=>some (True,.bool (decide (a≤b)))
 | .gtr=>some (True,.bool (decide (a>b)))
 | .geq=>some (True,.bool (decide (a≥b)))
 | _=>none
def aD (op:BinOp) (k:IntKind) (a b:Int):Option (Prop×V):=
 match op with
 | .shl=>some (0≤b,.int k (k.wrap (a*2^min b.toNat k.bits)))
 | .shr=>some (0≤b,.int k (a.fdiv (2^min b.toNat k.bits)))
 | _=>none
def gT (op:BinOp) (a b:List UInt8):Option (Prop×V):=
 match op with
 | .add=>some (a.length+b.length≤9223372036854775807,.str (a++b))
 | .eql=>some (True,.bool (a==b))
 | .neq=>some (True,.bool !(a==b))
 | .lss=>some (True,.bool (Op.bytesLess a b))
 | .leq=>some (True,.bool (Op.bytesLess a b || a==b))
 | .gtr=>some (True,.bool !(Op.bytesLess a b || a==b))
 | .geq=>some (True,.bool !(Op.bytesLess a b))
 | _=>none
def Fh:List Nat→List V→List V→Option Bool
 | [],[],[]=>some true
 | 0::ks,.int k a::r,.int k' b::s=>if k=k' then (Fh ks r s).map ((a==b)&&·) else none
 | 1::ks,.bool a::r,.bool b::s=>(Fh ks r s).map ((a==b)&&·)
 | 2::ks,.str a::r,.str b::s=>(Fh ks r s).map ((a==b)&&·)
 | _,_,_=>none
def Jf (tag:Nat):List V→Option (Nat×List (List V))
 | []=>none
 | .own t off sz es::r=>if t=tag∧sz≠0 then some (off,es) else Jf tag r
 | _::r=>Jf tag r
def Qk (tag:Nat) (env:List (Nat×V)):List (Nat×V)→Option (Nat×List (List V))
 | []=>none
 | (x,_)::r=>match look env x with
  | some v=>match Jf tag v.cells with
   | some y=>some y
   | none=>Qk tag env r
  | none=>Qk tag env r
def Ve (tag:Nat) (bx:List (Nat×List V)):List (Nat×List V)→Option (Nat×List (List V))
 | []=>none
 | (x,_)::r=>match look bx x with
  | some cs=>match Jf tag cs with
   | some y=>some y
   | none=>Ve tag bx r
  | none=>Ve tag bx r
def St.find (S:St) (tag:Nat):Option (Nat×List (List V)):=
 match Qk tag S.env S.env with
 | some x=>some x
 | none=>Ve tag S.bx S.bx
def Hv (ag:Bool) (n:Nat) (cs:List V):Option V:=
 if ag then some (.agg (cs.take n)) else cs.head?
def Dl (cs:List V) (off:Nat):List V→List V
 | []=>cs
 | v::r=>Dl (cs.set off v) (off+1) r
def Kn (s:List UInt8):List (List V):=s.map fun b=>[V.int .u8 (b.toNat:Int)]
def kL:List (List V)→List UInt8
 | [.int _ n]::r=>UInt8.ofNat n.toNat::kL r
 | _::r=>0::kL r
 | []=>[]
def Cg:V→Bool
 | .undef | .tup .. | .may .. => true
 | _=>false
def Rx:List V→Bool
 | []=>true
 | .int .. :: r | .bool .. :: r | .str .. :: r | .lst .. :: r | .iptr .. :: r | .ptr .. :: r=>Rx r
 | _=>false
def Gl:Option V→Option (Option Int)
 | none=>some none
 | some (.int _ n)=>some (some n)
 | _=>none
def bG (sz n:Nat):List (List V):=List.replicate n (List.replicate sz .undef)
def tC (s:List UInt8) (n:Int):Int:=Go.firstIdx ⟨s.toArray⟩ n.toNat.toUInt8
def Nz (n:Int):List (List V)→Bool
 | [.int _ k,.bool b]::r=>if k=n then b else Nz n r
 | _::r=>Nz n r
 | []=>false
def Uh (n:Int) (b:Bool):List (List V)→List (List V)
 | [.int q k,.bool c]::r=>if k=n then [.int q k,.bool b]::r else [.int q k,.bool c]::Uh n b r
 | e::r=>e::Uh n b r
 | []=>[[.int .i64 n,.bool b]]
def DV (n:Int) (b:Bool):List (List V)→List (List V)
 | [.tup []]::r=>[.tup []]::Uh n b r
 | es=>es
def mP (t:Nat) (n:Int) (b:Bool):V→V
 | .own t' off sz es=>if t'=t then .own t' off sz (DV n b es) else .own t' off sz es
 | c=>c
def pu (S:St) (rd:Ck→V):PU→Option (Prop×V)
 | .mv x=>some (True,rd x)
 | .bin op x y=>match rd x,rd y with
  | .int k a,.int k' b=>match op with
   | .shl | .shr=>aD op k a b
   | _=>if k=k' then fW op k a b else none
  | .str a,.str b=>gT op a b
  | _,_=>none
 | .binB op x y=>match rd x,rd y with
  | .bool a,.bool b=>match op with
   | .eql=>some (True,.bool (a==b))
   | .neq=>some (True,.bool !(a==b))
   | _=>none
  | _,_=>none
 | .eqs ne ks x y=>match rd x,rd y with
  | .agg cs,.agg ds=>match Fh ks cs ds with
   | some b=>some (True,.bool (if ne then !b else b))
   | none=>none
  | _,_=>none
 | .un op x=>match op,rd x with
  | .neg,.int k n=>some (True,.int k (k.wrap (0-n)))
  | .xor,.int k n=>some (True,.int k (k.wrap (BitVec.ofInt k.bits (if k.signed then -1 else k.max) ^^^ BitVec.ofInt k.bits n).toNat))
  | .not,.bool b=>some (True,.bool !b)
  | _,_=>none
 | .conv k x=>match rd x with
  | .int _ n=>some (True,.int k (k.wrap n))
  | _=>none
 | .load x n ag=>match rd x with
  | .ptr tag k=>match look S.bx tag with
   | some cs=>match Hv ag n (cs.drop k) with
    | some v=>some (k+n≤cs.length,v)
    | none=>none
   | none=>none
  | .iptr cs=>match Hv ag n cs with
   | some v=>some (n≤cs.length,v)
   | none=>none
  | .optr tag sz j k=>match S.find tag with
   | some (off,es)=>match Hv ag n ((es.getD (j-off) []).drop k) with
    | some v=>some (off≤j∧j<off+es.length∧k+n≤sz∧(es.getD (j-off) []).length=sz,v)
    | none=>none
   | none=>none
  | _=>none
 | .fieldA x off=>match rd x with
  | .ptr tag k=>some (True,.ptr tag (k+off))
  | .iptr cs=>some (off≤cs.length,.iptr (cs.drop off))
  | .optr tag sz j k=>some (True,.optr tag sz j (k+off))
  | _=>none
 | .idxA x i sz=>match rd x,rd i with
  | .lst s es,.int _ n=>some (s=sz∧0≤n∧n<es.length,.iptr (es.getD n.toNat []))
  | .own tag off s es,.int _ n=>some (s=sz∧0≤n∧n<es.length,.optr tag sz (off+n.toNat) 0)
  | _,_=>none
 | .idxArr x i len sz=>match rd x,rd i with
  | .ptr tag k,.int _ n=>some (0≤n∧n<len,.ptr tag (k+n.toNat*sz))
  | .iptr cs,.int _ n=>some (0≤n∧n<len∧n.toNat*sz≤cs.length,.iptr (cs.drop (n.toNat*sz)))
  | _,_=>none
 | .field x off n ag=>match rd x with
  | .agg cs=>match Hv ag n (cs.drop off) with
   | some v=>some (off+n≤cs.length,v)
   | none=>none
  | _=>none
 | .idxStr x i=>match rd x,rd i with
  | .str s,.int _ n=>some (0≤n∧n<s.length,.int .u8 ((s.getD n.toNat 0).toNat:Int))
  | _,_=>none
 | .sliceStr x lo hi=>match rd x,Gl (lo.map rd),Gl (hi.map rd) with
  | .str s,some l,some h=>
   some (0≤l.getD 0∧l.getD 0≤h.getD s.length∧h.getD s.length≤s.length,
    .str ((s.take (h.getD s.length).toNat).drop (l.getD 0).toNat))
  | _,_,_=>none
 | .slice x lo hi sz=>match rd x,Gl (lo.map rd),Gl (hi.map rd) with
  | .lst s es,some l,some h=>
   some (s=sz∧0≤l.getD 0∧l.getD 0≤h.getD es.length∧h.getD es.length≤es.length,
    .lst sz ((es.take (h.getD es.length).toNat).drop (l.getD 0).toNat))
  | .own tag off s es,some l,some h=>
   some (s=sz∧0≤l.getD 0∧l.getD 0≤h.getD es.length∧(h.getD es.length≤es.length∨(off=0∧0<sz∧∃c,S.capOf x=some c∧h.getD es.length≤Nh c)),
    .own tag (off+(l.getD 0).toNat) sz (((es++bG sz ((h.getD es.length).toNat-es.length)).take (h.getD es.length).toNat).drop (l.getD 0).toNat))
  | _,_,_=>none
 | .lenS x=>match rd x with
  | .str s=>some (True,.int .i64 s.length)
  | _=>none
 | .strc x=>match rd x with
  | .str s=>some (True,.str s)
  | _=>none
 | .len x=>match rd x with
  | .lst s es=>some (s≠0,.int .i64 es.length)
  | .own _ _ s es=>some (s≠0,.int .i64 es.length)
  | _=>none
 | .xbyte x y=>match rd x,rd y with
  | .str s,.int .u8 n=>some (True,.int .i64 (tC s n))
  | _,_=>none
 | .ovl x y=>match rd x,rd y with
  | .own t _ s es,.own t' _ s' es'=>some (t≠t'∧(es≠[]∧es'≠[])∧s≠0∧s'≠0,.bool false)
  | _,_=>none
 | .chr x=>match rd x with
  | .int _ n=>some (0≤n∧n<128,.str [UInt8.ofNat n.toNat])
  | _=>none
 | .mget x y=>match rd x,rd y with
  | .own _ _ 0 ([.tup []]::es),.int .i64 n=>some (True,.bool (Nz n es))
  | .lst 0 ([.tup []]::es),.int .i64 n=>some (True,.bool (Nz n es))
  | _,_=>none
 | .mn x y=>match rd x,rd y with
  | .int k a,.int k' b=>some (k=k',.int k (if b<a then b else a))
  | _,_=>none
 | .mx x y=>match rd x,rd y with
  | .int k a,.int k' b=>some (k=k',.int k (if b>a then b else a))
  | _,_=>none
 | .ext x i=>match rd x with
  | .tup vs=>match vs[i]? with
   | some v=>some (True,v)
   | none=>none
  | _=>none
 | .build zero parts=>
  some (Ct (fun p=>Cg (rd p.2.2)=false∧(rd p.2.2).cells.length=p.2.1∧p.1+p.2.1≤zero.length) parts,
   .agg (parts.foldl (fun cs p=>Dl cs p.1 (rd p.2.2).cells) zero))
 | .fn f caps=>some (Rx (caps.map rd)=true,.clo f (caps.map rd))
 | .nilc x=>match rd x with
  | .ptr t k=>some (True,.ptr t k)
  | .iptr cs=>some (True,.iptr cs)
  | .optr t s j k=>some (True,.optr t s j k)
  | _=>none
 | .toStr x=>match rd x with
  | .lst s es=>some (s=1∧Kn (kL es)=es,.str (kL es))
  | .own _ _ s es=>some (s=1∧Kn (kL es)=es,.str (kL es))
  | _=>none
inductive eN where
 | p (o:PU)
 | pick (c a b:Ck)
 | box (x:Ck)
 | alloc (zero:List V)
 | store (x v:Ck) (n:Nat)
 | mkS (sz:Nat) (zero:List V) (len:Nat) (parts:List (Nat×Ck))
 | nilS (sz:Nat)
 | make (sz bytes:Nat) (zero:List V) (l c:Ck)
 | app (sz bytes:Nat) (x y:Ck)
 | appz (sz bytes:Nat) (zero:List V) (x n:Ck)
 | copy (sz:Nat) (x y:Ck)
 | toBytes (x:Ck)
 | call (f:Nat) (args:List Ck)
 | callv (x:Ck) (args:List Ck)
 | isnil (x:Ck) (ne:Bool)
 | cap (x:Ck)
 | mkM
 | mset (x k v:Ck)
 | clear (sz:Nat) (zero:List V) (x:Ck)
 | chk3 (x lo hi mx:Ck)
 | bad
structure Cd where
 dst:Option Nat
 op:eN
 g:Option (Nat×Bool)
inductive DP where
 | fin
 | take (i:Cd) (r:DP)
 | alt (held:List Cd) (i:Cd) (r rest:DP)
 | stop
 | dead
inductive IR where
 | skip
 | reg (l:List Cd)
 | draw (p:DP)
 | seq (a b:IR)
 | ite (c:Ck) (a b:IR)
 | block (id:Nat) (a:IR)
 | loop (a:IR)
 | exit (id:Nat)
 | ret
 | bad
def Ja (t:Nat):V→Bool
 | .own t' _ _ _ | .ptr t' _ | .optr t' _ _ _=>t' != t
 | _=>true
def If (t:Nat):V→Bool
 | .clo _ caps=>caps.all (Ja t)
 | c=>Ja t c
def cellsL:List V→List V
 | []=>[]
 | v::r=>v.cells++cellsL r
def V.flat1:V→List V
 | .agg cs=>cs
 | .tup vs=>cellsL vs
 | v=>[v]
def V.flat:V→List V
 | .may _ v=>v.flat1
 | v=>v.flat1
def V.no (t:Nat) (v:V):Bool:=v.flat.all (If t)
def oF (t:Nat) (v:V):V:=if v.no t then v else .undef
def dropC (t:Nat) (v:V):V:=if If t v then v else .undef
def Qj (t:Nat):List (Nat×V)→List (Nat×V)
 | []=>[]
 | (a,v)::r=>(a,oF t v)::Qj t r
def Lv (t:Nat):List V→List V
 | []=>[]
 | c::r=>dropC t c::Lv t r
def Zg (t:Nat):List (Nat×List V)→List (Nat×List V)
 | []=>[]
 | (a,cs)::r=>(a,Lv t cs)::Zg t r
def St.drop (S:St) (t:Nat):St:={ env:=Qj t S.env,bx:=Zg t S.bx,cp:=S.cp }
def St.drops (S:St):List Nat→St
 | []=>S
 | t::r=>(S.drop t).drops r
def Gd (f:V→V):V→V
 | .agg cs=>.agg (cs.map f)
 | .tup vs=>.tup (vs.map fun | .agg cs=>.agg (cs.map f) | c=>f c)
 | .may b (.agg cs)=>.may b (.agg (cs.map f))
 | .may b (.tup vs)=>.may b (.tup (vs.map fun | .agg cs=>.agg (cs.map f) | c=>f c))
 | .may b c=>.may b (f c)
 | c=>f c
def Ni (f:V→V):List (Nat×V)→List (Nat×V)
 | []=>[]
 | (a,v)::r=>(a,Gd f v)::Ni f r
def Ue (f:V→V):List (Nat×List V)→List (Nat×List V)
 | []=>[]
 | (a,cs)::r=>(a,cs.map f)::Ue f r
def St.map (S:St) (f:V→V):St:={ env:=Ni f S.env,bx:=Ue f S.bx,cp:=S.cp }
abbrev Cu:Nat:=1048576
def frz (t:Nat):V→V
 | .own t' off sz es=>if t'=t then .lst sz es else .own t' off sz es
 | c=>c
def St.freeze (S:St) (t:Nat):St:=if t<Cu then (S.map (frz t)).drop t else S.drop t
def St.freezes (S:St):List Nat→St
 | []=>S
 | t::r=>(S.freeze t).freezes r
def Fi (off:Nat) (es:List (List V)) (at_:Nat) (ys:List (List V)):List (List V):=
 es.mapIdx fun i e=>if at_≤off+i then (ys[off+i-at_]?).getD e else e
def gW (t sz at_:Nat) (ys:List (List V)):V→V
 | .own t' off sz' es=>if t'=t then (if sz'=sz then .own t' off sz' (Fi off es at_ ys) else .undef) else .own t' off sz' es
 | c=>c
def Hm:List V→List Nat
 | []=>[]
 | .own t _ _ _::r=>t::Hm r
 | _::r=>Hm r
def V.tags (v:V):List Nat:=Hm v.flat
def Pc:List V→List V
 | []=>[]
 | v::r=>v.flat++Pc r
def Jh:List (Nat×V)→List Nat
 | []=>[]
 | p::r=>p.2.tags++Jh r
def Of (p:V→Bool):List V→Bool
 | []=>true
 | c::r=>p c&&Of p r
def Fc:V→V
 | .own t _ sz es=>if t<Cu then .lst sz es else .undef
 | .int k n=>.int k n
 | .bool b=>.bool b
 | .str s=>.str s
 | .lst sz es=>.lst sz es
 | .iptr cs=>.iptr cs
 | _=>.undef
def Jp:V→Bool
 | .int .. | .bool .. | .str .. | .lst .. | .own .. | .iptr .. => false
 | _=>true
def Pv (b:Bool):V→V→V
 | .bool x,.bool y=>.bool (bif b then x else y)
 | .int k x,.int k' y=>if k=k' then .int k (bif b then x else y) else if b then .int k x else .int k' y
 | x,y=>if b then x else y
def St.setBx (S:St) (t:Nat) (cs:List V):St:={ S with bx:=ins S.bx t cs }
def Ko (sz:Nat) (es:List (List V)):List (Nat×List V)→List (List V)
 | []=>es
 | (i,cs)::r=>Ko sz (es.set i cs) r
structure Gj where
 args:List V
 bx:List (List V)
structure Fk where
 r:V
 bx:List (List V)
 rw:List (Nat×Nat×List (List V))
abbrev Bj:=Nat→Gj→Fk→Prop
def Gr (t:Nat):List Nat→Nat→Option Nat
 | [],_=>none
 | x::r,k=>if x=t then some k else Gr t r (k+1)
def Ej:List Nat→Bool
 | []=>true
 | x::r=>r.all (· != x)&&Ej r
def Nv:V→V
 | .int k n=>.int k n
 | .bool b=>.bool b
 | .str s=>.str s
 | .lst sz es=>.lst sz es
 | .iptr cs=>.iptr cs
 | _=>.undef
def Jo:V→V
 | .clo f caps=>.clo f (caps.map Nv)
 | c=>Nv c
def cl0 (XR:List Nat):V→V
 | .own t _ sz es=>if XR.contains t then .undef else .lst sz es
 | c=>Jo c
def St.cl (S:St) (XB XR:List Nat):Nat→V→V
 | 0,c=>cl0 XR c
 | n+1,.ptr t k=>if XB.contains t then .undef else match look S.bx t with
  | some cs=>.iptr ((cs.drop k).map (S.cl XB XR n))
  | none=>.undef
 | n+1,.clo f caps=>.clo f (caps.map (S.cl XB XR n))
 | _+1,c=>cl0 XR c
def gA (LR LM:List Nat) (fz:Bool) (t off sz:Nat) (es:List (List V)):V:=
 match Gr t LR 0 with
 | some i=>.own (2097152+i) off sz es
 | none=>match Gr t LM 0 with
  | some i=>.own (1024000+i) off sz es
  | none=>if fz && !decide (t<Cu) then .undef else .lst sz es
def St.liftP (S:St) (LB XR:List Nat) (fz:Bool) (n:Nat):V→V
 | .ptr t k=>match Gr t LB 0 with
  | some i=>.ptr (Cu+i) k
  | none=>if fz then .undef else S.cl LB XR n (.ptr t k)
 | c=>Jo c
def St.liftC (S:St) (LB LR LM:List Nat) (fz:Bool):V→V
 | .own t off sz es=>gA LR LM fz t off sz es
 | .clo f caps=>.clo f (caps.map (S.liftP LB (LR++LM) fz 2))
 | c=>S.liftP LB (LR++LM) fz 3 c
def mapW (f:V→V):V→V
 | .agg cs=>.agg (cs.map f)
 | c=>f c
def St.given (S:St):List Nat→List (List V)
 | []=>[]
 | t::r=>(look S.bx t).getD []::S.given r
def Pm (f:V→V):List (List V)→List (List V)
 | []=>[]
 | cs::r=>cs.map f::Pm f r
def St.give (S:St) (args:List V) (LB LR LM:List Nat) (fz:Bool):Gj:=
 ⟨args.map (mapW (S.liftC LB LR LM fz)),Pm (S.liftC LB LR LM fz) (S.given LB)⟩
def cF (X:List Nat):List Nat→List Nat
 | []=>[]
 | t::r=>if X.contains t then cF X r else t::cF X r
def St.frzTags (S:St) (args:List V) (LB LR LM:List Nat):List Nat:=cF (LR++LM) (Hm (Pc args++(S.given LB).flatten))
def Gw (d nn:Nat) (LB LR:List Nat):V→V
 | .own t off sz es=>if t<64 then .own (64*d+t) off sz es else if t<2097152 then .undef else match LR[t-2097152]? with
  | some T=>.own T off sz es
  | none=>.undef
 | .ptr t k=>if t<nn then .ptr (64*d+t) k else if t<Cu then .undef else match LB[t-Cu]? with
  | some T=>.ptr T k
  | none=>.undef
 | c=>Jo c
def cB (LR:List Nat) (rw:List (Nat×Nat×List (List V))):V→V
 | .own t off sz es=>match Gr t LR 0 with
  | none=>.own t off sz es
  | some i=>match rw[i]? with
   | some (o,s,es')=>if off=o∧sz=s∧es.length=es'.length then .own t off sz es' else .undef
   | none=>.undef
 | c=>c
def St.rows (S:St) (LR:List Nat) (rw:List (Nat×Nat×List (List V))):St:=
 match LR with
 | []=>S
 | _=>S.map (cB LR rw)
def St.boxes (S:St) (f:V→V):List Nat→List (List V)→St
 | [],_=>S
 | T::r,cs::q=>(S.setBx T (cs.map f)).boxes f r q
 | T::r,[]=>(S.setBx T []).boxes f r []
def Rq (d:Nat):Nat→List Nat
 | 0=>[]
 | n+1=>Rq d n++[64*d+n]
def Ob (d:Nat):List Nat→List Nat
 | []=>[]
 | t::r=>if t<64 then (64*d+t)::Ob d r else Ob d r
def Fk.newR (t:Fk) (d:Nat):List Nat:=Ob d (Hm (t.r.flat++t.bx.flatten))
def Fk.newB (t:Fk) (d nb:Nat):List Nat:=Rq d (t.bx.length-nb)
def St.after (S:St) (args:List V) (d:Nat) (fz:Bool) (LB LR LM:List Nat) (t:Fk):St:=
 let S1:=if fz then S.freezes (S.frzTags args LB LR LM) else S
 let S2:=S1.drops (LM++(t.newR d++t.newB d LB.length))
 (S2.rows LR t.rw).boxes (Gw d (t.bx.length-LB.length) LB LR) (LB++t.newB d LB.length) t.bx
def bH:V→Bool
 | .int .. | .bool .. | .str .. | .undef=>true
 | _=>false
def Ir:V→Bool
 | .int .. | .bool .. | .str .. | .undef | .ptr .. => true
 | .own _ _ _ es=>es.all (·.all bH)
 | _=>false
def Fk.flat (t:Fk):Bool:=(t.r.flat++t.bx.flatten).all Ir&&t.rw.all fun p=>p.2.2.all (·.all bH)
def Rz:V→V
 | .own _ _ sz es=>.lst sz es
 | c=>Jo c
def Pl (n:Nat):List Nat→Bool
 | []=>true
 | t::r=>decide (t<n)&&Pl n r
def Ki (X:List Nat):List Nat→Bool
 | []=>true
 | t::r => !X.contains t&&Ki X r
def kM (C:Bj) (f:Nat) (args:List V) (d:Option Nat) (S:St) (K:St→Prop):Prop:=
 Of (fun v => !Cg v) args=true∧∃(LB LR LM:List Nat) (fz:Bool) (t:Fk),
  (Ej LB=true∧Ej (LR++LM)=true∧Pl Cu LM=true∧LB.all (fun T=>(look S.bx T).isSome)=true) ∧
  (Pl 65 [t.bx.length-LB.length,LM.length]=true∧Ki (t.newB (d.getD 0) LB.length) LB=true∧Ki (t.newR (d.getD 0)) LR=true) ∧
  (fz=false→t.flat=true)∧C f (S.give args LB LR LM fz) t ∧
  K ((S.after args (d.getD 0) fz LB LR LM t).put d (Gd (Gw (d.getD 0) (t.bx.length-LB.length) LB LR) t.r))
def nK (C:Bj) (f:Nat) (args:List V) (d:Option Nat) (g:Bool) (S:St) (K:St→Prop):Prop:=
 (g=true→Of (fun v => !Cg v) args=true)∧∃(fz:Bool) (r:V),(g=true→C f (S.give args [] [] [] fz) ⟨r,[],[]⟩) ∧
  (fz=false→r.flat.all Ir=true)∧(fz=true→Hm (Pc args)=[])∧K (S.put d (.may g (Gd Rz r)))
def Nc:V→Bool→Option Bool
 | .bool b,want=>some (b==want)
 | .may b' (.bool b),want=>some (b'&&(b==want))
 | _,_=>none
def qM:V→Option (List (List V))
 | .lst (_+1) es=>some es
 | .own _ _ (_+1) es=>some es
 | _=>none
def Rs:V→Option (Nat×List (List V))
 | .lst sz es=>some (sz,es)
 | .own _ _ sz es=>some (sz,es)
 | .str s=>some (1,Kn s)
 | _=>none
def Iz (rd:Ck→V) (u:PU) (l:List (Nat×Int)):Option Int:=
 match u with
 | .mv x=>Lt l x
 | .slice x lo _ _=>match Lt l x with
  | some c=>match rd x,Gl (lo.map rd) with
   | .own ..,some l=>some (c-l.getD 0)
   | _,_=>none
  | none=>none
 | _=>none
abbrev Ot (S:St) (rd:Ck→V) (u:PU):Option Int:=Iz rd u S.cp
def Jt (x:Ck) (n:Nat) (l:List (Nat×Int)):Option Int:=
 match Lt l x with
 | some c=>if (n:Int)≤Nh c then some c else none
 | none=>none
def Ur (C:Bj) (d:Option Nat) (op:eN) (S:St) (K:St→Prop):Prop:=
 match op with
 | .p o=>Ct (fun x=>Bh true (S.val x)) o.opds∧match pu S (fun x=>Av (S.val x)) o with
  | some (φ,v)=>φ∧K (S.putC d v (Iz (fun x=>Av (S.val x)) o))
  | none=>False
 | .pick c a b=>Bh true (S.val c)∧match Av (S.val c) with
  | .bool cb=>Bh cb (S.val a)∧Bh (!cb) (S.val b)∧K (S.put d (Pv cb (Av (S.val a)) (Av (S.val b))))
  | _=>False
 | .box x=>match d with
  | some d=>let S1:=S.drop (64*d)
   Bh true (S1.val x)∧Cg (Av (S1.val x))=false∧K ((S1.setBx (64*d) (Av (S1.val x)).cells).put (some d) (.ptr (64*d) 0))
  | none=>False
 | .alloc zero=>match d with
  | some d=>K (((S.drop (64*d)).setBx (64*d) zero).put (some d) (.ptr (64*d) 0))
  | none=>False
 | .store x v n=>Bh true (S.val x)∧Bh true (S.val v) ∧
  let cs:=(Av (S.val v)).cells
  Cg (Av (S.val v))=false∧cs.length=n∧match Av (S.val x) with
  | .ptr t k=>match look S.bx t with
   | some bs=>k+n≤bs.length∧K ((S.setBx t (Dl bs k cs)).put d .undef)
   | none=>False
  | .optr t sz j k=>match S.find t with
   | some (off,es)=>off≤j∧j<off+es.length∧k+n≤sz∧(es.getD (j-off) []).length=sz ∧
    let S1:=S.freezes (Av (S.val v)).tags
    cs.all (fun c => !Jp c)=true∧(Av (S.val v)).tags.all (· != t)=true ∧
    K ((S1.map (gW t sz j [Dl (es.getD (j-off) []) k (cs.map Fc)])).put d .undef)
   | none=>False
  | _=>False
 | .mkS sz zero len parts=>match d with
  | some d=>
   let vs:=parts.map fun p=>(p.1,Av (S.val p.2))
   Ct (fun p=>Bh true (S.val p.2)) parts ∧
   Ct (fun p=>p.1<len∧p.2.cells.length=sz∧p.2.cells.all (fun c => !Jp c)=true) vs ∧
   K (((S.freezes (Jh vs)).drop (64*d)).put (some d)
    (.own (64*d) 0 sz (Ko sz (List.replicate len zero) (vs.map fun p=>(p.1,p.2.cells.map Fc)))))
  | none=>False
 | .nilS sz=>match d with
  | some d=>K ((S.drop (64*d)).put (some d) (.own (64*d) 0 sz []))
  | none=>False
 | .make sz bytes zero l c=>Bh true (S.val l)∧Bh true (S.val c)∧match d,Av (S.val l),Av (S.val c) with
  | some d,.int _ l,.int _ c=>0≤l∧l=c∧c*bytes≤140737488355328 ∧
   K ((S.drop (64*d)).put (some d) (.own (64*d) 0 sz (List.replicate l.toNat zero)))
  | _,_,_=>False
 | .app sz bytes x y=>Bh true (S.val x)∧Bh true (S.val y)∧match Av (S.val x),Rs (Av (S.val y)) with
  | .own t off s es,some (s',ys)=>t<Cu∧off=0∧s=sz∧s'=sz∧(es.length+ys.length)*bytes≤140737488355328 ∧
   K ((S.drop t).putC d (.own t 0 sz (es++ys)) (Jt x (es.length+ys.length)))
  | _,_=>False
 | .appz sz bytes zero x n=>Bh true (S.val x)∧Bh true (S.val n)∧match Av (S.val x),Av (S.val n) with
  | .own t off s es,.int _ l=>t<Cu∧off=0∧s=sz∧0≤l∧((es.length:Int)+l)*bytes≤140737488355328 ∧
   (K ((S.drop t).putC d (.own t 0 sz (es++List.replicate l.toNat zero)) (Jt x (es.length+l.toNat))) ∨
    ∃d' c,d=some d'∧S.capOf x=some c∧Em≤c∧c-Em<es.length+l∧K ((S.drop (64*d')).put d (.own (64*d') 0 sz (es++List.replicate l.toNat zero))))
  | _,_=>False
 | .copy sz x y=>Bh true (S.val x)∧Bh true (S.val y)∧match Av (S.val x),Rs (Av (S.val y)) with
  | .own t off s es,some (s',ys)=>s=sz∧s'=sz ∧
   K ((S.map (gW t sz off (ys.take es.length))).put d (.int .i64 (min ys.length es.length:Nat)))
  | _,_=>False
 | .toBytes x=>Bh true (S.val x)∧match Av (S.val x) with
  | .str s=>K (S.put d (.lst 1 (Kn s)))
  | _=>False
 | .call f args=>Ct (fun x=>Bh true (S.val x)) args∧kM C f (args.map fun x=>Av (S.val x)) d S K
 | .callv x args=>Bh true (S.val x)∧Ct (fun x=>Bh true (S.val x)) args∧match Av (S.val x) with
  | .clo f caps=>kM C f (args.map (fun x=>Av (S.val x))++caps) d S K
  | _=>False
 | .isnil x ne=>Bh true (S.val x)∧match qM (Av (S.val x)) with
  | some es=>∀b:Bool,(b=true→es=[])→K (S.put d (.bool (if ne then !b else b)))
  | none=>False
 | .mkM=>match d with
  | some d=>K ((S.drop (64*d)).put (some d) (.own (64*d) 0 0 [[.tup []]]))
  | none=>False
 | .mset x k v=>Bh true (S.val x)∧Bh true (S.val k)∧Bh true (S.val v)∧match Av (S.val x),Av (S.val k),Av (S.val v) with
  | .own t _ 0 ([.tup []]::_),.int .i64 n,.bool b=>K ((S.map (mP t n b)).put d .undef)
  | _,_,_=>False
 | .cap x=>Bh true (S.val x)∧match Av (S.val x),x with
  | .own _ off sz es,.t n=>sz≠0∧∀c:Nat,es.length≤c→(off=0→c≤9223372036854775807)→(∀c0,S.capOf x=some c0→Em≤c0→(c:Int)=c0-Em)→K (St.put { S with cp:=Li n (fun _=>some (Em+c)) S.cp } d (.int .i64 c))
  | _,_=>False
 | .clear sz zero x=>Bh true (S.val x)∧match Av (S.val x) with
  | .own t off s es=>s=sz∧K ((S.map (gW t sz off (List.replicate es.length zero))).put d .undef)
  | _=>False
 | .chk3 x lo hi mx=>(Bh true (S.val x)∧Bh true (S.val lo)∧Bh true (S.val hi)∧Bh true (S.val mx))∧match qM (Av (S.val x)),Av (S.val lo),Av (S.val hi),Av (S.val mx) with
  | some es,.int _ a,.int _ b,.int _ c=>0≤a∧a≤b∧b≤c∧c≤es.length∧K (S.put d .undef)
  | _,_,_,_=>False
 | .bad=>False
def Dd (S:St) (op:eN) (v:V):Prop:=
 match op with
 | .p o=>Ct (fun x=>Bh true (S.val x)) o.opds∧∃ψ,pu S (fun x=>Av (S.val x)) o=some (ψ,v)∧ψ
 | .pick c a b=>Bh true (S.val c)∧∃cb,Av (S.val c) = .bool cb∧Bh cb (S.val a)∧Bh (!cb) (S.val b)∧v=Pv cb (Av (S.val a)) (Av (S.val b))
 | _=>False
def wGd (C:Bj) (d:Option Nat) (op:eN) (g:Bool) (S:St) (K:St→Prop):Prop:=
 match op with
 | .p o=>∃u,(g=true→Dd S (.p o) u)∧K (S.put d (.may g u))
 | .pick c a b=>∃u,(g=true→Dd S (.pick c a b) u)∧K (S.put d (.may g u))
 | .call f args=>(Ct (fun x=>Bh g (S.val x)) args∧nK C f (args.map fun x=>Av (S.val x)) d g S K)∨((g=true→Ur C d (.call f args) S K)∧(g=false→K (S.put d .undef)))
 | .callv x args=>(Bh g (S.val x)∧Ct (fun x=>Bh g (S.val x)) args∧match Av (S.val x) with
  | .clo f caps=>nK C f (args.map (fun x=>Av (S.val x))++caps) d g S K
  | _=>False)∨((g=true→Ur C d (.callv x args) S K)∧(g=false→K (S.put d .undef)))
 | op=>(g=true→Ur C d op S K)∧(g=false→K (S.put d .undef))
def Di (C:Bj) (i:Cd) (S:St) (K:St→Prop):Prop:=
 match i.g with
 | none=>Ur C i.dst i.op S K
 | some (gs,want)=>match Nc (S.val (.t gs)) want with
  | some g=>wGd C i.dst i.op g S K
  | none=>False
def oE (S:St) (k:Nat) (c:Int):Prop:=
 (∃c',look S.cp k=some c'∧(c=c'∨c<Em∧c≤Nh c'))∨(∃t off sz es,look S.env k=some (.own t off sz es)∧es≠[]∧c≤es.length∧c<Em∧sz≠0) ∨
  ∃k' c' t sz off es off' es',look S.cp k'=some c'∧look S.env k'=some (.own t off' sz es')∧es'≠[]∧look S.env k=some (.own t off sz es)∧es≠[]∧sz≠0 ∧
   (c<Em∧c+off≤Nh c'+off'∨c=c'∧off=off')
def Le (S S':St):Prop:=(∀t v,look S'.env t=some v→look S.env t=some v)∧(∀t cs,look S'.bx t=some cs→look S.bx t=some cs)∧(∀k c,look S'.cp k=some c→oE S k c)
def Xb (S S':St):Prop:=(∀t,look S.env t=look S'.env t)∧∀k,look S.cp k=look S'.cp k
def sS (t t' x:Nat):Nat:=if x=t then t' else if x=t' then t else x
def swC (t t':Nat):V→V
 | .own x off sz es=>.own (sS t t' x) off sz es
 | .optr x sz j k=>.optr (sS t t' x) sz j k
 | c=>c
def St.swap (S:St) (t t':Nat):St:=S.map (swC t t')
def St.swaps (S:St):List (Nat×Nat)→St
 | []=>S
 | (t,t')::r=>(S.swap t t').swaps r
def nG:List (Nat×Nat)→Bool
 | []=>true
 | (t,t')::r=>decide (t<Cu)&&decide (t'<Cu)&&nG r
inductive Fg:St→St→Prop
 | le {S S':St} (h:Le S S'):Fg S S'
 | fz (S:St) (ts:List Nat):Fg S (S.freezes ts)
 | sw (S:St) (rs:List (Nat×Nat)) (h:nG rs=true):Fg S (S.swaps rs)
 | trans {S S' S'':St} (h1:Fg S S') (h2:Fg S' S''):Fg S S''
def sF (C:Bj):List Cd→(St→Prop)→St→Prop
 | [],K,S=>K S
 | i::r,K,S=>∃S1,Fg S S1∧Di C i S1 (sF C r K)
def Dn (i:Cd) (S:St):Prop:=
 match i.op with
 | .p (.load x _ _)=>match Av (S.val x) with
  | .optr .. => False
  | _=>True
 | _=>True
def Fb (C:Bj) (X:List Cd) (S:St):Prop:=Ct (fun j=>Di C j S (fun S'=>Xb S' S)) X
def Ii (C:Bj) (X l:List Cd) (S:St):Prop:=Ct (fun j=>(Dn j S∨j∈X)∧Di C j S (fun S'=>Xb S' S)) l
def WD (C:Bj):DP→List Cd→(St→Prop)→St→Prop
 | .fin,_,K,S=>K S
 | .take i r,X,K,S=>(Dn i S∧Di C i S (fun S'=>Fb C X S'∧WD C r X K S'))∨Di C i S (fun S'=>Fb C (i::X) S'∧WD C r (i::X) K S')
 | .alt held i r rest,X,K,S=>Di C i S (fun S'=>∃S1,Fg S' S1∧∃X',Ii C X' held S1∧Fb C X' S1∧WD C r X' K S1)∧WD C rest X K S
 | .stop,_,_,_=>True
 | .dead,_,_,_=>False
inductive Ex where
 | normal
 | exit (id:Nat)
 | ret
def W (C:Bj):IR→(Ex→St→Prop)→St→Prop
 | .skip,Q,S=>Q .normal S
 | .reg l,Q,S=>sF C l (Q .normal) S
 | .draw p,Q,S=>WD C p [] (Q .normal) S
 | .seq a b,Q,S=>W C a (fun e S'=>match e with | .normal=>∃S1,Fg S' S1∧W C b Q S1 | e=>Q e S') S
 | .ite c a b,Q,S=>Bh true (S.val c)∧match Av (S.val c) with
  | .bool cb=>(cb=true→W C a Q S)∧(cb=false→W C b Q S)
  | _=>False
 | .block id a,Q,S=>W C a (fun e S'=>match e with | .exit id'=>if id'=id then Q .normal S' else Q (.exit id') S' | e=>Q e S') S
 | .loop a,Q,S=>∃(I:St→Prop) (μ:St→Nat),(∃S1,Fg S S1∧I S1)∧∀S,I S →
   W C a (fun e S'=>match e with | .normal=>∃S'',Fg S' S''∧I S''∧μ S''<μ S | e=>Q e S') S
 | .exit id,Q,S=>Q (.exit id) S
 | .ret,Q,S=>Q .ret S
 | .bad,_,_=>False
end Go.Ev
