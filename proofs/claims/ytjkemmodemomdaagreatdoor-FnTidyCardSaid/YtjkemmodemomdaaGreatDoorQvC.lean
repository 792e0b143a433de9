/- The way from a function of the model to the small machine's instructions. -/
import Derived.Test.YtjkemmodemomdaaGreatDoorQvA
import GoSem.Dispatch
import Derived.Laws.Sem
import Derived.Orders
set_option linter.all false
namespace Go.Ev
theorem Wv (c:Nat):Ky (Fj+c)=c:=by
 unfold Ky
 rw [if_neg (by omega)]; omega
theorem Pe {c:Int} (h:c<Fj):Ky c=c:=if_pos h
inductive Su where
 | t (n:Nat)
 | cell (a n:Nat) (ag:Bool)
structure Es where
 np:Nat
 nt:Nat
 res:List Su
 body:IR
section
variable (P:Program) (φ:List (Nat×Nat))
def Eb (t:TypeId):Option Bool:=
 match P.underlying t with
 | some (.struct _) | some (.array _ _)=>some true
 | some _=>some false
 | none=>none
def Gz (t:TypeId):Option (Nat×Nat):=
 match P.underlying t with
 | some (.slice e)=>match P.info? e with
  | some i=>some (i.size,i.bytes)
  | none=>none
 | _=>none
def No:Nat→TypeId→List TypeId
 | 0,t=>[t]
 | n+1,t=>match P.underlying t with
  | some (.struct fs)=>fs.toList.flatMap fun f=>No n f.type
  | some (.array k e)=>(List.replicate k (No n e)).flatten
  | _=>[t]
def Ki (own:Option Nat) (t:TypeId) (v:Value) (k:Nat):V:=
 match v with
 | .int q n=>.int q n
 | .bool b=>.bool b
 | .string s=>.str s.data.toList
 | .slice none 0 0=>match Gz P t with
  | some (sz,_)=>match own with
   | some d=>.own (64*d+1+k) 0 sz []
   | none=>.lst sz []
  | none=>.undef
 | _=>.undef
def zeroCells (own:Option Nat):List TypeId→List Value→Nat→Option (List V)
 | [],[],_=>some []
 | t::ts,v::vs,k=>match zeroCells own ts vs (k+1) with
  | some r=>some (Ki P own t v k::r)
  | none=>none
 | _,_,_=>none
def Ck (own:Option Nat) (t:TypeId):Option (List V):=
 match P.info? t with
 | some i=>match i.zero with
  | some z=>if z.cells.toList.all Value.oneCell' then zeroCells P own (No P 12 t) z.cells.toList 0 else none
  | none=>none
 | none=>none
def aY (t:TypeId):Option (Nat×Nat):=
 match P.underlying t with
 | some (.slice e)=>match P.info? e,Ck P none e with
  | some i,some z=>if z.length=i.size then some (i.size,i.bytes) else none
  | _,_=>none
 | _=>none
def Uq (s:TypeId):Option (List V):=
 match P.underlying s with
 | some (.slice e)=>Ck P none e
 | _=>none
def Rg (t:TypeId):Operand→Option Ay
 | .tmp n=>some (.t n)
 | .const (.int k n)=>some (.c (.int k n))
 | .const (.bool b)=>some (.c (.bool b))
 | .const (.string s)=>some (.c (.str s.data.toList))
 | .const (.slice none 0 0)=>match Gz P t with
  | some (sz,_)=>some (.c (.lst sz []))
  | none=>none
 | .func f=>match look φ f with
  | some g=>some (.c (.clo g []))
  | none=>none
 | .const _=>some (.c .undef)
 | _=>none
def opd':Operand→Option Ay
 | .tmp n=>some (.t n)
 | .const (.int k n)=>some (.c (.int k n))
 | .const (.bool b)=>some (.c (.bool b))
 | .const (.string s)=>some (.c (.str s.data.toList))
 | .func f=>match look φ f with
  | some g=>some (.c (.clo g []))
  | none=>none
 | .const _=>some (.c .undef)
 | _=>none
def opds (f:Operand→Option Ay):List Operand→Option (List Ay)
 | []=>some []
 | x::r=>match f x,opds f r with
  | some y,some s=>some (y::s)
  | _,_=>none
abbrev zK:Nat:=1048543
def tS (t:TypeId) (x:Operand):Option Ay:=
 match Rg P φ t x with
 | some (.c (.lst sz []))=>some (.c (.own zK 0 sz []))
 | y=>y
def Ic:List TypeId→List Operand→Option (List Ay)
 | [],[]=>some []
 | t::ts,x::r=>match tS P φ t x,Ic ts r with
  | some y,some s=>some (y::s)
  | _,_=>none
 | _,_=>none
def Kc:Option Operand→Option (Option Ay)
 | none=>some none
 | some x=>match opd' φ x with
  | some y=>some (some y)
  | none=>none
def Nt (fs:List Field):Option (List (Nat×Nat)):=fs.mapM fun f=>(P.info? f.type).map fun i=>(f.offset,i.size)
def Nk (fs:List Field) (pl:List (Nat×Nat)):List (Nat×Operand)→Option (List (Nat×Nat×Ay))
 | []=>some []
 | (i,x)::r=>match fs[i]?,pl[i]? with
  | some f,some (off,size)=>match Rg P φ f.type x,Nk fs pl r with
   | some y,some s=>some ((off,size,y)::s)
   | _,_=>none
  | _,_=>none
def Nl (e:TypeId):List (Nat×Operand)→Option (List (Nat×Ay))
 | []=>some []
 | (i,x)::r=>match Rg P φ e x,Nl e r with
  | some y,some s=>some ((i,y)::s)
  | _,_=>none
def Kr:List Field→Nat→Option (List Nat)
 | [],_=>some []
 | f :: r, k => if (f.name == "_") = true ∨ f.offset ≠ k then none else match P.underlying f.type, Kr r (k + 1) with
  | some (.int _),some ks=>some (0::ks)
  | some .bool,some ks=>some (1::ks)
  | some .string,some ks=>some (2::ks)
  | _,_=>none
def Pb (t:TypeId):Option (List Nat):=
 match P.underlying t with
 | some (.struct fs)=>if P.stoodInHeld t=true∨P.eqGuardType P.depth t=true then none else Kr P fs.toList 0
 | _=>none
def Jx (fn : Func) : Bool := fn.body.isNone && fn.name == "internal/bytealg.IndexByteString" && fn.origin == ""
def Qf (fn : Func) : Bool := fn.body.isNone && fn.name == "internal/bytealg.abigen_runtime_cmpstring" && fn.origin == ""
def Lt (fn : Func) : Bool := fn.body.isNone && fn.origin == "slices.overlaps" && (fn.name == "slices.overlaps[int]" || fn.name == "slices.overlaps[loop.example/g00149/impl.Pair]") &&
 match fn.params.toList,fn.resultTypes.toList with
 | [t,t'],[_]=>t==t'&&(Gz P t).isSome
 | _,_=>false
def Uk (c:Call) (ty:TypeId):Option Sw:=
 match c.callee with
 | .value (.func f)=>match look φ f,Ic P φ c.argTypes.toList c.args.toList with
  | some g,some xs=>some (.call g xs)
  | none,some [x,y]=>match P.funcs[f]? with
   | some fn=>if Jx fn then some (.p (.xbyte x y)) else if Lt P fn then some (.p (.ovl x y)) else if Qf fn then some (.p (.scmp x y)) else none
   | none=>none
  | _,_=>none
 | .value (.tmp t)=>match Ic P φ c.argTypes.toList c.args.toList with
  | some xs=>some (.callv (.t t) xs)
  | none=>none
 | .builtin .len=>match c.argTypes.toList,c.args.toList with
  | [t],[x]=>match P.underlying t,opd' φ x with
   | some (.slice _),some y=>some (.p (.len y))
   | some .string,some y=>some (.p (.lenS y))
   | _,_=>none
  | _,_=>none
 | .builtin .cap=>match c.argTypes.toList,c.args.toList with
  | [t],[x]=>match P.underlying t,opd' φ x with
   | some (.slice _),some y=>some (.cap y)
   | _,_=>none
  | _,_=>none
 | .builtin .min=>match opds (opd' φ) c.args.toList with
  | some [x,y]=>some (.p (.mn x y))
  | _=>none
 | .builtin .max=>match opds (opd' φ) c.args.toList with
  | some [x,y]=>some (.p (.mx x y))
  | _=>none
 | .builtin .append=>match c.argTypes.toList,c.args.toList with
  | [s,t],[x,y]=>match aY P s,Rg P φ s x,Rg P φ t y with
   | some (sz,by_),some x,some y=>match P.underlying t with
    | some (.slice _) | some .string=>if sz=0∨by_=0 then none else some (.app sz by_ x y)
    | some (.int _)=>match Uq P s with
     | some z=>if sz=0∨by_=0 then none else some (.appz sz by_ z x y)
     | none=>none
    | _=>none
   | _,_,_=>none
  | _,_=>none
 | .builtin .copy=>match c.argTypes.toList,c.args.toList with
  | [s,t],[x,y]=>match Gz P s,opd' φ x,Rg P φ t y with
   | some (sz,_),some x,some y=>if sz=0 then none else some (.copy sz x y)
   | _,_,_=>none
  | _,_=>none
 | .builtin .clear=>match c.argTypes.toList,c.args.toList with
  | [s],[x]=>match P.underlying s,opd' φ x with
   | some (.slice e),some y=>match Ck P none e,P.info? e with
    | some z,some i=>if i.size=0∨z.length≠i.size then none else some (.clear i.size z y)
    | _,_=>none
   | _,_=>none
  | _,_=>none
 | _=>let _:=ty; none
def Ms (t:TypeId):Bool:=
 match P.underlying t with
 | some (.map k e)=>match P.underlying k,P.underlying e,(P.info? e).bind (·.zero) with
  | some (.int .i64),some .bool,some (.bool false)=>true
  | _,_,_=>false
 | _=>false
def Hv (o:Oper):Option Sw:=
 match o.op with
 | .makeMap t r=>match r with
  | none=>if Ms P t then some .mkM else none
  | some _=>none
 | .mapUpdate t m k v=>match opd' φ m,opd' φ k,opd' φ v with
  | some x,some y,some z=>if Ms P t then some (.mset x y z) else none
  | _,_,_=>none
 | .lookup t x i ok=>match ok with
  | false=>match opd' φ x,opd' φ i with
   | some x,some y=>if Ms P t then some (.p (.mget x y)) else none
   | _,_=>none
  | true=>none
 | .move x | .assign x=>match x with
  | .const (.slice none 0 0)=>match Gz P o.type with
   | some (sz,_)=>some (.nilS sz)
   | none=>none
  | x=>match opd' φ x with
   | some y=>some (.p (.mv y))
   | none=>none
 | .pick c a b=>match opd' φ c,opd' φ a,opd' φ b with
  | some c,some a,some b=>some (.pick c a b)
  | _,_,_=>none
 | .alloc t=>match Ck P o.dst t with
  | some z=>some (.alloc z)
  | none=>none
 | .box t x=>match Rg P φ t x with
  | some y=>some (.box y)
  | none=>none
 | .build t parts=>match P.underlying t,Ck P o.dst t with
  | some (.struct fs),some z=>match Nt P fs.toList with
   | some pl=>match Nk P φ fs.toList pl parts.toList with
    | some ps=>some (.p (.build z ps))
    | none=>none
   | none=>none
  | _,_=>none
 | .buildSlice t n parts=>match P.underlying t with
  | some (.slice e)=>match Ck P none e,P.info? e,Nl P φ e parts.toList with
   | some z,some i,some ps=>if n*i.size>2^24∨i.size=0∨z.length≠i.size then none else some (.mkS i.size z n ps)
   | _,_,_=>none
  | _=>none
 | .load t x=>match opd' φ x,P.info? t,Eb P t with
  | some y,some i,some ag=>if i.size=0 then none else some (.p (.load y i.size ag))
  | _,_,_=>none
 | .store t x v=>match opd' φ x,Rg P φ t v,P.info? t with
  | some x,some v,some i=>some (.store x v i.size)
  | _,_,_=>none
 | .nilCheck x=>match opd' φ x with
  | some y=>some (.p (.nilc y))
  | none=>none
 | .binOp op t x y _=>match opd' φ x,opd' φ y with
  | some a,some b=>match P.underlying t with
   | some (.int _) | some .string=>some (.p (.bin op a b))
   | some .bool=>some (.p (.binB op a b))
   | some (.slice _)=>match y with
    | .const (.slice none 0 0)=>match op with
     | .eql=>some (.isnil a false)
     | .neq=>some (.isnil a true)
     | _=>none
    | _=>none
   | some (.struct _)=>match op with
    | .eql=>match Pb P t with
     | some ks=>some (.p (.eqs false ks a b))
     | none=>none
    | .neq=>match Pb P t with
     | some ks=>some (.p (.eqs true ks a b))
     | none=>none
    | _=>none
   | _=>none
  | _,_=>none
 | .unOp op _ x=>match opd' φ x with
  | some y=>some (.p (.un op y))
  | none=>none
 | .convert s d x=>match opd' φ x,P.underlying s,P.underlying d with
  | some y,some (.int _),some (.int k)=>some (.p (.conv k y))
  | some y,some (.int _),some .string=>some (.p (.chr y))
  | some y,some .string,some .string=>some (.p (.strc y))
  | some y,some .string,some (.slice e)=>match P.underlying e with
   | some (.int .u8)=>some (.toBytes y)
   | _=>none
  | some y,some (.slice e),some .string=>match P.underlying e with
   | some (.int .u8)=>some (.p (.toStr y))
   | _=>none
  | _,_,_=>none
 | .makeFunc fn first caps=>match fn with
  | .func f=>if first.isEmpty then match look φ f,opds (opd' φ) caps.toList with
    | some g,some xs=>some (.p (.fn g xs))
    | _,_=>none
   else none
  | _=>none
 | .makeSlice t l c=>match P.underlying t with
  | some (.slice e)=>match Ck P none e,P.info? e,opd' φ l,opd' φ c with
   | some z,some i,some l,some c=>if i.size=0∨i.bytes=0∨z.length≠i.size then none else some (.make i.size i.bytes z l c)
   | _,_,_,_=>none
  | _=>none
 | .slice t x lo hi mx=>match mx with
  | none=>match opd' φ x,Kc φ lo,Kc φ hi with
   | some x,some lo,some hi=>match P.underlying t with
    | some .string=>some (.p (.sliceStr x lo hi))
    | some (.slice e)=>match P.info? e with
     | some i=>if i.size=0 then none else some (.p (.slice x lo hi i.size))
     | none=>none
    | _=>none
   | _,_,_=>none
  | some mx=>match lo,hi with
   | some lo,some hi=>match opd' φ x,opd' φ lo,opd' φ hi,opd' φ mx with
    | some x,some lo,some hi,some mx=>match P.underlying t with
     | some (.slice e)=>match P.info? e with
      | some _=>some (.chk3 x lo hi mx)
      | none=>none
     | _=>none
    | _,_,_,_=>none
   | _,_=>none
 | .fieldAddr t x f=>match P.underlying t,opd' φ x with
  | some (.struct fs),some y=>match fs[f]? with
   | some f=>match P.info? f.type with
    | some i=>if i.size=0 then none else some (.p (.fieldA y f.offset))
    | none=>none
   | none=>none
  | _,_=>none
 | .field t x f=>match P.underlying t,opd' φ x with
  | some (.struct fs),some y=>match fs[f]? with
   | some f=>match P.info? f.type,Eb P f.type with
    | some i,some ag=>if i.size=0 then none else some (.p (.field y f.offset i.size ag))
    | _,_=>none
   | none=>none
  | _,_=>none
 | .indexAddr t x i=>match opd' φ x,opd' φ i with
  | some x,some i=>match P.underlying t with
   | some (.slice e)=>match P.info? e with
    | some inf=>if inf.size=0 then none else some (.p (.idxA x i inf.size))
    | none=>none
   | some (.array n e)=>match P.info? e with
    | some inf=>if inf.size=0 then none else some (.p (.idxArr x i n inf.size))
    | none=>none
   | _=>none
  | _,_=>none
 | .index t x i=>match opd' φ x,opd' φ i with
  | some x,some i=>match P.underlying t with
   | some .string=>some (.p (.idxStr x i))
   | _=>none
  | _,_=>none
 | .extract x i=>match opd' φ x with
  | some y=>some (.p (.ext y i))
  | none=>none
 | .call c=>Uk P φ c o.type
 | _=>none
def Mw (nt:Nat):Option Nat→Bool
 | some d=>decide (d≥nt)
 | none=>false
def Ot (nt:Nat) (ops:Array Oper) (o:Oper):Bq:=
 if Mw nt o.dst=true then { dst:=none,op:=.bad,g:=none } else
 match o.guard with
 | none=>{ dst:=o.dst,op:=(Hv P φ o).getD .bad,g:=none }
 | some (g,want)=>match (ops[g]?).bind (·.dst) with
  | some s=>{ dst:=o.dst,op:=(Hv P φ o).getD .bad,g:=some (s,want) }
  | none=>{ dst:=o.dst,op:=.bad,g:=none }
def Mg (nt:Nat) (ops:Array Oper):List Oper→List Bq
 | []=>[]
 | o::r=>Ot P φ nt ops o::Mg nt ops r
def Lr (o:Oper):List Nat:=(o.after.toList.filter (Region.binds .any)).map (·.on)
def uQ (r:List Nat):List Nat→List Nat
 | []=>r
 | x::l=>uQ (if r.contains x then r else x::r) l
def Wg:List Oper→List (List Nat)→List (List Nat)
 | [],acc=>acc
 | o::r,acc=>Wg r (acc++[(Lr o).foldl (fun z d=>uQ z (d::acc.getD d [])) []])
def Sw.opds:Sw→List Ay
 | .p o=>o.opds
 | .pick c a b=>[c,a,b]
 | _=>[]
def Dr (i:Bq):List Nat:=
 (i.op.opds.filterMap fun | .t n=>some n | _=>none)++(match i.g with | some (g,_)=>[g] | none=>[])
def Fc (i:Bq):Bool:=
 match i.op with
 | .p _ | .pick .. => true
 | _=>false
structure Bi where
 o:Oper
 ins:Bq
 dep:List Nat
 anc:List Nat
def Jo (nt:Nat) (ops:Array Oper):List Oper→List (List Nat)→List Bi
 | o::r,a::s=>{ o:=o,ins:=Ot P φ nt ops o,dep:=Lr o,anc:=a }::Jo nt ops r s
 | _,_=>[]
def Yu (ops:Array Oper) (j:Nat) (x:Bi):Nat→List Bi→Bool
 | _,[]=>true
 | i,y::r=>(decide (i=j) || (y.o.dst != x.o.dst&&(match x.o.dst with
   | some d => !((y.o.looksAt ops).contains d || (Dr y.ins).contains d) || y.anc.contains j
   | none=>false)))&&Yu ops j x (i+1) r
def Pa (ops:Array Oper) (I:List Bi) (j:Nat) (x:Bi):Bool:=
 Fc x.ins&&(match x.o.dst with
  | some d=>x.ins.dst==some d && !((x.o.looksAt ops).contains d || (Dr x.ins).contains d)
  | none=>false)&&Yu ops j x 0 I
def Rv (I:List Bi):Nat→List Bi→Bool
 | _,[]=>true
 | i,x::r=>x.dep.all (fun d=>decide (d<i))&&x.anc.all (fun y=>x.dep.contains y || x.dep.any fun d=>((I[d]?).map (·.anc.contains y)).getD false)&&Rv I (i+1) r
def Wy (D:List Nat) (j:Nat) (x:Bi):Bool := !D.contains j&&x.dep.all (D.contains ·)
def Df (D:List Nat):Nat→List Bi→List (Nat×Bi)
 | _,[]=>[]
 | j,x::r=>if Wy D j x then (j,x)::Df D (j+1) r else Df D (j+1) r
def Fo (f:Nat→Bi→Bool):List (Nat×Bi)→Option (Nat×Bi)
 | []=>none
 | (j,x)::r=>if f j x then some (j,x) else Fo f r
def Sg (I:List Bi) (j:Nat):Bq:=match I[j]? with
 | some x=>x.ins
 | none=>{ dst:=none,op:=.bad,g:=none }
def We (held:Bi→List Bq) (f:Nat→Bi→DP):List (Nat×Bi)→DP
 | []=>.stop
 | (j,x)::r=>.alt (held x) x.ins (f j x) (We held f r)
def Oe (x:Bi) (E:List Nat):List Nat:=E.filter fun j => !x.anc.contains j
def Ir (ops:Array Oper) (I:List Bi):Nat→List Nat→List Nat→DP
 | 0,_,_=>.dead
 | n+1,D,E=>match Fo (Pa ops I) (Df D 0 I) with
  | some (j,x)=>.take x.ins (Ir ops I n (j::D) (j::E))
  | none=>match Df D 0 I with
   | []=>.fin
   | rs=>We (fun x=>(Oe x E).map (Sg I)) (fun j x=>Ir ops I n (j::D) (Oe x E)) rs
def bT (nt:Nat) (ops:Array Oper):DP:=
 let I:=Jo P φ nt ops ops.toList (Wg ops.toList [])
 if P.follows .mixedOrders&&Rv I 0 I&&Region.noSelect ops&&I.length==ops.size then Ir ops I (ops.size+1) [] [] else .dead
def Jl (nt:Nat):Code→IR
 | .skip=>.skip
 | .region _ ops false=>.reg (Mg P φ nt ops ops.toList)
 | .region _ ops true=>.draw (bT P φ nt ops)
 | .seq a b=>.seq (Jl nt a) (Jl nt b)
 | .cond c a b=>match c with
  | .tmp t=>.ite (.t t) (Jl nt a) (Jl nt b)
  | .const (.bool b')=>.ite (.c (.bool b')) (Jl nt a) (Jl nt b)
  | _=>.bad
 | .block id a=>.block id (Jl nt a)
 | .loop a=>.loop (Jl nt a)
 | .exit id=>.exit id
 | .ret=>.ret
 | _=>.bad
def Kx:List ResultVar→Option (List Su)
 | []=>some []
 | .tmp t::r=>match Kx r with
  | some s=>some (.t t::s)
  | none=>none
 | .cell a t::r=>match P.info? t,Eb P t,Kx r with
  | some i,some ag,some s=>if i.size=0 then none else some (.cell a i.size ag::s)
  | _,_,_=>none
def Km (f:Func):Option Es:=
 match f.body,Kx P f.results.toList with
 | some c, some rs => if f.ntmps > 16000 || f.name == "runtime.NumGoroutine" then none else some { np := f.params.size + f.nfree, nt := f.ntmps, res := rs, body := Jl P φ f.ntmps c }
 | _,_=>none
end
end Go.Ev
