/- The way from a function of the model to the small machine's instructions. -/
import Derived.Test.YtdmclbbhhcpjfaaDoorQvA
import GoSem.Dispatch
import Derived.Laws.Sem
import Derived.Orders
set_option linter.all false
namespace Go.Ev
theorem Wk (c:Nat):Lb (Dr+c)=c:=by
 unfold Lb
 rw [if_neg (by omega)]; omega
theorem Qs {c:Int} (h:c<Dr):Lb c=c:=if_pos h
inductive Vr where
 | t (n:Nat)
 | cell (a n:Nat) (ag:Bool)
structure Dn where
 np:Nat
 nt:Nat
 res:List Vr
 body:IR
section
variable (P:Program) (φ:List (Nat×Nat))
def Em (t:TypeId):Option Bool:=
 match P.underlying t with
 | some (.struct _) | some (.array _ _)=>some true
 | some _=>some false
 | none=>none
def Hc (t:TypeId):Option (Nat×Nat):=
 match P.underlying t with
 | some (.slice e)=>match P.info? e with
  | some i=>some (i.size,i.bytes)
  | none=>none
 | _=>none
def Ou:Nat→TypeId→List TypeId
 | 0,t=>[t]
 | n+1,t=>match P.underlying t with
  | some (.struct fs)=>fs.toList.flatMap fun f=>Ou n f.type
  | some (.array k e)=>(List.replicate k (Ou n e)).flatten
  | _=>[t]
def Ll (own:Option Nat) (t:TypeId) (v:Value) (k:Nat):V:=
 match v with
 | .int q n=>.int q n
 | .bool b=>.bool b
 | .string s=>.str s.data.toList
 | .slice none 0 0=>match Hc P t with
  | some (sz,_)=>match own with
   | some d=>.own (64*d+1+k) 0 sz []
   | none=>.lst sz []
  | none=>.undef
 | _=>.undef
def zeroCells (own:Option Nat):List TypeId→List Value→Nat→Option (List V)
 | [],[],_=>some []
 | t::ts,v::vs,k=>match zeroCells own ts vs (k+1) with
  | some r=>some (Ll P own t v k::r)
  | none=>none
 | _,_,_=>none
def Cp (own:Option Nat) (t:TypeId):Option (List V):=
 match P.info? t with
 | some i=>match i.zero with
  | some z=>if z.cells.toList.all Value.oneCell' then zeroCells P own (Ou P 12 t) z.cells.toList 0 else none
  | none=>none
 | none=>none
def dX (t:TypeId):Option (Nat×Nat):=
 match P.underlying t with
 | some (.slice e)=>match P.info? e,Cp P none e with
  | some i,some z=>if z.length=i.size then some (i.size,i.bytes) else none
  | _,_=>none
 | _=>none
def Xm (s:TypeId):Option (List V):=
 match P.underlying s with
 | some (.slice e)=>Cp P none e
 | _=>none
def Tj (t:TypeId):Operand→Option Av
 | .tmp n=>some (.t n)
 | .const (.int k n)=>some (.c (.int k n))
 | .const (.bool b)=>some (.c (.bool b))
 | .const (.string s)=>some (.c (.str s.data.toList))
 | .const (.slice none 0 0)=>match Hc P t with
  | some (sz,_)=>some (.c (.lst sz []))
  | none=>none
 | .func f=>match look φ f with
  | some g=>some (.c (.clo g []))
  | none=>none
 | .const _=>some (.c .undef)
 | _=>none
def opd':Operand→Option Av
 | .tmp n=>some (.t n)
 | .const (.int k n)=>some (.c (.int k n))
 | .const (.bool b)=>some (.c (.bool b))
 | .const (.string s)=>some (.c (.str s.data.toList))
 | .func f=>match look φ f with
  | some g=>some (.c (.clo g []))
  | none=>none
 | .const _=>some (.c .undef)
 | _=>none
def opds (f:Operand→Option Av):List Operand→Option (List Av)
 | []=>some []
 | x::r=>match f x,opds f r with
  | some y,some s=>some (y::s)
  | _,_=>none
abbrev ND:Nat:=1048543
def FZ (t:TypeId) (x:Operand):Option Av:=
 match Tj P φ t x with
 | some (.c (.lst sz []))=>some (.c (.own ND 0 sz []))
 | y=>y
def Ir:List TypeId→List Operand→Option (List Av)
 | [],[]=>some []
 | t::ts,x::r=>match FZ P φ t x,Ir ts r with
  | some y,some s=>some (y::s)
  | _,_=>none
 | _,_=>none
def Lg:Option Operand→Option (Option Av)
 | none=>some none
 | some x=>match opd' φ x with
  | some y=>some (some y)
  | none=>none
def Pf (fs:List Field):Option (List (Nat×Nat)):=fs.mapM fun f=>(P.info? f.type).map fun i=>(f.offset,i.size)
def On (fs:List Field) (pl:List (Nat×Nat)):List (Nat×Operand)→Option (List (Nat×Nat×Av))
 | []=>some []
 | (i,x)::r=>match fs[i]?,pl[i]? with
  | some f,some (off,size)=>match Tj P φ f.type x,On fs pl r with
   | some y,some s=>some ((off,size,y)::s)
   | _,_=>none
  | _,_=>none
def Oo (e:TypeId):List (Nat×Operand)→Option (List (Nat×Av))
 | []=>some []
 | (i,x)::r=>match Tj P φ e x,Oo e r with
  | some y,some s=>some ((i,y)::s)
  | _,_=>none
def Lv:List Field→Nat→Option (List Nat)
 | [],_=>some []
 | f :: r, k => if (f.name == "_") = true ∨ f.offset ≠ k then none else match P.underlying f.type, Lv r (k + 1) with
  | some (.int _),some ks=>some (0::ks)
  | some .bool,some ks=>some (1::ks)
  | some .string,some ks=>some (2::ks)
  | _,_=>none
def Qm (t:TypeId):Option (List Nat):=
 match P.underlying t with
 | some (.struct fs)=>if P.stoodInHeld t=true∨P.eqGuardType P.depth t=true then none else Lv P fs.toList 0
 | _=>none
def Kz (fn : Func) : Bool := fn.body.isNone && fn.name == "internal/bytealg.IndexByteString" && fn.origin == ""
def Sh (fn : Func) : Bool := fn.body.isNone && fn.name == "internal/bytealg.abigen_runtime_cmpstring" && fn.origin == ""
def Mt (fn : Func) : Bool := fn.body.isNone && fn.origin == "slices.overlaps" && (fn.name == "slices.overlaps[int]" || fn.name == "slices.overlaps[loop.example/g00149/impl.Pair]") &&
 match fn.params.toList,fn.resultTypes.toList with
 | [t,t'],[_]=>t==t'&&(Hc P t).isSome
 | _,_=>false
def Xj (c:Call) (ty:TypeId):Option Vt:=
 match c.callee with
 | .value (.func f)=>match look φ f,Ir P φ c.argTypes.toList c.args.toList with
  | some g,some xs=>some (.call g xs)
  | none,some [x,y]=>match P.funcs[f]? with
   | some fn=>if Kz fn then some (.p (.xbyte x y)) else if Mt P fn then some (.p (.ovl x y)) else if Sh fn then some (.p (.scmp x y)) else none
   | none=>none
  | _,_=>none
 | .value (.tmp t)=>match Ir P φ c.argTypes.toList c.args.toList with
  | some xs=>some (.callv (.t t) xs)
  | none=>none
 | .builtin .len=>match c.argTypes.toList,c.args.toList with
  | [t],[x]=>match P.underlying t,opd' φ x with
   | some (.slice _),some y=>some (.p (.len y))
   | some .string,some y=>some (.p (.lenS y))
   | _,_=>none
  | _,_=>none
 | .builtin .cap=>match c.argTypes.toList,c.args.toList with
  | [t],[x]=>match P.underlying t,opd' φ x with
   | some (.slice _),some y=>some (.cap y)
   | _,_=>none
  | _,_=>none
 | .builtin .min=>match opds (opd' φ) c.args.toList with
  | some [x,y]=>some (.p (.mn x y))
  | _=>none
 | .builtin .max=>match opds (opd' φ) c.args.toList with
  | some [x,y]=>some (.p (.mx x y))
  | _=>none
 | .builtin .append=>match c.argTypes.toList,c.args.toList with
  | [s,t],[x,y]=>match dX P s,Tj P φ s x,Tj P φ t y with
   | some (sz,by_),some x,some y=>match P.underlying t with
    | some (.slice _) | some .string=>if sz=0∨by_=0 then none else some (.app sz by_ x y)
    | some (.int _)=>match Xm P s with
     | some z=>if sz=0∨by_=0 then none else some (.appz sz by_ z x y)
     | none=>none
    | _=>none
   | _,_,_=>none
  | _,_=>none
 | .builtin .copy=>match c.argTypes.toList,c.args.toList with
  | [s,t],[x,y]=>match Hc P s,opd' φ x,Tj P φ t y with
   | some (sz,_),some x,some y=>if sz=0 then none else some (.copy sz x y)
   | _,_,_=>none
  | _,_=>none
 | .builtin .clear=>match c.argTypes.toList,c.args.toList with
  | [s],[x]=>match P.underlying s,opd' φ x with
   | some (.slice e),some y=>match Cp P none e,P.info? e with
    | some z,some i=>if i.size=0∨z.length≠i.size then none else some (.clear i.size z y)
    | _,_=>none
   | _,_=>none
  | _,_=>none
 | _=>let _:=ty; none
def Ny (t:TypeId):Bool:=
 match P.underlying t with
 | some (.map k e)=>match P.underlying k,P.underlying e,(P.info? e).bind (·.zero) with
  | some (.int .i64),some .bool,some (.bool false)=>true
  | _,_,_=>false
 | _=>false
def Ig (o:Oper):Option Vt:=
 match o.op with
 | .makeMap t r=>match r with
  | none=>if Ny P t then some .mkM else none
  | some _=>none
 | .mapUpdate t m k v=>match opd' φ m,opd' φ k,opd' φ v with
  | some x,some y,some z=>if Ny P t then some (.mset x y z) else none
  | _,_,_=>none
 | .lookup t x i ok=>match ok with
  | false=>match opd' φ x,opd' φ i with
   | some x,some y=>if Ny P t then some (.p (.mget x y)) else none
   | _,_=>none
  | true=>none
 | .move x | .assign x=>match x with
  | .const (.slice none 0 0)=>match Hc P o.type with
   | some (sz,_)=>some (.nilS sz)
   | none=>none
  | x=>match opd' φ x with
   | some y=>some (.p (.mv y))
   | none=>none
 | .pick c a b=>match opd' φ c,opd' φ a,opd' φ b with
  | some c,some a,some b=>some (.pick c a b)
  | _,_,_=>none
 | .alloc t=>match Cp P o.dst t with
  | some z=>some (.alloc z)
  | none=>none
 | .box t x=>match Tj P φ t x with
  | some y=>some (.box y)
  | none=>none
 | .build t parts=>match P.underlying t,Cp P o.dst t with
  | some (.struct fs),some z=>match Pf P fs.toList with
   | some pl=>match On P φ fs.toList pl parts.toList with
    | some ps=>some (.p (.build z ps))
    | none=>none
   | none=>none
  | _,_=>none
 | .buildSlice t n parts=>match P.underlying t with
  | some (.slice e)=>match Cp P none e,P.info? e,Oo P φ e parts.toList with
   | some z,some i,some ps=>if n*i.size>2^24∨i.size=0∨z.length≠i.size then none else some (.mkS i.size z n ps)
   | _,_,_=>none
  | _=>none
 | .load t x=>match opd' φ x,P.info? t,Em P t with
  | some y,some i,some ag=>if i.size=0 then none else some (.p (.load y i.size ag))
  | _,_,_=>none
 | .store t x v=>match opd' φ x,Tj P φ t v,P.info? t with
  | some x,some v,some i=>some (.store x v i.size)
  | _,_,_=>none
 | .nilCheck x=>match opd' φ x with
  | some y=>some (.p (.nilc y))
  | none=>none
 | .binOp op t x y _=>match opd' φ x,opd' φ y with
  | some a,some b=>match P.underlying t with
   | some (.int _) | some .string=>some (.p (.bin op a b))
   | some .bool=>some (.p (.binB op a b))
   | some (.slice _)=>match y with
    | .const (.slice none 0 0)=>match op with
     | .eql=>some (.isnil a false)
     | .neq=>some (.isnil a true)
     | _=>none
    | _=>none
   | some (.struct _)=>match op with
    | .eql=>match Qm P t with
     | some ks=>some (.p (.eqs false ks a b))
     | none=>none
    | .neq=>match Qm P t with
     | some ks=>some (.p (.eqs true ks a b))
     | none=>none
    | _=>none
   | _=>none
  | _,_=>none
 | .unOp op _ x=>match opd' φ x with
  | some y=>some (.p (.un op y))
  | none=>none
 | .convert s d x=>match opd' φ x,P.underlying s,P.underlying d with
  | some y,some (.int _),some (.int k)=>some (.p (.conv k y))
  | some y,some (.int _),some .string=>some (.p (.chr y))
  | some y,some .string,some .string=>some (.p (.strc y))
  | some y,some .string,some (.slice e)=>match P.underlying e with
   | some (.int .u8)=>some (.toBytes y)
   | _=>none
  | some y,some (.slice e),some .string=>match P.underlying e with
   | some (.int .u8)=>some (.p (.toStr y))
   | _=>none
  | _,_,_=>none
 | .makeFunc fn first caps=>match fn with
  | .func f=>if first.isEmpty then match look φ f,opds (opd' φ) caps.toList with
    | some g,some xs=>some (.p (.fn g xs))
    | _,_=>none
   else none
  | _=>none
 | .makeSlice t l c=>match P.underlying t with
  | some (.slice e)=>match Cp P none e,P.info? e,opd' φ l,opd' φ c with
   | some z,some i,some l,some c=>if i.size=0∨i.bytes=0∨z.length≠i.size then none else some (.make i.size i.bytes z l c)
   | _,_,_,_=>none
  | _=>none
 | .slice t x lo hi mx=>match mx with
  | none=>match opd' φ x,Lg φ lo,Lg φ hi with
   | some x,some lo,some hi=>match P.underlying t with
    | some .string=>some (.p (.sliceStr x lo hi))
    | some (.slice e)=>match P.info? e with
     | some i=>if i.size=0 then none else some (.p (.slice x lo hi i.size))
     | none=>none
    | _=>none
   | _,_,_=>none
  | some mx=>match lo,hi with
   | some lo,some hi=>match opd' φ x,opd' φ lo,opd' φ hi,opd' φ mx with
    | some x,some lo,some hi,some mx=>match P.underlying t with
     | some (.slice e)=>match P.info? e with
      | some _=>some (.chk3 x lo hi mx)
      | none=>none
     | _=>none
    | _,_,_,_=>none
   | _,_=>none
 | .fieldAddr t x f=>match P.underlying t,opd' φ x with
  | some (.struct fs),some y=>match fs[f]? with
   | some f=>match P.info? f.type with
    | some i=>if i.size=0 then none else some (.p (.fieldA y f.offset))
    | none=>none
   | none=>none
  | _,_=>none
 | .field t x f=>match P.underlying t,opd' φ x with
  | some (.struct fs),some y=>match fs[f]? with
   | some f=>match P.info? f.type,Em P f.type with
    | some i,some ag=>if i.size=0 then none else some (.p (.field y f.offset i.size ag))
    | _,_=>none
   | none=>none
  | _,_=>none
 | .indexAddr t x i=>match opd' φ x,opd' φ i with
  | some x,some i=>match P.underlying t with
   | some (.slice e)=>match P.info? e with
    | some inf=>if inf.size=0 then none else some (.p (.idxA x i inf.size))
    | none=>none
   | some (.array n e)=>match P.info? e with
    | some inf=>if inf.size=0 then none else some (.p (.idxArr x i n inf.size))
    | none=>none
   | _=>none
  | _,_=>none
 | .index t x i=>match opd' φ x,opd' φ i with
  | some x,some i=>match P.underlying t with
   | some .string=>some (.p (.idxStr x i))
   | _=>none
  | _,_=>none
 | .extract x i=>match opd' φ x with
  | some y=>some (.p (.ext y i))
  | none=>none
 | .call c=>Xj P φ c o.type
 | _=>none
def Oc (nt:Nat):Option Nat→Bool
 | some d=>decide (d≥nt)
 | none=>false
def Qb (nt:Nat) (ops:Array Oper) (o:Oper):Bg:=
 if Oc nt o.dst=true then { dst:=none,op:=.bad,g:=none } else
 match o.guard with
 | none=>{ dst:=o.dst,op:=(Ig P φ o).getD .bad,g:=none }
 | some (g,want)=>match (ops[g]?).bind (·.dst) with
  | some s=>{ dst:=o.dst,op:=(Ig P φ o).getD .bad,g:=some (s,want) }
  | none=>{ dst:=o.dst,op:=.bad,g:=none }
def Nk (nt:Nat) (ops:Array Oper):List Oper→List Bg
 | []=>[]
 | o::r=>Qb P φ nt ops o::Nk nt ops r
def Ms (o:Oper):List Nat:=(o.after.toList.filter (Region.binds .any)).map (·.on)
def HI (r:List Nat):List Nat→List Nat
 | []=>r
 | x::l=>HI (if r.contains x then r else x::r) l
def Zc:List Oper→List (List Nat)→List (List Nat)
 | [],acc=>acc
 | o::r,acc=>Zc r (acc++[(Ms o).foldl (fun z d=>HI z (d::acc.getD d [])) []])
def Vt.opds:Vt→List Av
 | .p o=>o.opds
 | .pick c a b=>[c,a,b]
 | _=>[]
def Dx (i:Bg):List Nat:=
 (i.op.opds.filterMap fun | .t n=>some n | _=>none)++(match i.g with | some (g,_)=>[g] | none=>[])
def Ft (i:Bg):Bool:=
 match i.op with
 | .p _ | .pick .. => true
 | _=>false
structure Bf where
 o:Oper
 ins:Bg
 dep:List Nat
 anc:List Nat
def Km (nt:Nat) (ops:Array Oper):List Oper→List (List Nat)→List Bf
 | o::r,a::s=>{ o:=o,ins:=Qb P φ nt ops o,dep:=Ms o,anc:=a }::Km nt ops r s
 | _,_=>[]
def bT (ops:Array Oper) (j:Nat) (x:Bf):Nat→List Bf→Bool
 | _,[]=>true
 | i,y::r=>(decide (i=j) || (y.o.dst != x.o.dst&&(match x.o.dst with
   | some d => !((y.o.looksAt ops).contains d || (Dx y.ins).contains d) || y.anc.contains j
   | none=>false)))&&bT ops j x (i+1) r
def Qk (ops:Array Oper) (I:List Bf) (j:Nat) (x:Bf):Bool:=
 Ft x.ins&&(match x.o.dst with
  | some d=>x.ins.dst==some d && !((x.o.looksAt ops).contains d || (Dx x.ins).contains d)
  | none=>false)&&bT ops j x 0 I
def Uf (I:List Bf):Nat→List Bf→Bool
 | _,[]=>true
 | i,x::r=>x.dep.all (fun d=>decide (d<i))&&x.anc.all (fun y=>x.dep.contains y || x.dep.any fun d=>((I[d]?).map (·.anc.contains y)).getD false)&&Uf I (i+1) r
def Zu (D:List Nat) (j:Nat) (x:Bf):Bool := !D.contains j&&x.dep.all (D.contains ·)
def Dl (D:List Nat):Nat→List Bf→List (Nat×Bf)
 | _,[]=>[]
 | j,x::r=>if Zu D j x then (j,x)::Dl D (j+1) r else Dl D (j+1) r
def Gb (f:Nat→Bf→Bool):List (Nat×Bf)→Option (Nat×Bf)
 | []=>none
 | (j,x)::r=>if f j x then some (j,x) else Gb f r
def Uw (I:List Bf) (j:Nat):Bg:=match I[j]? with
 | some x=>x.ins
 | none=>{ dst:=none,op:=.bad,g:=none }
def Za (held:Bf→List Bg) (f:Nat→Bf→DP):List (Nat×Bf)→DP
 | []=>.stop
 | (j,x)::r=>.alt (held x) x.ins (f j x) (Za held f r)
def Pr (x:Bf) (E:List Nat):List Nat:=E.filter fun j => !x.anc.contains j
def Jn (ops:Array Oper) (I:List Bf):Nat→List Nat→List Nat→DP
 | 0,_,_=>.dead
 | n+1,D,E=>match Gb (Qk ops I) (Dl D 0 I) with
  | some (j,x)=>.take x.ins (Jn ops I n (j::D) (j::E))
  | none=>match Dl D 0 I with
   | []=>.fin
   | rs=>Za (fun x=>(Pr x E).map (Uw I)) (fun j x=>Jn ops I n (j::D) (Pr x E)) rs
def fS (nt:Nat) (ops:Array Oper):DP:=
 let I:=Km P φ nt ops ops.toList (Zc ops.toList [])
 if P.follows .mixedOrders&&Uf I 0 I&&Region.noSelect ops&&I.length==ops.size then Jn ops I (ops.size+1) [] [] else .dead
def Kj (nt:Nat):Code→IR
 | .skip=>.skip
 | .region _ ops false=>.reg (Nk P φ nt ops ops.toList)
 | .region _ ops true=>.draw (fS P φ nt ops)
 | .seq a b=>.seq (Kj nt a) (Kj nt b)
 | .cond c a b=>match c with
  | .tmp t=>.ite (.t t) (Kj nt a) (Kj nt b)
  | .const (.bool b')=>.ite (.c (.bool b')) (Kj nt a) (Kj nt b)
  | _=>.bad
 | .block id a=>.block id (Kj nt a)
 | .loop a=>.loop (Kj nt a)
 | .exit id=>.exit id
 | .ret=>.ret
 | _=>.bad
def Mb:List ResultVar→Option (List Vr)
 | []=>some []
 | .tmp t::r=>match Mb r with
  | some s=>some (.t t::s)
  | none=>none
 | .cell a t::r=>match P.info? t,Em P t,Mb r with
  | some i,some ag,some s=>if i.size=0 then none else some (.cell a i.size ag::s)
  | _,_,_=>none
def Lp (f:Func):Option Dn:=
 match f.body,Mb P f.results.toList with
 | some c, some rs => if f.ntmps > 16000 || f.name == "runtime.NumGoroutine" then none else some { np := f.params.size + f.nfree, nt := f.ntmps, res := rs, body := Kj P φ f.ntmps c }
 | _,_=>none
end
end Go.Ev
