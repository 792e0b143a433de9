/- The way from a function of the model to the small machine's instructions. -/
import Derived.Test.YtnkhjipmmomjoaaGreatQvA
import GoSem.Dispatch
import Derived.Laws.Sem
import Derived.Orders
set_option linter.all false
namespace Go.Ev
theorem aK (c:Nat):Nh (Em+c)=c:=by
 unfold Nh
 rw [if_neg (by omega)]; omega
theorem Lp {c:Int} (h:c<Em):Nh c=c:=if_pos h
inductive cL where
 | t (n:Nat)
 | cell (a n:Nat) (ag:Bool)
structure Cz where
 np:Nat
 nt:Nat
 res:List cL
 body:IR
section
variable (P:Program) (φ:List (Nat×Nat))
def Hd (t:TypeId):Option Bool:=
 match P.underlying t with
 | some (.struct _) | some (.array _ _)=>some true
 | some _=>some false
 | none=>none
def Km (t:TypeId):Option (Nat×Nat):=
 match P.underlying t with
 | some (.slice e)=>match P.info? e with
  | some i=>some (i.size,i.bytes)
  | none=>none
 | _=>none
def Vc:Nat→TypeId→List TypeId
 | 0,t=>[t]
 | n+1,t=>match P.underlying t with
  | some (.struct fs)=>fs.toList.flatMap fun f=>Vc n f.type
  | some (.array k e)=>(List.replicate k (Vc n e)).flatten
  | _=>[t]
def Ut (own:Option Nat) (t:TypeId) (v:Value) (k:Nat):V:=
 match v with
 | .int q n=>.int q n
 | .bool b=>.bool b
 | .string s=>.str s.data.toList
 | .slice none 0 0=>match Km P t with
  | some (sz,_)=>match own with
   | some d=>.own (64*d+1+k) 0 sz []
   | none=>.lst sz []
  | none=>.undef
 | _=>.undef
def zeroCells (own:Option Nat):List TypeId→List Value→Nat→Option (List V)
 | [],[],_=>some []
 | t::ts,v::vs,k=>match zeroCells own ts vs (k+1) with
  | some r=>some (Ut P own t v k::r)
  | none=>none
 | _,_,_=>none
def Er (own:Option Nat) (t:TypeId):Option (List V):=
 match P.info? t with
 | some i=>match i.zero with
  | some z=>if z.cells.toList.all Value.oneCell' then zeroCells P own (Vc P 12 t) z.cells.toList 0 else none
  | none=>none
 | none=>none
def sZ (t:TypeId):Option (Nat×Nat):=
 match P.underlying t with
 | some (.slice e)=>match P.info? e,Er P none e with
  | some i,some z=>if z.length=i.size then some (i.size,i.bytes) else none
  | _,_=>none
 | _=>none
def iT (s:TypeId):Option (List V):=
 match P.underlying s with
 | some (.slice e)=>Er P none e
 | _=>none
def bT (t:TypeId):Operand→Option Ck
 | .tmp n=>some (.t n)
 | .const (.int k n)=>some (.c (.int k n))
 | .const (.bool b)=>some (.c (.bool b))
 | .const (.string s)=>some (.c (.str s.data.toList))
 | .const (.slice none 0 0)=>match Km P t with
  | some (sz,_)=>some (.c (.lst sz []))
  | none=>none
 | .func f=>match look φ f with
  | some g=>some (.c (.clo g []))
  | none=>none
 | .const _=>some (.c .undef)
 | _=>none
def opd':Operand→Option Ck
 | .tmp n=>some (.t n)
 | .const (.int k n)=>some (.c (.int k n))
 | .const (.bool b)=>some (.c (.bool b))
 | .const (.string s)=>some (.c (.str s.data.toList))
 | .func f=>match look φ f with
  | some g=>some (.c (.clo g []))
  | none=>none
 | .const _=>some (.c .undef)
 | _=>none
def opds (f:Operand→Option Ck):List Operand→Option (List Ck)
 | []=>some []
 | x::r=>match f x,opds f r with
  | some y,some s=>some (y::s)
  | _,_=>none
abbrev nilT:Nat:=1048575
def opdA (t:TypeId) (x:Operand):Option Ck:=
 match bT P φ t x with
 | some (.c (.lst sz []))=>some (.c (.own nilT 0 sz []))
 | y=>y
def Oc:List TypeId→List Operand→Option (List Ck)
 | [],[]=>some []
 | t::ts,x::r=>match opdA P φ t x,Oc ts r with
  | some y,some s=>some (y::s)
  | _,_=>none
 | _,_=>none
def Pu:Option Operand→Option (Option Ck)
 | none=>some none
 | some x=>match opd' φ x with
  | some y=>some (some y)
  | none=>none
def mV (fs:List Field):Option (List (Nat×Nat)):=fs.mapM fun f=>(P.info? f.type).map fun i=>(f.offset,i.size)
def Uz (fs:List Field) (pl:List (Nat×Nat)):List (Nat×Operand)→Option (List (Nat×Nat×Ck))
 | []=>some []
 | (i,x)::r=>match fs[i]?,pl[i]? with
  | some f,some (off,size)=>match bT P φ f.type x,Uz fs pl r with
   | some y,some s=>some ((off,size,y)::s)
   | _,_=>none
  | _,_=>none
def Va (e:TypeId):List (Nat×Operand)→Option (List (Nat×Ck))
 | []=>some []
 | (i,x)::r=>match bT P φ e x,Va e r with
  | some y,some s=>some ((i,y)::s)
  | _,_=>none
def Qx:List Field→Nat→Option (List Nat)
 | [],_=>some []
 | f :: r, k => if (f.name == "_") = true ∨ f.offset ≠ k then none else match P.underlying f.type, Qx r (k + 1) with
  | some (.int _),some ks=>some (0::ks)
  | some .bool,some ks=>some (1::ks)
  | some .string,some ks=>some (2::ks)
  | _,_=>none
def Xp (t:TypeId):Option (List Nat):=
 match P.underlying t with
 | some (.struct fs)=>if P.stoodInHeld t=true∨P.eqGuardType P.depth t=true then none else Qx P fs.toList 0
 | _=>none
def Pi (fn : Func) : Bool := fn.body.isNone && fn.name == "internal/bytealg.IndexByteString" && fn.origin == ""
def Se (fn : Func) : Bool := fn.body.isNone && fn.origin == "slices.overlaps" && (fn.name == "slices.overlaps[int]" || fn.name == "slices.overlaps[loop.example/g00149/impl.Pair]") &&
 match fn.params.toList,fn.resultTypes.toList with
 | [t,t'],[_]=>t==t'&&(Km P t).isSome
 | _,_=>false
def iK (c:Call) (ty:TypeId):Option eN:=
 match c.callee with
 | .value (.func f)=>match look φ f,Oc P φ c.argTypes.toList c.args.toList with
  | some g,some xs=>some (.call g xs)
  | none,some [x,y]=>match P.funcs[f]? with
   | some fn=>if Pi fn then some (.p (.xbyte x y)) else if Se P fn then some (.p (.ovl x y)) else none
   | none=>none
  | _,_=>none
 | .value (.tmp t)=>match Oc P φ c.argTypes.toList c.args.toList with
  | some xs=>some (.callv (.t t) xs)
  | none=>none
 | .builtin .len=>match c.argTypes.toList,c.args.toList with
  | [t],[x]=>match P.underlying t,opd' φ x with
   | some (.slice _),some y=>some (.p (.len y))
   | some .string,some y=>some (.p (.lenS y))
   | _,_=>none
  | _,_=>none
 | .builtin .cap=>match c.argTypes.toList,c.args.toList with
  | [t],[x]=>match P.underlying t,opd' φ x with
   | some (.slice _),some y=>some (.cap y)
   | _,_=>none
  | _,_=>none
 | .builtin .min=>match opds (opd' φ) c.args.toList with
  | some [x,y]=>some (.p (.mn x y))
  | _=>none
 | .builtin .max=>match opds (opd' φ) c.args.toList with
  | some [x,y]=>some (.p (.mx x y))
  | _=>none
 | .builtin .append=>match c.argTypes.toList,c.args.toList with
  | [s,t],[x,y]=>match sZ P s,bT P φ s x,bT P φ t y with
   | some (sz,by_),some x,some y=>match P.underlying t with
    | some (.slice _) | some .string=>if sz=0∨by_=0 then none else some (.app sz by_ x y)
    | some (.int _)=>match iT P s with
     | some z=>if sz=0∨by_=0 then none else some (.appz sz by_ z x y)
     | none=>none
    | _=>none
   | _,_,_=>none
  | _,_=>none
 | .builtin .copy=>match c.argTypes.toList,c.args.toList with
  | [s,t],[x,y]=>match Km P s,opd' φ x,bT P φ t y with
   | some (sz,_),some x,some y=>if sz=0 then none else some (.copy sz x y)
   | _,_,_=>none
  | _,_=>none
 | .builtin .clear=>match c.argTypes.toList,c.args.toList with
  | [s],[x]=>match P.underlying s,opd' φ x with
   | some (.slice e),some y=>match Er P none e,P.info? e with
    | some z,some i=>if i.size=0∨z.length≠i.size then none else some (.clear i.size z y)
    | _,_=>none
   | _,_=>none
  | _,_=>none
 | _=>let _:=ty; none
def Uf (t:TypeId):Bool:=
 match P.underlying t with
 | some (.map k e)=>match P.underlying k,P.underlying e,(P.info? e).bind (·.zero) with
  | some (.int .i64),some .bool,some (.bool false)=>true
  | _,_,_=>false
 | _=>false
def Mi (o:Oper):Option eN:=
 match o.op with
 | .makeMap t r=>match r with
  | none=>if Uf P t then some .mkM else none
  | some _=>none
 | .mapUpdate t m k v=>match opd' φ m,opd' φ k,opd' φ v with
  | some x,some y,some z=>if Uf P t then some (.mset x y z) else none
  | _,_,_=>none
 | .lookup t x i ok=>match ok with
  | false=>match opd' φ x,opd' φ i with
   | some x,some y=>if Uf P t then some (.p (.mget x y)) else none
   | _,_=>none
  | true=>none
 | .move x | .assign x=>match x with
  | .const (.slice none 0 0)=>match Km P o.type with
   | some (sz,_)=>some (.nilS sz)
   | none=>none
  | x=>match opd' φ x with
   | some y=>some (.p (.mv y))
   | none=>none
 | .pick c a b=>match opd' φ c,opd' φ a,opd' φ b with
  | some c,some a,some b=>some (.pick c a b)
  | _,_,_=>none
 | .alloc t=>match Er P o.dst t with
  | some z=>some (.alloc z)
  | none=>none
 | .box t x=>match bT P φ t x with
  | some y=>some (.box y)
  | none=>none
 | .build t parts=>match P.underlying t,Er P o.dst t with
  | some (.struct fs),some z=>match mV P fs.toList with
   | some pl=>match Uz P φ fs.toList pl parts.toList with
    | some ps=>some (.p (.build z ps))
    | none=>none
   | none=>none
  | _,_=>none
 | .buildSlice t n parts=>match P.underlying t with
  | some (.slice e)=>match Er P none e,P.info? e,Va P φ e parts.toList with
   | some z,some i,some ps=>if n*i.size>2^24∨i.size=0∨z.length≠i.size then none else some (.mkS i.size z n ps)
   | _,_,_=>none
  | _=>none
 | .load t x=>match opd' φ x,P.info? t,Hd P t with
  | some y,some i,some ag=>if i.size=0 then none else some (.p (.load y i.size ag))
  | _,_,_=>none
 | .store t x v=>match opd' φ x,bT P φ t v,P.info? t with
  | some x,some v,some i=>some (.store x v i.size)
  | _,_,_=>none
 | .nilCheck x=>match opd' φ x with
  | some y=>some (.p (.nilc y))
  | none=>none
 | .binOp op t x y _=>match opd' φ x,opd' φ y with
  | some a,some b=>match P.underlying t with
   | some (.int _) | some .string=>some (.p (.bin op a b))
   | some .bool=>some (.p (.binB op a b))
   | some (.slice _)=>match y with
    | .const (.slice none 0 0)=>match op with
     | .eql=>some (.isnil a false)
     | .neq=>some (.isnil a true)
     | _=>none
    | _=>none
   | some (.struct _)=>match op with
    | .eql=>match Xp P t with
     | some ks=>some (.p (.eqs false ks a b))
     | none=>none
    | .neq=>match Xp P t with
     | some ks=>some (.p (.eqs true ks a b))
     | none=>none
    | _=>none
   | _=>none
  | _,_=>none
 | .unOp op _ x=>match opd' φ x with
  | some y=>some (.p (.un op y))
  | none=>none
 | .convert s d x=>match opd' φ x,P.underlying s,P.underlying d with
  | some y,some (.int _),some (.int k)=>some (.p (.conv k y))
  | some y,some (.int _),some .string=>some (.p (.chr y))
  | some y,some .string,some .string=>some (.p (.strc y))
  | some y,some .string,some (.slice e)=>match P.underlying e with
   | some (.int .u8)=>some (.toBytes y)
   | _=>none
  | some y,some (.slice e),some .string=>match P.underlying e with
   | some (.int .u8)=>some (.p (.toStr y))
   | _=>none
  | _,_,_=>none
 | .makeFunc fn first caps=>match fn with
  | .func f=>if first.isEmpty then match look φ f,opds (opd' φ) caps.toList with
    | some g,some xs=>some (.p (.fn g xs))
    | _,_=>none
   else none
  | _=>none
 | .makeSlice t l c=>match P.underlying t with
  | some (.slice e)=>match Er P none e,P.info? e,opd' φ l,opd' φ c with
   | some z,some i,some l,some c=>if i.size=0∨i.bytes=0∨z.length≠i.size then none else some (.make i.size i.bytes z l c)
   | _,_,_,_=>none
  | _=>none
 | .slice t x lo hi mx=>match mx with
  | none=>match opd' φ x,Pu φ lo,Pu φ hi with
   | some x,some lo,some hi=>match P.underlying t with
    | some .string=>some (.p (.sliceStr x lo hi))
    | some (.slice e)=>match P.info? e with
     | some i=>if i.size=0 then none else some (.p (.slice x lo hi i.size))
     | none=>none
    | _=>none
   | _,_,_=>none
  | some mx=>match lo,hi with
   | some lo,some hi=>match opd' φ x,opd' φ lo,opd' φ hi,opd' φ mx with
    | some x,some lo,some hi,some mx=>match P.underlying t with
     | some (.slice e)=>match P.info? e with
      | some _=>some (.chk3 x lo hi mx)
      | none=>none
     | _=>none
    | _,_,_,_=>none
   | _,_=>none
 | .fieldAddr t x f=>match P.underlying t,opd' φ x with
  | some (.struct fs),some y=>match fs[f]? with
   | some f=>match P.info? f.type with
    | some i=>if i.size=0 then none else some (.p (.fieldA y f.offset))
    | none=>none
   | none=>none
  | _,_=>none
 | .field t x f=>match P.underlying t,opd' φ x with
  | some (.struct fs),some y=>match fs[f]? with
   | some f=>match P.info? f.type,Hd P f.type with
    | some i,some ag=>if i.size=0 then none else some (.p (.field y f.offset i.size ag))
    | _,_=>none
   | none=>none
  | _,_=>none
 | .indexAddr t x i=>match opd' φ x,opd' φ i with
  | some x,some i=>match P.underlying t with
   | some (.slice e)=>match P.info? e with
    | some inf=>if inf.size=0 then none else some (.p (.idxA x i inf.size))
    | none=>none
   | some (.array n e)=>match P.info? e with
    | some inf=>if inf.size=0 then none else some (.p (.idxArr x i n inf.size))
    | none=>none
   | _=>none
  | _,_=>none
 | .index t x i=>match opd' φ x,opd' φ i with
  | some x,some i=>match P.underlying t with
   | some .string=>some (.p (.idxStr x i))
   | _=>none
  | _,_=>none
 | .extract x i=>match opd' φ x with
  | some y=>some (.p (.ext y i))
  | none=>none
 | .call c=>iK P φ c o.type
 | _=>none
def Uj (nt:Nat):Option Nat→Bool
 | some d=>decide (d≥nt)
 | none=>false
def Xe (nt:Nat) (ops:Array Oper) (o:Oper):Cd:=
 if Uj nt o.dst=true then { dst:=none,op:=.bad,g:=none } else
 match o.guard with
 | none=>{ dst:=o.dst,op:=(Mi P φ o).getD .bad,g:=none }
 | some (g,want)=>match (ops[g]?).bind (·.dst) with
  | some s=>{ dst:=o.dst,op:=(Mi P φ o).getD .bad,g:=some (s,want) }
  | none=>{ dst:=o.dst,op:=.bad,g:=none }
def Sx (nt:Nat) (ops:Array Oper):List Oper→List Cd
 | []=>[]
 | o::r=>Xe P φ nt ops o::Sx nt ops r
def Sa (o:Oper):List Nat:=(o.after.toList.filter (Region.binds .any)).map (·.on)
def adds (r:List Nat):List Nat→List Nat
 | []=>r
 | x::l=>adds (if r.contains x then r else x::r) l
def kY:List Oper→List (List Nat)→List (List Nat)
 | [],acc=>acc
 | o::r,acc=>kY r (acc++[(Sa o).foldl (fun z d=>adds z (d::acc.getD d [])) []])
def eN.opds:eN→List Ck
 | .p o=>o.opds
 | .pick c a b=>[c,a,b]
 | _=>[]
def Gn (i:Cd):List Nat:=
 (i.op.opds.filterMap fun | .t n=>some n | _=>none)++(match i.g with | some (g,_)=>[g] | none=>[])
def Ij (i:Cd):Bool:=
 match i.op with
 | .p _ | .pick .. => true
 | _=>false
structure Da where
 o:Oper
 ins:Cd
 dep:List Nat
 anc:List Nat
def Ov (nt:Nat) (ops:Array Oper):List Oper→List (List Nat)→List Da
 | o::r,a::s=>{ o:=o,ins:=Xe P φ nt ops o,dep:=Sa o,anc:=a }::Ov nt ops r s
 | _,_=>[]
def pR (ops:Array Oper) (j:Nat) (x:Da):Nat→List Da→Bool
 | _,[]=>true
 | i,y::r=>(decide (i=j) || (y.o.dst != x.o.dst&&(match x.o.dst with
   | some d => !((y.o.looksAt ops).contains d || (Gn y.ins).contains d) || y.anc.contains j
   | none=>false)))&&pR ops j x (i+1) r
def Xn (ops:Array Oper) (I:List Da) (j:Nat) (x:Da):Bool:=
 Ij x.ins&&(match x.o.dst with
  | some d=>x.ins.dst==some d && !((x.o.looksAt ops).contains d || (Gn x.ins).contains d)
  | none=>false)&&pR ops j x 0 I
def cN (I:List Da):Nat→List Da→Bool
 | _,[]=>true
 | i,x::r=>x.dep.all (fun d=>decide (d<i))&&x.anc.all (fun y=>x.dep.contains y || x.dep.any fun d=>((I[d]?).map (·.anc.contains y)).getD false)&&cN I (i+1) r
def mW (D:List Nat) (j:Nat) (x:Da):Bool := !D.contains j&&x.dep.all (D.contains ·)
def Fy (D:List Nat):Nat→List Da→List (Nat×Da)
 | _,[]=>[]
 | j,x::r=>if mW D j x then (j,x)::Fy D (j+1) r else Fy D (j+1) r
def Iv (f:Nat→Da→Bool):List (Nat×Da)→Option (Nat×Da)
 | []=>none
 | (j,x)::r=>if f j x then some (j,x) else Iv f r
def dG (I:List Da) (j:Nat):Cd:=match I[j]? with
 | some x=>x.ins
 | none=>{ dst:=none,op:=.bad,g:=none }
def kW (held:Da→List Cd) (f:Nat→Da→DP):List (Nat×Da)→DP
 | []=>.stop
 | (j,x)::r=>.alt (held x) x.ins (f j x) (kW held f r)
def Wn (x:Da) (E:List Nat):List Nat:=E.filter fun j => !x.anc.contains j
def Nm (ops:Array Oper) (I:List Da):Nat→List Nat→List Nat→DP
 | 0,_,_=>.dead
 | n+1,D,E=>match Iv (Xn ops I) (Fy D 0 I) with
  | some (j,x)=>.take x.ins (Nm ops I n (j::D) (j::E))
  | none=>match Fy D 0 I with
   | []=>.fin
   | rs=>kW (fun x=>(Wn x E).map (dG I)) (fun j x=>Nm ops I n (j::D) (Wn x E)) rs
def BM (nt:Nat) (ops:Array Oper):DP:=
 let I:=Ov P φ nt ops ops.toList (kY ops.toList [])
 if P.follows .mixedOrders&&cN I 0 I&&Region.noSelect ops&&I.length==ops.size then Nm ops I (ops.size+1) [] [] else .dead
def Oq (nt:Nat):Code→IR
 | .skip=>.skip
 | .region _ ops false=>.reg (Sx P φ nt ops ops.toList)
 | .region _ ops true=>.draw (BM P φ nt ops)
 | .seq a b=>.seq (Oq nt a) (Oq nt b)
 | .cond c a b=>match c with
  | .tmp t=>.ite (.t t) (Oq nt a) (Oq nt b)
  | .const (.bool b')=>.ite (.c (.bool b')) (Oq nt a) (Oq nt b)
  | _=>.bad
 | .block id a=>.block id (Oq nt a)
 | .loop a=>.loop (Oq nt a)
 | .exit id=>.exit id
 | .ret=>.ret
 | _=>.bad
def Rf:List ResultVar→Option (List cL)
 | []=>some []
 | .tmp t::r=>match Rf r with
  | some s=>some (.t t::s)
  | none=>none
 | .cell a t::r=>match P.info? t,Hd P t,Rf r with
  | some i,some ag,some s=>if i.size=0 then none else some (.cell a i.size ag::s)
  | _,_,_=>none
def Qg (f:Func):Option Cz:=
 match f.body,Rf P f.results.toList with
 | some c, some rs => if f.ntmps > 16000 || f.name == "runtime.NumGoroutine" then none else some { np := f.params.size + f.nfree, nt := f.ntmps, res := rs, body := Oq P φ f.ntmps c }
 | _,_=>none
end
end Go.Ev
