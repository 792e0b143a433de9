/- The way from a function of the model to the small machine's instructions. -/
import Derived.Test.YtnkhjipmmomjoaaQvA
import GoSem.Dispatch
import Derived.Laws.Sem
import Derived.Orders
set_option linter.all false
namespace Go.Ev
theorem Xx (c:Nat):Kv (Em+c)=c:=by
 unfold Kv
 rw [if_neg (by omega)]; omega
theorem Nj {c:Int} (h:c<Em):Kv c=c:=if_pos h
inductive Xa where
 | t (n:Nat)
 | cell (a n:Nat) (ag:Bool)
structure Dh where
 np:Nat
 nt:Nat
 res:List Xa
 body:IR
section
variable (P:Program) (φ:List (Nat×Nat))
def Fo (t:TypeId):Option Bool:=
 match P.underlying t with
 | some (.struct _) | some (.array _ _)=>some true
 | some _=>some false
 | none=>none
def Ii (t:TypeId):Option (Nat×Nat):=
 match P.underlying t with
 | some (.slice e)=>match P.info? e with
  | some i=>some (i.size,i.bytes)
  | none=>none
 | _=>none
def Qx:Nat→TypeId→List TypeId
 | 0,t=>[t]
 | n+1,t=>match P.underlying t with
  | some (.struct fs)=>fs.toList.flatMap fun f=>Qx n f.type
  | some (.array k e)=>(List.replicate k (Qx n e)).flatten
  | _=>[t]
def Qm (own:Option Nat) (t:TypeId) (v:Value) (k:Nat):V:=
 match v with
 | .int q n=>.int q n
 | .bool b=>.bool b
 | .string s=>.str s.data.toList
 | .slice none 0 0=>match Ii P t with
  | some (sz,_)=>match own with
   | some d=>.own (64*d+1+k) 0 sz []
   | none=>.lst sz []
  | none=>.undef
 | _=>.undef
def zeroCells (own:Option Nat):List TypeId→List Value→Nat→Option (List V)
 | [],[],_=>some []
 | t::ts,v::vs,k=>match zeroCells own ts vs (k+1) with
  | some r=>some (Qm P own t v k::r)
  | none=>none
 | _,_,_=>none
def Dk (own:Option Nat) (t:TypeId):Option (List V):=
 match P.info? t with
 | some i=>match i.zero with
  | some z=>if z.cells.toList.all Value.oneCell' then zeroCells P own (Qx P 12 t) z.cells.toList 0 else none
  | none=>none
 | none=>none
def iM (t:TypeId):Option (Nat×Nat):=
 match P.underlying t with
 | some (.slice e)=>match P.info? e,Dk P none e with
  | some i,some z=>if z.length=i.size then some (i.size,i.bytes) else none
  | _,_=>none
 | _=>none
def Zf (s:TypeId):Option (List V):=
 match P.underlying s with
 | some (.slice e)=>Dk P none e
 | _=>none
def Vh (t:TypeId):Operand→Option Bm
 | .tmp n=>some (.t n)
 | .const (.int k n)=>some (.c (.int k n))
 | .const (.bool b)=>some (.c (.bool b))
 | .const (.string s)=>some (.c (.str s.data.toList))
 | .const (.slice none 0 0)=>match Ii P t with
  | some (sz,_)=>some (.c (.lst sz []))
  | none=>none
 | .func f=>match look φ f with
  | some g=>some (.c (.clo g []))
  | none=>none
 | .const _=>some (.c .undef)
 | _=>none
def opd':Operand→Option Bm
 | .tmp n=>some (.t n)
 | .const (.int k n)=>some (.c (.int k n))
 | .const (.bool b)=>some (.c (.bool b))
 | .const (.string s)=>some (.c (.str s.data.toList))
 | .func f=>match look φ f with
  | some g=>some (.c (.clo g []))
  | none=>none
 | .const _=>some (.c .undef)
 | _=>none
def opds (f:Operand→Option Bm):List Operand→Option (List Bm)
 | []=>some []
 | x::r=>match f x,opds f r with
  | some y,some s=>some (y::s)
  | _,_=>none
abbrev nilT:Nat:=1048575
def TO (t:TypeId) (x:Operand):Option Bm:=
 match Vh P φ t x with
 | some (.c (.lst sz []))=>some (.c (.own nilT 0 sz []))
 | y=>y
def Kc:List TypeId→List Operand→Option (List Bm)
 | [],[]=>some []
 | t::ts,x::r=>match TO P φ t x,Kc ts r with
  | some y,some s=>some (y::s)
  | _,_=>none
 | _,_=>none
def Ml:Option Operand→Option (Option Bm)
 | none=>some none
 | some x=>match opd' φ x with
  | some y=>some (some y)
  | none=>none
def bX (fs:List Field):Option (List (Nat×Nat)):=fs.mapM fun f=>(P.info? f.type).map fun i=>(f.offset,i.size)
def Qt (fs:List Field) (pl:List (Nat×Nat)):List (Nat×Operand)→Option (List (Nat×Nat×Bm))
 | []=>some []
 | (i,x)::r=>match fs[i]?,pl[i]? with
  | some f,some (off,size)=>match Vh P φ f.type x,Qt fs pl r with
   | some y,some s=>some ((off,size,y)::s)
   | _,_=>none
  | _,_=>none
def Qu (e:TypeId):List (Nat×Operand)→Option (List (Nat×Bm))
 | []=>some []
 | (i,x)::r=>match Vh P φ e x,Qu e r with
  | some y,some s=>some ((i,y)::s)
  | _,_=>none
def Ni:List Field→Nat→Option (List Nat)
 | [],_=>some []
 | f :: r, k => if (f.name == "_") = true ∨ f.offset ≠ k then none else match P.underlying f.type, Ni r (k + 1) with
  | some (.int _),some ks=>some (0::ks)
  | some .bool,some ks=>some (1::ks)
  | some .string,some ks=>some (2::ks)
  | _,_=>none
def Sl (t:TypeId):Option (List Nat):=
 match P.underlying t with
 | some (.struct fs)=>if P.stoodInHeld t=true∨P.eqGuardType P.depth t=true then none else Ni P fs.toList 0
 | _=>none
def Mh (fn : Func) : Bool := fn.body.isNone && fn.name == "internal/bytealg.IndexByteString" && fn.origin == ""
def Uf (fn : Func) : Bool := fn.body.isNone && fn.name == "internal/bytealg.abigen_runtime_cmpstring" && fn.origin == ""
def Oq (fn : Func) : Bool := fn.body.isNone && fn.origin == "slices.overlaps" && (fn.name == "slices.overlaps[int]" || fn.name == "slices.overlaps[loop.example/g00149/impl.Pair]") &&
 match fn.params.toList,fn.resultTypes.toList with
 | [t,t'],[_]=>t==t'&&(Ii P t).isSome
 | _,_=>false
def Zb (c:Call) (ty:TypeId):Option Xc:=
 match c.callee with
 | .value (.func f)=>match look φ f,Kc P φ c.argTypes.toList c.args.toList with
  | some g,some xs=>some (.call g xs)
  | none,some [x,y]=>match P.funcs[f]? with
   | some fn=>if Mh fn then some (.p (.xbyte x y)) else if Oq P fn then some (.p (.ovl x y)) else if Uf fn then some (.p (.scmp x y)) else none
   | none=>none
  | _,_=>none
 | .value (.tmp t)=>match Kc P φ c.argTypes.toList c.args.toList with
  | some xs=>some (.callv (.t t) xs)
  | none=>none
 | .builtin .len=>match c.argTypes.toList,c.args.toList with
  | [t],[x]=>match P.underlying t,opd' φ x with
   | some (.slice _),some y=>some (.p (.len y))
   | some .string,some y=>some (.p (.lenS y))
   | _,_=>none
  | _,_=>none
 | .builtin .cap=>match c.argTypes.toList,c.args.toList with
  | [t],[x]=>match P.underlying t,opd' φ x with
   | some (.slice _),some y=>some (.cap y)
   | _,_=>none
  | _,_=>none
 | .builtin .min=>match opds (opd' φ) c.args.toList with
  | some [x,y]=>some (.p (.mn x y))
  | _=>none
 | .builtin .max=>match opds (opd' φ) c.args.toList with
  | some [x,y]=>some (.p (.mx x y))
  | _=>none
 | .builtin .append=>match c.argTypes.toList,c.args.toList with
  | [s,t],[x,y]=>match iM P s,Vh P φ s x,Vh P φ t y with
   | some (sz,by_),some x,some y=>match P.underlying t with
    | some (.slice _) | some .string=>if sz=0∨by_=0 then none else some (.app sz by_ x y)
    | some (.int _)=>match Zf P s with
     | some z=>if sz=0∨by_=0 then none else some (.appz sz by_ z x y)
     | none=>none
    | _=>none
   | _,_,_=>none
  | _,_=>none
 | .builtin .copy=>match c.argTypes.toList,c.args.toList with
  | [s,t],[x,y]=>match Ii P s,opd' φ x,Vh P φ t y with
   | some (sz,_),some x,some y=>if sz=0 then none else some (.copy sz x y)
   | _,_,_=>none
  | _,_=>none
 | .builtin .clear=>match c.argTypes.toList,c.args.toList with
  | [s],[x]=>match P.underlying s,opd' φ x with
   | some (.slice e),some y=>match Dk P none e,P.info? e with
    | some z,some i=>if i.size=0∨z.length≠i.size then none else some (.clear i.size z y)
    | _,_=>none
   | _,_=>none
  | _,_=>none
 | _=>let _:=ty; none
def Qc (t:TypeId):Bool:=
 match P.underlying t with
 | some (.map k e)=>match P.underlying k,P.underlying e,(P.info? e).bind (·.zero) with
  | some (.int .i64),some .bool,some (.bool false)=>true
  | _,_,_=>false
 | _=>false
def Jv (o:Oper):Option Xc:=
 match o.op with
 | .makeMap t r=>match r with
  | none=>if Qc P t then some .mkM else none
  | some _=>none
 | .mapUpdate t m k v=>match opd' φ m,opd' φ k,opd' φ v with
  | some x,some y,some z=>if Qc P t then some (.mset x y z) else none
  | _,_,_=>none
 | .lookup t x i ok=>match ok with
  | false=>match opd' φ x,opd' φ i with
   | some x,some y=>if Qc P t then some (.p (.mget x y)) else none
   | _,_=>none
  | true=>none
 | .move x | .assign x=>match x with
  | .const (.slice none 0 0)=>match Ii P o.type with
   | some (sz,_)=>some (.nilS sz)
   | none=>none
  | x=>match opd' φ x with
   | some y=>some (.p (.mv y))
   | none=>none
 | .pick c a b=>match opd' φ c,opd' φ a,opd' φ b with
  | some c,some a,some b=>some (.pick c a b)
  | _,_,_=>none
 | .alloc t=>match Dk P o.dst t with
  | some z=>some (.alloc z)
  | none=>none
 | .box t x=>match Vh P φ t x with
  | some y=>some (.box y)
  | none=>none
 | .build t parts=>match P.underlying t,Dk P o.dst t with
  | some (.struct fs),some z=>match bX P fs.toList with
   | some pl=>match Qt P φ fs.toList pl parts.toList with
    | some ps=>some (.p (.build z ps))
    | none=>none
   | none=>none
  | _,_=>none
 | .buildSlice t n parts=>match P.underlying t with
  | some (.slice e)=>match Dk P none e,P.info? e,Qu P φ e parts.toList with
   | some z,some i,some ps=>if n*i.size>2^24∨i.size=0∨z.length≠i.size then none else some (.mkS i.size z n ps)
   | _,_,_=>none
  | _=>none
 | .load t x=>match opd' φ x,P.info? t,Fo P t with
  | some y,some i,some ag=>if i.size=0 then none else some (.p (.load y i.size ag))
  | _,_,_=>none
 | .store t x v=>match opd' φ x,Vh P φ t v,P.info? t with
  | some x,some v,some i=>some (.store x v i.size)
  | _,_,_=>none
 | .nilCheck x=>match opd' φ x with
  | some y=>some (.p (.nilc y))
  | none=>none
 | .binOp op t x y _=>match opd' φ x,opd' φ y with
  | some a,some b=>match P.underlying t with
   | some (.int _) | some .string=>some (.p (.bin op a b))
   | some .bool=>some (.p (.binB op a b))
   | some (.slice _)=>match y with
    | .const (.slice none 0 0)=>match op with
     | .eql=>some (.isnil a false)
     | .neq=>some (.isnil a true)
     | _=>none
    | _=>none
   | some (.struct _)=>match op with
    | .eql=>match Sl P t with
     | some ks=>some (.p (.eqs false ks a b))
     | none=>none
    | .neq=>match Sl P t with
     | some ks=>some (.p (.eqs true ks a b))
     | none=>none
    | _=>none
   | _=>none
  | _,_=>none
 | .unOp op _ x=>match opd' φ x with
  | some y=>some (.p (.un op y))
  | none=>none
 | .convert s d x=>match opd' φ x,P.underlying s,P.underlying d with
  | some y,some (.int _),some (.int k)=>some (.p (.conv k y))
  | some y,some (.int _),some .string=>some (.p (.chr y))
  | some y,some .string,some .string=>some (.p (.strc y))
  | some y,some .string,some (.slice e)=>match P.underlying e with
   | some (.int .u8)=>some (.toBytes y)
   | _=>none
  | some y,some (.slice e),some .string=>match P.underlying e with
   | some (.int .u8)=>some (.p (.toStr y))
   | _=>none
  | _,_,_=>none
 | .makeFunc fn first caps=>match fn with
  | .func f=>if first.isEmpty then match look φ f,opds (opd' φ) caps.toList with
    | some g,some xs=>some (.p (.fn g xs))
    | _,_=>none
   else none
  | _=>none
 | .makeSlice t l c=>match P.underlying t with
  | some (.slice e)=>match Dk P none e,P.info? e,opd' φ l,opd' φ c with
   | some z,some i,some l,some c=>if i.size=0∨i.bytes=0∨z.length≠i.size then none else some (.make i.size i.bytes z l c)
   | _,_,_,_=>none
  | _=>none
 | .slice t x lo hi mx=>match mx with
  | none=>match opd' φ x,Ml φ lo,Ml φ hi with
   | some x,some lo,some hi=>match P.underlying t with
    | some .string=>some (.p (.sliceStr x lo hi))
    | some (.slice e)=>match P.info? e with
     | some i=>if i.size=0 then none else some (.p (.slice x lo hi i.size))
     | none=>none
    | _=>none
   | _,_,_=>none
  | some mx=>match lo,hi with
   | some lo,some hi=>match opd' φ x,opd' φ lo,opd' φ hi,opd' φ mx with
    | some x,some lo,some hi,some mx=>match P.underlying t with
     | some (.slice e)=>match P.info? e with
      | some _=>some (.chk3 x lo hi mx)
      | none=>none
     | _=>none
    | _,_,_,_=>none
   | _,_=>none
 | .fieldAddr t x f=>match P.underlying t,opd' φ x with
  | some (.struct fs),some y=>match fs[f]? with
   | some f=>match P.info? f.type with
    | some i=>if i.size=0 then none else some (.p (.fieldA y f.offset))
    | none=>none
   | none=>none
  | _,_=>none
 | .field t x f=>match P.underlying t,opd' φ x with
  | some (.struct fs),some y=>match fs[f]? with
   | some f=>match P.info? f.type,Fo P f.type with
    | some i,some ag=>if i.size=0 then none else some (.p (.field y f.offset i.size ag))
    | _,_=>none
   | none=>none
  | _,_=>none
 | .indexAddr t x i=>match opd' φ x,opd' φ i with
  | some x,some i=>match P.underlying t with
   | some (.slice e)=>match P.info? e with
    | some inf=>if inf.size=0 then none else some (.p (.idxA x i inf.size))
    | none=>none
   | some (.array n e)=>match P.info? e with
    | some inf=>if inf.size=0 then none else some (.p (.idxArr x i n inf.size))
    | none=>none
   | _=>none
  | _,_=>none
 | .index t x i=>match opd' φ x,opd' φ i with
  | some x,some i=>match P.underlying t with
   | some .string=>some (.p (.idxStr x i))
   | _=>none
  | _,_=>none
 | .extract x i=>match opd' φ x with
  | some y=>some (.p (.ext y i))
  | none=>none
 | .call c=>Zb P φ c o.type
 | _=>none
def Qe (nt:Nat):Option Nat→Bool
 | some d=>decide (d≥nt)
 | none=>false
def Ry (nt:Nat) (ops:Array Oper) (o:Oper):Bi:=
 if Qe nt o.dst=true then { dst:=none,op:=.bad,g:=none } else
 match o.guard with
 | none=>{ dst:=o.dst,op:=(Jv P φ o).getD .bad,g:=none }
 | some (g,want)=>match (ops[g]?).bind (·.dst) with
  | some s=>{ dst:=o.dst,op:=(Jv P φ o).getD .bad,g:=some (s,want) }
  | none=>{ dst:=o.dst,op:=.bad,g:=none }
def Pd (nt:Nat) (ops:Array Oper):List Oper→List Bi
 | []=>[]
 | o::r=>Ry P φ nt ops o::Pd nt ops r
def Om (o:Oper):List Nat:=(o.after.toList.filter (Region.binds .any)).map (·.on)
def UM (r:List Nat):List Nat→List Nat
 | []=>r
 | x::l=>UM (if r.contains x then r else x::r) l
def aX:List Oper→List (List Nat)→List (List Nat)
 | [],acc=>acc
 | o::r,acc=>aX r (acc++[(Om o).foldl (fun z d=>UM z (d::acc.getD d [])) []])
def Xc.opds:Xc→List Bm
 | .p o=>o.opds
 | .pick c a b=>[c,a,b]
 | _=>[]
def Fd (i:Bi):List Nat:=
 (i.op.opds.filterMap fun | .t n=>some n | _=>none)++(match i.g with | some (g,_)=>[g] | none=>[])
def Gr (i:Bi):Bool:=
 match i.op with
 | .p _ | .pick .. => true
 | _=>false
structure Cb where
 o:Oper
 ins:Bi
 dep:List Nat
 anc:List Nat
def Lv (nt:Nat) (ops:Array Oper):List Oper→List (List Nat)→List Cb
 | o::r,a::s=>{ o:=o,ins:=Ry P φ nt ops o,dep:=Om o,anc:=a }::Lv nt ops r s
 | _,_=>[]
def eJ (ops:Array Oper) (j:Nat) (x:Cb):Nat→List Cb→Bool
 | _,[]=>true
 | i,y::r=>(decide (i=j) || (y.o.dst != x.o.dst&&(match x.o.dst with
   | some d => !((y.o.looksAt ops).contains d || (Fd y.ins).contains d) || y.anc.contains j
   | none=>false)))&&eJ ops j x (i+1) r
def Sh (ops:Array Oper) (I:List Cb) (j:Nat) (x:Cb):Bool:=
 Gr x.ins&&(match x.o.dst with
  | some d=>x.ins.dst==some d && !((x.o.looksAt ops).contains d || (Fd x.ins).contains d)
  | none=>false)&&eJ ops j x 0 I
def Vx (I:List Cb):Nat→List Cb→Bool
 | _,[]=>true
 | i,x::r=>x.dep.all (fun d=>decide (d<i))&&x.anc.all (fun y=>x.dep.contains y || x.dep.any fun d=>((I[d]?).map (·.anc.contains y)).getD false)&&Vx I (i+1) r
def bZ (D:List Nat) (j:Nat) (x:Cb):Bool := !D.contains j&&x.dep.all (D.contains ·)
def Ej (D:List Nat):Nat→List Cb→List (Nat×Cb)
 | _,[]=>[]
 | j,x::r=>if bZ D j x then (j,x)::Ej D (j+1) r else Ej D (j+1) r
def He (f:Nat→Cb→Bool):List (Nat×Cb)→Option (Nat×Cb)
 | []=>none
 | (j,x)::r=>if f j x then some (j,x) else He f r
def Wn (I:List Cb) (j:Nat):Bi:=match I[j]? with
 | some x=>x.ins
 | none=>{ dst:=none,op:=.bad,g:=none }
def aV (held:Cb→List Bi) (f:Nat→Cb→DP):List (Nat×Cb)→DP
 | []=>.stop
 | (j,x)::r=>.alt (held x) x.ins (f j x) (aV held f r)
def Rn (x:Cb) (E:List Nat):List Nat:=E.filter fun j => !x.anc.contains j
def Kx (ops:Array Oper) (I:List Cb):Nat→List Nat→List Nat→DP
 | 0,_,_=>.dead
 | n+1,D,E=>match He (Sh ops I) (Ej D 0 I) with
  | some (j,x)=>.take x.ins (Kx ops I n (j::D) (j::E))
  | none=>match Ej D 0 I with
   | []=>.fin
   | rs=>aV (fun x=>(Rn x E).map (Wn I)) (fun j x=>Kx ops I n (j::D) (Rn x E)) rs
def mE (nt:Nat) (ops:Array Oper):DP:=
 let I:=Lv P φ nt ops ops.toList (aX ops.toList [])
 if P.follows .mixedOrders&&Vx I 0 I&&Region.noSelect ops&&I.length==ops.size then Kx ops I (ops.size+1) [] [] else .dead
def Lt (nt:Nat):Code→IR
 | .skip=>.skip
 | .region _ ops false=>.reg (Pd P φ nt ops ops.toList)
 | .region _ ops true=>.draw (mE P φ nt ops)
 | .seq a b=>.seq (Lt nt a) (Lt nt b)
 | .cond c a b=>match c with
  | .tmp t=>.ite (.t t) (Lt nt a) (Lt nt b)
  | .const (.bool b')=>.ite (.c (.bool b')) (Lt nt a) (Lt nt b)
  | _=>.bad
 | .block id a=>.block id (Lt nt a)
 | .loop a=>.loop (Lt nt a)
 | .exit id=>.exit id
 | .ret=>.ret
 | _=>.bad
def Nt:List ResultVar→Option (List Xa)
 | []=>some []
 | .tmp t::r=>match Nt r with
  | some s=>some (.t t::s)
  | none=>none
 | .cell a t::r=>match P.info? t,Fo P t,Nt r with
  | some i,some ag,some s=>if i.size=0 then none else some (.cell a i.size ag::s)
  | _,_,_=>none
def Ms (f:Func):Option Dh:=
 match f.body,Nt P f.results.toList with
 | some c, some rs => if f.ntmps > 16000 || f.name == "runtime.NumGoroutine" then none else some { np := f.params.size + f.nfree, nt := f.ntmps, res := rs, body := Lt P φ f.ntmps c }
 | _,_=>none
end
end Go.Ev
