/- The way from a function of the model to the small machine's instructions. -/
import Derived.Test.YtfpbbpkdjmldkaaGreatQvA
import GoSem.Dispatch
import Derived.Laws.Sem
import Derived.Orders
set_option linter.all false
namespace Go.Ev
theorem Yo (c:Nat):Pe (Es+c)=c:=by
 unfold Pe
 rw [if_neg (by omega)]; omega
theorem Kn {c:Int} (h:c<Es):Pe c=c:=if_pos h
inductive iU where
 | t (n:Nat)
 | cell (a n:Nat) (ag:Bool)
structure De where
 np:Nat
 nt:Nat
 res:List iU
 body:IR
section
variable (P:Program) (φ:List (Nat×Nat))
def Iq (t:TypeId):Option Bool:=
 match P.underlying t with
 | some (.struct _) | some (.array _ _)=>some true
 | some _=>some false
 | none=>none
def Lx (t:TypeId):Option (Nat×Nat):=
 match P.underlying t with
 | some (.slice e)=>match P.info? e with
  | some i=>some (i.size,i.bytes)
  | none=>none
 | _=>none
def Yb:Nat→TypeId→List TypeId
 | 0,t=>[t]
 | n+1,t=>match P.underlying t with
  | some (.struct fs)=>fs.toList.flatMap fun f=>Yb n f.type
  | some (.array k e)=>(List.replicate k (Yb n e)).flatten
  | _=>[t]
def Xr (own:Option Nat) (t:TypeId) (v:Value) (k:Nat):V:=
 match v with
 | .int q n=>.int q n
 | .bool b=>.bool b
 | .string s=>.str s.data.toList
 | .slice none 0 0=>match Lx P t with
  | some (sz,_)=>match own with
   | some d=>.own (64*d+1+k) 0 sz []
   | none=>.lst sz []
  | none=>.undef
 | _=>.undef
def zeroCells (own:Option Nat):List TypeId→List Value→Nat→Option (List V)
 | [],[],_=>some []
 | t::ts,v::vs,k=>match zeroCells own ts vs (k+1) with
  | some r=>some (Xr P own t v k::r)
  | none=>none
 | _,_,_=>none
def Fn (own:Option Nat) (t:TypeId):Option (List V):=
 match P.info? t with
 | some i=>match i.zero with
  | some z=>if z.cells.toList.all Value.oneCell' then zeroCells P own (Yb P 12 t) z.cells.toList 0 else none
  | none=>none
 | none=>none
def zJ (t:TypeId):Option (Nat×Nat):=
 match P.underlying t with
 | some (.slice e)=>match P.info? e,Fn P none e with
  | some i,some z=>if z.length=i.size then some (i.size,i.bytes) else none
  | _,_=>none
 | _=>none
def mI (s:TypeId):Option (List V):=
 match P.underlying s with
 | some (.slice e)=>Fn P none e
 | _=>none
def fA (t:TypeId):Operand→Option Cu
 | .tmp n=>some (.t n)
 | .const (.int k n)=>some (.c (.int k n))
 | .const (.bool b)=>some (.c (.bool b))
 | .const (.string s)=>some (.c (.str s.data.toList))
 | .const (.slice none 0 0)=>match Lx P t with
  | some (sz,_)=>some (.c (.lst sz []))
  | none=>none
 | .func f=>match look φ f with
  | some g=>some (.c (.clo g []))
  | none=>none
 | .const _=>some (.c .undef)
 | _=>none
def opd':Operand→Option Cu
 | .tmp n=>some (.t n)
 | .const (.int k n)=>some (.c (.int k n))
 | .const (.bool b)=>some (.c (.bool b))
 | .const (.string s)=>some (.c (.str s.data.toList))
 | .func f=>match look φ f with
  | some g=>some (.c (.clo g []))
  | none=>none
 | .const _=>some (.c .undef)
 | _=>none
def opds (f:Operand→Option Cu):List Operand→Option (List Cu)
 | []=>some []
 | x::r=>match f x,opds f r with
  | some y,some s=>some (y::s)
  | _,_=>none
abbrev nilT:Nat:=1048543
def opdA (t:TypeId) (x:Operand):Option Cu:=
 match fA P φ t x with
 | some (.c (.lst sz []))=>some (.c (.own nilT 0 sz []))
 | y=>y
def Oi:List TypeId→List Operand→Option (List Cu)
 | [],[]=>some []
 | t::ts,x::r=>match opdA P φ t x,Oi ts r with
  | some y,some s=>some (y::s)
  | _,_=>none
 | _,_=>none
def Ro:Option Operand→Option (Option Cu)
 | none=>some none
 | some x=>match opd' φ x with
  | some y=>some (some y)
  | none=>none
def rP (fs:List Field):Option (List (Nat×Nat)):=fs.mapM fun f=>(P.info? f.type).map fun i=>(f.offset,i.size)
def Xy (fs:List Field) (pl:List (Nat×Nat)):List (Nat×Operand)→Option (List (Nat×Nat×Cu))
 | []=>some []
 | (i,x)::r=>match fs[i]?,pl[i]? with
  | some f,some (off,size)=>match fA P φ f.type x,Xy fs pl r with
   | some y,some s=>some ((off,size,y)::s)
   | _,_=>none
  | _,_=>none
def Xz (e:TypeId):List (Nat×Operand)→Option (List (Nat×Cu))
 | []=>some []
 | (i,x)::r=>match fA P φ e x,Xz e r with
  | some y,some s=>some ((i,y)::s)
  | _,_=>none
def Tg:List Field→Nat→Option (List Nat)
 | [],_=>some []
 | f :: r, k => if (f.name == "_") = true ∨ f.offset ≠ k then none else match P.underlying f.type, Tg r (k + 1) with
  | some (.int _),some ks=>some (0::ks)
  | some .bool,some ks=>some (1::ks)
  | some .string,some ks=>some (2::ks)
  | _,_=>none
def aQ (t:TypeId):Option (List Nat):=
 match P.underlying t with
 | some (.struct fs)=>if P.stoodInHeld t=true∨P.eqGuardType P.depth t=true then none else Tg P fs.toList 0
 | _=>none
def Rc (fn : Func) : Bool := fn.body.isNone && fn.name == "internal/bytealg.IndexByteString" && fn.origin == ""
def dG (fn : Func) : Bool := fn.body.isNone && fn.name == "internal/bytealg.abigen_runtime_cmpstring" && fn.origin == ""
def Va (fn : Func) : Bool := fn.body.isNone && fn.origin == "slices.overlaps" && (fn.name == "slices.overlaps[int]" || fn.name == "slices.overlaps[loop.example/g00149/impl.Pair]") &&
 match fn.params.toList,fn.resultTypes.toList with
 | [t,t'],[_]=>t==t'&&(Lx P t).isSome
 | _,_=>false
def mA (c:Call) (ty:TypeId):Option iX:=
 match c.callee with
 | .value (.func f)=>match look φ f,Oi P φ c.argTypes.toList c.args.toList with
  | some g,some xs=>some (.call g xs)
  | none,some [x,y]=>match P.funcs[f]? with
   | some fn=>if Rc fn then some (.p (.xbyte x y)) else if Va P fn then some (.p (.ovl x y)) else if dG fn then some (.p (.scmp x y)) else none
   | none=>none
  | _,_=>none
 | .value (.tmp t)=>match Oi P φ c.argTypes.toList c.args.toList with
  | some xs=>some (.callv (.t t) xs)
  | none=>none
 | .builtin .len=>match c.argTypes.toList,c.args.toList with
  | [t],[x]=>match P.underlying t,opd' φ x with
   | some (.slice _),some y=>some (.p (.len y))
   | some .string,some y=>some (.p (.lenS y))
   | _,_=>none
  | _,_=>none
 | .builtin .cap=>match c.argTypes.toList,c.args.toList with
  | [t],[x]=>match P.underlying t,opd' φ x with
   | some (.slice _),some y=>some (.cap y)
   | _,_=>none
  | _,_=>none
 | .builtin .min=>match opds (opd' φ) c.args.toList with
  | some [x,y]=>some (.p (.mn x y))
  | _=>none
 | .builtin .max=>match opds (opd' φ) c.args.toList with
  | some [x,y]=>some (.p (.mx x y))
  | _=>none
 | .builtin .append=>match c.argTypes.toList,c.args.toList with
  | [s,t],[x,y]=>match zJ P s,fA P φ s x,fA P φ t y with
   | some (sz,by_),some x,some y=>match P.underlying t with
    | some (.slice _) | some .string=>if sz=0∨by_=0 then none else some (.app sz by_ x y)
    | some (.int _)=>match mI P s with
     | some z=>if sz=0∨by_=0 then none else some (.appz sz by_ z x y)
     | none=>none
    | _=>none
   | _,_,_=>none
  | _,_=>none
 | .builtin .copy=>match c.argTypes.toList,c.args.toList with
  | [s,t],[x,y]=>match Lx P s,opd' φ x,fA P φ t y with
   | some (sz,_),some x,some y=>if sz=0 then none else some (.copy sz x y)
   | _,_,_=>none
  | _,_=>none
 | .builtin .clear=>match c.argTypes.toList,c.args.toList with
  | [s],[x]=>match P.underlying s,opd' φ x with
   | some (.slice e),some y=>match Fn P none e,P.info? e with
    | some z,some i=>if i.size=0∨z.length≠i.size then none else some (.clear i.size z y)
    | _,_=>none
   | _,_=>none
  | _,_=>none
 | _=>let _:=ty; none
def Xa (t:TypeId):Bool:=
 match P.underlying t with
 | some (.map k e)=>match P.underlying k,P.underlying e,(P.info? e).bind (·.zero) with
  | some (.int .i64),some .bool,some (.bool false)=>true
  | _,_,_=>false
 | _=>false
def Nz (o:Oper):Option iX:=
 match o.op with
 | .makeMap t r=>match r with
  | none=>if Xa P t then some .mkM else none
  | some _=>none
 | .mapUpdate t m k v=>match opd' φ m,opd' φ k,opd' φ v with
  | some x,some y,some z=>if Xa P t then some (.mset x y z) else none
  | _,_,_=>none
 | .lookup t x i ok=>match ok with
  | false=>match opd' φ x,opd' φ i with
   | some x,some y=>if Xa P t then some (.p (.mget x y)) else none
   | _,_=>none
  | true=>none
 | .move x | .assign x=>match x with
  | .const (.slice none 0 0)=>match Lx P o.type with
   | some (sz,_)=>some (.nilS sz)
   | none=>none
  | x=>match opd' φ x with
   | some y=>some (.p (.mv y))
   | none=>none
 | .pick c a b=>match opd' φ c,opd' φ a,opd' φ b with
  | some c,some a,some b=>some (.pick c a b)
  | _,_,_=>none
 | .alloc t=>match Fn P o.dst t with
  | some z=>some (.alloc z)
  | none=>none
 | .box t x=>match fA P φ t x with
  | some y=>some (.box y)
  | none=>none
 | .build t parts=>match P.underlying t,Fn P o.dst t with
  | some (.struct fs),some z=>match rP P fs.toList with
   | some pl=>match Xy P φ fs.toList pl parts.toList with
    | some ps=>some (.p (.build z ps))
    | none=>none
   | none=>none
  | _,_=>none
 | .buildSlice t n parts=>match P.underlying t with
  | some (.slice e)=>match Fn P none e,P.info? e,Xz P φ e parts.toList with
   | some z,some i,some ps=>if n*i.size>2^24∨i.size=0∨z.length≠i.size then none else some (.mkS i.size z n ps)
   | _,_,_=>none
  | _=>none
 | .load t x=>match opd' φ x,P.info? t,Iq P t with
  | some y,some i,some ag=>if i.size=0 then none else some (.p (.load y i.size ag))
  | _,_,_=>none
 | .store t x v=>match opd' φ x,fA P φ t v,P.info? t with
  | some x,some v,some i=>some (.store x v i.size)
  | _,_,_=>none
 | .nilCheck x=>match opd' φ x with
  | some y=>some (.p (.nilc y))
  | none=>none
 | .binOp op t x y _=>match opd' φ x,opd' φ y with
  | some a,some b=>match P.underlying t with
   | some (.int _) | some .string=>some (.p (.bin op a b))
   | some .bool=>some (.p (.binB op a b))
   | some (.slice _)=>match y with
    | .const (.slice none 0 0)=>match op with
     | .eql=>some (.isnil a false)
     | .neq=>some (.isnil a true)
     | _=>none
    | _=>none
   | some (.struct _)=>match op with
    | .eql=>match aQ P t with
     | some ks=>some (.p (.eqs false ks a b))
     | none=>none
    | .neq=>match aQ P t with
     | some ks=>some (.p (.eqs true ks a b))
     | none=>none
    | _=>none
   | _=>none
  | _,_=>none
 | .unOp op _ x=>match opd' φ x with
  | some y=>some (.p (.un op y))
  | none=>none
 | .convert s d x=>match opd' φ x,P.underlying s,P.underlying d with
  | some y,some (.int _),some (.int k)=>some (.p (.conv k y))
  | some y,some (.int _),some .string=>none
  | some y,some .string,some .string=>none
  | some y,some .string,some (.slice e)=>match P.underlying e with
   | some (.int .u8)=>some (.toBytes y)
   | _=>none
  | some y,some (.slice e),some .string=>match P.underlying e with
   | some (.int .u8)=>some (.p (.toStr y))
   | _=>none
  | _,_,_=>none
 | .makeFunc fn first caps=>match fn with
  | .func f=>if first.isEmpty then match look φ f,opds (opd' φ) caps.toList with
    | some g,some xs=>some (.p (.fn g xs))
    | _,_=>none
   else none
  | _=>none
 | .makeSlice t l c=>match P.underlying t with
  | some (.slice e)=>match Fn P none e,P.info? e,opd' φ l,opd' φ c with
   | some z,some i,some l,some c=>if i.size=0∨i.bytes=0∨z.length≠i.size then none else some (.make i.size i.bytes z l c)
   | _,_,_,_=>none
  | _=>none
 | .slice t x lo hi mx=>match mx with
  | none=>match opd' φ x,Ro φ lo,Ro φ hi with
   | some x,some lo,some hi=>match P.underlying t with
    | some .string=>some (.p (.sliceStr x lo hi))
    | some (.slice e)=>match P.info? e with
     | some i=>if i.size=0 then none else some (.p (.slice x lo hi i.size))
     | none=>none
    | _=>none
   | _,_,_=>none
  | some mx=>match lo,hi with
   | some lo,some hi=>match opd' φ x,opd' φ lo,opd' φ hi,opd' φ mx with
    | some x,some lo,some hi,some mx=>match P.underlying t with
     | some (.slice e)=>match P.info? e with
      | some _=>some (.chk3 x lo hi mx)
      | none=>none
     | _=>none
    | _,_,_,_=>none
   | _,_=>none
 | .fieldAddr t x f=>match P.underlying t,opd' φ x with
  | some (.struct fs),some y=>match fs[f]? with
   | some f=>match P.info? f.type with
    | some i=>if i.size=0 then none else some (.p (.fieldA y f.offset))
    | none=>none
   | none=>none
  | _,_=>none
 | .field t x f=>match P.underlying t,opd' φ x with
  | some (.struct fs),some y=>match fs[f]? with
   | some f=>match P.info? f.type,Iq P f.type with
    | some i,some ag=>if i.size=0 then none else none
    | _,_=>none
   | none=>none
  | _,_=>none
 | .indexAddr t x i=>match opd' φ x,opd' φ i with
  | some x,some i=>match P.underlying t with
   | some (.slice e)=>match P.info? e with
    | some inf=>if inf.size=0 then none else some (.p (.idxA x i inf.size))
    | none=>none
   | some (.array n e)=>match P.info? e with
    | some inf=>if inf.size=0 then none else none
    | none=>none
   | _=>none
  | _,_=>none
 | .index t x i=>match opd' φ x,opd' φ i with
  | some x,some i=>match P.underlying t with
   | some .string=>some (.p (.idxStr x i))
   | _=>none
  | _,_=>none
 | .extract x i=>match opd' φ x with
  | some y=>some (.p (.ext y i))
  | none=>none
 | .call c=>mA P φ c o.type
 | _=>none
def Xe (nt:Nat):Option Nat→Bool
 | some d=>decide (d≥nt)
 | none=>false
def aG (nt:Nat) (ops:Array Oper) (o:Oper):Bj:=
 if Xe nt o.dst=true then { dst:=none,op:=.bad,g:=none } else
 match o.guard with
 | none=>{ dst:=o.dst,op:=(Nz P φ o).getD .bad,g:=none }
 | some (g,want)=>match (ops[g]?).bind (·.dst) with
  | some s=>{ dst:=o.dst,op:=(Nz P φ o).getD .bad,g:=some (s,want) }
  | none=>{ dst:=o.dst,op:=.bad,g:=none }
def Vw (nt:Nat) (ops:Array Oper):List Oper→List Bj
 | []=>[]
 | o::r=>aG P φ nt ops o::Vw nt ops r
def Uw (o:Oper):List Nat:=(o.after.toList.filter (Region.binds .any)).map (·.on)
def adds (r:List Nat):List Nat→List Nat
 | []=>r
 | x::l=>adds (if r.contains x then r else x::r) l
def pO:List Oper→List (List Nat)→List (List Nat)
 | [],acc=>acc
 | o::r,acc=>pO r (acc++[(Uw o).foldl (fun z d=>adds z (d::acc.getD d [])) []])
def iX.opds:iX→List Cu
 | .p o=>o.opds
 | .pick c a b=>[c,a,b]
 | _=>[]
def Hm (i:Bj):List Nat:=
 (i.op.opds.filterMap fun | .t n=>some n | _=>none)++(match i.g with | some (g,_)=>[g] | none=>[])
def Jm (i:Bj):Bool:=
 match i.op with
 | .p _ | .pick .. => true
 | _=>false
structure Dr where
 o:Oper
 ins:Bj
 dep:List Nat
 anc:List Nat
def Qm (nt:Nat) (ops:Array Oper):List Oper→List (List Nat)→List Dr
 | o::r,a::s=>{ o:=o,ins:=aG P φ nt ops o,dep:=Uw o,anc:=a }::Qm nt ops r s
 | _,_=>[]
def vK (ops:Array Oper) (j:Nat) (x:Dr):Nat→List Dr→Bool
 | _,[]=>true
 | i,y::r=>(decide (i=j) || (y.o.dst != x.o.dst&&(match x.o.dst with
   | some d => !((y.o.looksAt ops).contains d || (Hm y.ins).contains d) || y.anc.contains j
   | none=>false)))&&vK ops j x (i+1) r
def aO (ops:Array Oper) (I:List Dr) (j:Nat) (x:Dr):Bool:=
 Jm x.ins&&(match x.o.dst with
  | some d=>x.ins.dst==some d && !((x.o.looksAt ops).contains d || (Hm x.ins).contains d)
  | none=>false)&&vK ops j x 0 I
def gC (I:List Dr):Nat→List Dr→Bool
 | _,[]=>true
 | i,x::r=>x.dep.all (fun d=>decide (d<i))&&x.anc.all (fun y=>x.dep.contains y || x.dep.any fun d=>((I[d]?).map (·.anc.contains y)).getD false)&&gC I (i+1) r
def rR (D:List Nat) (j:Nat) (x:Dr):Bool := !D.contains j&&x.dep.all (D.contains ·)
def Gx (D:List Nat):Nat→List Dr→List (Nat×Dr)
 | _,[]=>[]
 | j,x::r=>if rR D j x then (j,x)::Gx D (j+1) r else Gx D (j+1) r
def Ka (f:Nat→Dr→Bool):List (Nat×Dr)→Option (Nat×Dr)
 | []=>none
 | (j,x)::r=>if f j x then some (j,x) else Ka f r
def gU (I:List Dr) (j:Nat):Bj:=match I[j]? with
 | some x=>x.ins
 | none=>{ dst:=none,op:=.bad,g:=none }
def pM (held:Dr→List Bj) (f:Nat→Dr→DP):List (Nat×Dr)→DP
 | []=>.stop
 | (j,x)::r=>.alt (held x) x.ins (f j x) (pM held f r)
def Zr (x:Dr) (E:List Nat):List Nat:=E.filter fun j => !x.anc.contains j
def Pm (ops:Array Oper) (I:List Dr):Nat→List Nat→List Nat→DP
 | 0,_,_=>.dead
 | n+1,D,E=>match Ka (aO ops I) (Gx D 0 I) with
  | some (j,x)=>.take x.ins (Pm ops I n (j::D) (j::E))
  | none=>match Gx D 0 I with
   | []=>.fin
   | rs=>pM (fun x=>(Zr x E).map (gU I)) (fun j x=>Pm ops I n (j::D) (Zr x E)) rs
def HH (nt:Nat) (ops:Array Oper):DP:=
 let I:=Qm P φ nt ops ops.toList (pO ops.toList [])
 if P.follows .mixedOrders&&gC I 0 I&&Region.noSelect ops&&I.length==ops.size then Pm ops I (ops.size+1) [] [] else .dead
def Qi (nt:Nat):Code→IR
 | .skip=>.skip
 | .region _ ops false=>.reg (Vw P φ nt ops ops.toList)
 | .region _ ops true=>.draw (HH P φ nt ops)
 | .seq a b=>.seq (Qi nt a) (Qi nt b)
 | .cond c a b=>match c with
  | .tmp t=>.ite (.t t) (Qi nt a) (Qi nt b)
  | .const (.bool b')=>.ite (.c (.bool b')) (Qi nt a) (Qi nt b)
  | _=>.bad
 | .block id a=>.block id (Qi nt a)
 | .loop a=>.loop (Qi nt a)
 | .exit id=>.exit id
 | .ret=>.ret
 | _=>.bad
def Tu:List ResultVar→Option (List iU)
 | []=>some []
 | .tmp t::r=>match Tu r with
  | some s=>some (.t t::s)
  | none=>none
 | .cell a t::r=>match P.info? t,Iq P t,Tu r with
  | some i,some ag,some s=>if i.size=0 then none else some (.cell a i.size ag::s)
  | _,_,_=>none
def Sb (f:Func):Option De:=
 match f.body,Tu P f.results.toList with
 | some c, some rs => if f.ntmps > 16000 || f.name == "runtime.NumGoroutine" then none else some { np := f.params.size + f.nfree, nt := f.ntmps, res := rs, body := Qi P φ f.ntmps c }
 | _,_=>none
end
end Go.Ev
