/- A part of the proofs over the seat YtbppemcdphgknaaGreatDoor. -/
import Derived.Test.YtbppemcdphgknaaGreatDoorVm1
set_option linter.unusedVariables false
set_option linter.unusedSimpArgs false
namespace Go.Vm
open Go
inductive Rd (A:Type) (α:Type):Type 1 where
 | ret (a:α)
 | fail
 | look (n:Name) (k:Ob A→Rd A α)
 | need (p:Prop) (k:Rd A α)
 | opt {β:Type} (x:Option β) (k:β→Rd A α)
noncomputable def Rd.bind {A α β:Type} (m:Rd A α) (f:α→Rd A β):Rd A β:=
 Rd.rec (motive:=fun _=>Rd A β) (fun a=>f a) .fail (fun n _ ih=>.look n ih) (fun p _ ih=>.need p ih) (fun x _ ih=>.opt x ih) m
inductive Rd.Runs {A α:Type} (f:Name→Option (Ob A)):Rd A α→α→List Name→Prop
 | ret (a:α):Runs f (.ret a) a []
 | look {n:Name} {k:Ob A→Rd A α} {o:Ob A} {a:α} {ns:List Name}:f n=some o→Runs f (k o) a ns→Runs f (.look n k) a (n::ns)
 | need {p:Prop} {k:Rd A α} {a:α} {ns:List Name}:p→Runs f k a ns→Runs f (.need p k) a ns
 | opt {β:Type} {x:Option β} {k:β→Rd A α} {b:β} {a:α} {ns:List Name}:x=some b→Runs f (k b) a ns→Runs f (.opt x k) a ns
theorem Rd.Runs.of_agree {A α:Type} {f f':Name→Option (Ob A)} {m:Rd A α} {a:α} {ns:List Name} (h:Rd.Runs f m a ns) (hf:∀n∈ns,f' n=f n):Rd.Runs f' m a ns:=by
 induction h with
 | ret a=>exact .ret a
 | look h _ ih=>exact .look ((hf _ (by simp)).trans h) (ih fun n hn=>hf n (by simp[hn]))
 | need hp _ ih=>exact .need hp (ih hf)
 | opt hx _ ih=>exact .opt hx (ih hf)
theorem Rd.Runs.bind_inv {A α β:Type} {f:Name→Option (Ob A)} {m:Rd A α} {g:α→Rd A β} {b:β} {ns:List Name} (h:Rd.Runs f (m.bind g) b ns) :
  ∃a n1 n2,Rd.Runs f m a n1∧Rd.Runs f (g a) b n2∧ns=n1++n2:=by
 induction m generalizing ns with
 | ret a=>exact⟨a,[],ns,.ret a,h,rfl⟩
 | fail=>cases h
 | look n k ih=>
  cases h with
  | look ho hk=>
   obtain⟨a,n1,n2,h1,h2,e⟩:=ih _ hk
   exact⟨a,_::n1,n2,.look ho h1,h2,by rw[e];rfl⟩
 | need p k ih=>
  cases h with
  | need hp hk=>obtain⟨a,n1,n2,h1,h2,e⟩:=ih hk;exact⟨a,n1,n2,.need hp h1,h2,e⟩
 | opt x k ih=>
  cases h with
  | opt hx hk=>obtain⟨a,n1,n2,h1,h2,e⟩:=ih _ hk;exact⟨a,n1,n2,.opt hx h1,h2,e⟩
theorem Rd.Runs.bind {A α β:Type} {f:Name→Option (Ob A)} {m:Rd A α} {g:α→Rd A β} {a:α} {b:β} {n1 n2:List Name} (h:Rd.Runs f m a n1) (h':Rd.Runs f (g a) b n2):Rd.Runs f (m.bind g) b (n1++n2):=by
 induction h with
 | ret a=>exact h'
 | look h _ ih=>exact .look h (ih h')
 | need hp _ ih=>exact .need hp (ih h')
 | opt hx _ ih=>exact .opt hx (ih h')
def Rd.wpLook {A α:Type} (o:Option (Ob A)) (ih:Ob A→(α→List Name→Prop)→Prop) (n:Name) (K:α→List Name→Prop):Prop:=match o with
 | some o=>ih o fun a ns=>K a (n::ns)
 | none=>False
noncomputable def Rd.wp {A α:Type} (f:Name→Option (Ob A)) (m:Rd A α):(α→List Name→Prop)→Prop:=
 Rd.rec (motive:=fun _=>(α→List Name→Prop)→Prop) (fun a K=>K a []) (fun _=>False) (fun n _ ih K=>Rd.wpLook (f n) ih n K)
  (fun p _ ih K=>p∧ih K) (fun x _ ih K=>∃b,x=some b∧ih b K) m
theorem Rd.wp_runs {A α:Type} {f:Name→Option (Ob A)} {m:Rd A α} {K:α→List Name→Prop} (h:m.wp f K):∃a ns,Rd.Runs f m a ns∧K a ns:=by
 induction m generalizing K with
 | ret a=>exact⟨a,[],.ret a,h⟩
 | fail=>exact h.elim
 | look n k ih=>
  replace h:Rd.wpLook (f n) (fun o=>(k o).wp f) n K:=h
  unfold Rd.wpLook at h
  split at h
  ·rename_i o ho;obtain⟨a,ns,h1,h2⟩:=ih _ h;exact⟨a,_,.look ho h1,h2⟩
  ·exact h.elim
 | need p k ih=>obtain⟨hp,h⟩:=h;obtain⟨a,ns,h1,h2⟩:=ih h;exact⟨a,ns,.need hp h1,h2⟩
 | opt x k ih=>obtain⟨b,hb,h⟩:=h;obtain⟨a,ns,h1,h2⟩:=ih _ h;exact⟨a,ns,.opt hb h1,h2⟩
structure Eff (A:Type) where
 dst:V
 objs:List (Name×Option (Ob A)):=[]
inductive TK where
 | one
 | bool
 | int (k:IntKind)
 | struct (fs:List (Nat×Nat))
 | array (n e:Nat)
 | slice (e:Nat)
 | ptr (e:Nat)
structure TI where
 size:Nat
 bytes:Nat
 zero:List V
 kind:TK
instance:Inhabited TI:=⟨{size:=0,bytes:=0,zero:=[],kind:=.one}⟩
def V.ofValue:Value→V
 | .int k n=>.int k n
 | .bool b=>.bool b
 | .pointer none=>.nilp
 | .slice none 0 0=>.nils
 | _=>.undef
def V.cells:V→List V
 | .agg cs=>cs
 | v=>[v]
def V.known:V→Bool
 | .undef=>false
 | _=>true
def V.one:V→Bool
 | .agg _ | .tup _ | .undef=>false
 | _=>true
def lget {α:Type}:List α→Nat→Option α
 | [],_=>none
 | x::_,0=>some x
 | _::r,n+1=>lget r n
def lput {α:Type} (cs:List α) (off:Nat) (new:List α):List α:=cs.take off++(new++cs.drop (off+new.length))
def chunks {α:Type} (sz:Nat):Nat→List α→List (List α)
 | 0,_=>[]
 | n+1,l=>l.take sz::chunks sz n (l.drop sz)
abbrev TT:=List TI
def TT.at (T:TT) (t:Nat):TI:=(lget T t).getD default
def TI.isAgg (i:TI):Bool:=match i.kind with
 | .struct _ | .array _ _=>true
 | _=>false
def Rd.when {A α:Type} (b:Bool) (x:Rd A α):Rd A α:=match b with
 | true=>x
 | false=>.fail
variable {A:Type}
def partOf (i:TI) (cs:List V) (off:Nat):Rd A V:=
 match i.isAgg with
 | true=>.need (off+i.size≤cs.length) (.ret (.agg ((cs.drop off).take i.size)))
 | false=>.when (i.size==1) (.opt (lget cs off) .ret)
def okCs:List V→Prop
 | []=>True
 | [c]=>okC 0 c
 | c::r=>okC 0 c∧okCs r
def plainOf [Deep A] {α:Type} (x:A) (k:List V→Rd A α):Rd A α:=match Deep.op x with
 | (cs,[])=>k cs
 | _=>.fail
noncomputable def vload [Deep A] (i:TI):V→Rd A V
 | .ref n off=>.look n fun
  | .box cs=>partOf i cs off
  | _=>.fail
 | .rpt n sz j k=>.look n fun
  | .row sz' es _=>.when (sz==sz') (.opt (lget es j) fun e=>partOf i e k)
  | .prow xs=>.when (sz==1&&k==0 && !i.isAgg&&i.size==1) (.need (j<xs.length) (.ret (.sub n j 0)))
  | _=>.fail
 | .lpt _ es j k=>.opt (lget es j) fun e=>partOf i e k
 | .sub n j off=>.look n fun
  | .prow xs=>.opt (lget xs j) fun x=>plainOf x fun cs=>partOf i cs off
  | _=>.fail
 | _=>.fail
noncomputable def vstore [Deep A] (i:TI) (p v:V):Rd A (List (Name×Option (Ob A))):=
 .when (v.cells.length==i.size&&v.cells.all V.one && !(i.size==0)) (match p with
 | .ref n off=>.look n fun
  | .box cs=>.need (off+i.size≤cs.length) (.ret [(n,some (.box (lput cs off v.cells)))])
  | _=>.fail
 | .rpt n sz j k=>.look n fun
  | .row sz' es false=>.when (sz==sz') (.opt (lget es j) fun e=>.need (k+i.size≤e.length) (.ret [(n,some (.row sz (lset es j (lput e k v.cells)) false))]))
  | _=>.fail
 | .sub n j off=>.look n fun
  | .prow xs=>.opt (lget xs j) fun x=>plainOf x fun cs=>.need (off+i.size≤cs.length∧okCs v.cells) (.opt (Deep.thing (lput cs off v.cells)) fun x'=>.ret [(n,some (.prow (lset xs j x')))])
  | _=>.fail
 | _=>.fail)
noncomputable def velems:V→Rd A (List (List V))
 | .nils=>.ret []
 | .lst _ es=>.ret es
 | .rsl n sz i len=>.look n fun
  | .row sz' es _=>.when (sz==sz') (.need (i+len≤es.length) (.ret ((es.drop i).take len)))
  | _=>.fail
 | .asl n sz off len _=>.look n fun
  | .box cs=>.need (off+len*sz≤cs.length) (.ret (chunks sz len (cs.drop off)))
  | _=>.fail
 | _=>.fail
def vlen:V→Rd A V
 | .nils=>.ret (.int .i64 0)
 | .lst _ es=>.ret (.int .i64 es.length)
 | .rsl _ _ _ len=>.ret (.int .i64 len)
 | .asl _ _ _ len _=>.ret (.int .i64 len)
 | _=>.fail
def roomBound:Nat:=35184372088832
def allOne (es:List (List V)) (sz:Nat):Prop:=∀e∈es,e.length=sz∧e.all V.one=true
noncomputable def vappend (d:Name) (i:TI) (s x:V):Rd A (V×List (Name×Option (Ob A))):=
 (velems x).bind fun xs=>.need (allOne xs i.size) (match s with
 | .nils=>match xs with
  | []=>.ret (.nils,[])
  | xs=>.need (xs.length*i.bytes≤roomBound∧xs.length≤roomBound) (.ret (.rsl d i.size 0 xs.length,[(d,some (.row i.size xs false))]))
 | .rsl n sz j len=>.look n fun
  | .row sz' es fz=>.when (sz==sz'&&sz==i.size) (.need (j+len≤es.length∧(fz=true→j+len=es.length)∧(len+xs.length)*i.bytes≤roomBound∧len+xs.length≤roomBound)
   (.ret (.rsl d sz 0 (len+xs.length),[(n,none),(d,some (.row sz ((es.drop j).take len++xs) fz))])))
  | _=>.fail
 | _=>.fail)
def subs (n:Name) (k:Nat):List (List V):=(List.range k).map fun j=>[.sub n j 0]
noncomputable def asA [Deep A]:Ob A→Rd A A
 | .abs a=>.ret a
 | .box cs=>.need (okCs cs) (.opt (Deep.thing cs) .ret)
 | _=>.fail
noncomputable def vappendP [Deep A] (d:Name) (i:TI) (s x:V):Rd A (V×List (Name×Option (Ob A))):=
 (velems x).bind fun xs=>match xs with
 | [[.ref m 0]]=>.look m fun ob=>(asA ob).bind fun a=>.when (!(m.1==d.1)&&i.size==1) (match s with
  | .nils=>.need (1*i.bytes≤roomBound∧1≤roomBound) (.ret (.rsl d 1 0 1,[(d,some (.row 1 [[.ref m 0]] false)),(d,some (.row 1 [[.ref m 0]] true)),(m,none),(d,some (.prow [a]))]))
  | .rsl n sz j len=>.look n fun
   | .prow ys=>.when (sz==1&&j==0) (.need (len=ys.length∧(len+1)*i.bytes≤roomBound∧len+1≤roomBound)
    (.ret (.rsl d 1 0 (len+1),[(n,some (.row 1 (subs n len) true)),(n,none),(d,some (.row 1 (((subs n len).drop 0).take len++[[.ref m 0]]) true)),(d,some (.row 1 (((subs n len).drop 0).take len++[[.ref m 0]]) true)),(m,none),(d,some (.prow (ys++[a])))])))
   | _=>.fail
  | _=>.fail)
 | _=>.fail
noncomputable def vappendK [Deep A] (d:Name) (i:TI) (s x:V):Rd A (V×List (Name×Option (Ob A))):=match i.kind with
 | .ptr _=>vappendP d i s x
 | _=>vappend d i s x
noncomputable def vcopy (s x:V):Rd A (V×List (Name×Option (Ob A))):=
 (velems x).bind fun xs=>match s with
 | .asl n sz off len _=>.look n fun
  | .box cs=>.need (off+len*sz≤cs.length∧allOne xs sz)
   (.ret (.int .i64 ((xs.take len).length:Int),[(n,some (.box (lput cs off (xs.take len).flatten)))]))
  | _=>.fail
 | .rsl n sz j len=>.look n fun
  | .row sz' es false=>.when (sz==sz') (.need (j+len≤es.length∧allOne xs sz)
   (.ret (.int .i64 ((xs.take len).length:Int),[(n,some (.row sz (lput es j (xs.take len)) false))])))
  | _=>.fail
 | _=>.fail
def vszOf (d:Nat):V→Nat
 | .asl _ sz _ _ _=>sz
 | .rsl _ sz _ _=>sz
 | _=>d
def vint:V→Rd A Int
 | .int _ n=>.ret n
 | _=>.fail
noncomputable def vbound (v:V) (y:Nat):Rd A Nat:=(vint v).bind fun n=>.need (0≤n∧n≤y) (.ret n.toNat)
noncomputable def vbounds (len cap:Nat) (lo hi mx:Option V):Rd A (Nat×Nat×Nat):=
 (match mx with
  | some v=>vbound v cap
  | none=>.ret cap).bind fun m=>
 (match hi,mx with
  | some v,_=>vbound v m
  | none,none=>.ret len
  | none,some _=>.fail).bind fun h=>
 (match lo with
  | some v=>vbound v h
  | none=>.ret 0).bind fun l=>.ret (l,h,m)
noncomputable def vslice (T:TT) (t:Nat) (x:V) (lo hi mx:Option V):Rd A V:=
 match (T.at t).kind with
 | .array n e=>.when (!((T.at e).size==0)) (match x with
  | .ref nm off=>(vbounds n n lo hi mx).bind fun r=>.ret (.asl nm (T.at e).size (off+r.1*(T.at e).size) (r.2.1-r.1) (r.2.2-r.1))
  | _=>.fail)
 | .slice e=>.when (!((T.at e).size==0)) (match x with
  | .asl nm sz off len cap=>.when (sz==(T.at e).size) ((vbounds len cap lo hi mx).bind fun r=>.ret (.asl nm sz (off+r.1*sz) (r.2.1-r.1) (r.2.2-r.1)))
  | .rsl nm sz i len=>match mx with
   | none=>.when (sz==(T.at e).size) ((vbounds len len lo hi none).bind fun r=>.ret (.rsl nm sz (i+r.1) (r.2.1-r.1)))
   | some _=>.fail
  | .lst sz es=>match mx with
   | none=>.when (sz==(T.at e).size) ((vbounds es.length es.length lo hi none).bind fun r=>.ret (.lst sz ((es.drop r.1).take (r.2.1-r.1))))
   | some _=>.fail
  | .nils=>(vbounds 0 0 lo hi mx).bind fun _=>.ret .nils
  | _=>.fail)
 | _=>.fail
noncomputable def vindexAddr (T:TT) (t:Nat) (x ix:V):Rd A V:=
 (vint ix).bind fun i=>match (T.at t).kind with
  | .array n e=>.when (!((T.at e).size==0)) (.need (0≤i∧i<n) (match x with
   | .ref nm off=>.ret (.ref nm (off+i.toNat*(T.at e).size))
   | .rpt nm sz j k=>.ret (.rpt nm sz j (k+i.toNat*(T.at e).size))
   | .sub nm j k=>.ret (.sub nm j (k+i.toNat*(T.at e).size))
   | .lpt sz es j k=>.ret (.lpt sz es j (k+i.toNat*(T.at e).size))
   | _=>.fail))
  | .slice e=>.when (!((T.at e).size==0)) (match x with
   | .asl nm sz off len _=>.when (sz==(T.at e).size) (.need (0≤i∧i<len) (.ret (.ref nm (off+i.toNat*sz))))
   | .rsl nm sz j len=>.when (sz==(T.at e).size) (.need (0≤i∧i<len) (.ret (.rpt nm sz (j+i.toNat) 0)))
   | .lst sz es=>.when (sz==(T.at e).size) (.need (0≤i∧i<es.length) (.ret (.lpt sz es i.toNat 0)))
   | _=>.fail)
  | _=>.fail
def vfieldAddr (T:TT) (t:Nat) (x:V) (f:Nat):Rd A V:=
 match (T.at t).kind with
 | .struct fs=>match lget fs f with
  | some (off,ft)=>.when (!((T.at ft).size==0)) (match x with
   | .ref nm o=>.ret (.ref nm (o+off))
   | .rpt nm sz j k=>.ret (.rpt nm sz j (k+off))
   | .sub nm j k=>.ret (.sub nm j (k+off))
   | .lpt sz es j k=>.ret (.lpt sz es j (k+off))
   | _=>.fail)
  | none=>.fail
 | _=>.fail
noncomputable def vfield (T:TT) (t:Nat) (x:V) (f:Nat):Rd A V:=
 match (T.at t).kind,x with
 | .struct fs,.agg cs=>match lget fs f with
  | some (off,ft)=>partOf (T.at ft) cs off
  | none=>.fail
 | _,_=>.fail
noncomputable def vindex (T:TT) (t:Nat) (x ix:V):Rd A V:=
 match (T.at t).kind,x with
 | .array n e,.agg cs=>(vint ix).bind fun i=>.need (0≤i∧i<n) (partOf (T.at e) cs (i.toNat*(T.at e).size))
 | _,_=>.fail
noncomputable def vfill (place:Nat→Option (Nat×Nat)) (cells:List V) (l:List (Nat×V)):Rd A (List V):=
 List.rec (motive:=fun _=>List V→Rd A (List V)) (fun cells=>.ret cells) (fun x _ ih cells=>match place x.1 with
  | none=>.fail
  | some p=>.when (x.2.cells.length==p.2&&x.2.known) (.need (p.1+p.2≤cells.length) (ih (lput cells p.1 x.2.cells)))) l cells
theorem vfill_cons (place:Nat→Option (Nat×Nat)) (cells:List V) (i:Nat) (v:V) (rest:List (Nat×V)):(vfill place cells ((i,v)::rest):Rd A (List V))=match place i with
  | none=>.fail
  | some (off,size)=>.when (v.cells.length==size&&v.known) (.need (off+size≤cells.length) (vfill place (lput cells off v.cells) rest)):=by
 show(match place i with
  | none=>.fail
  | some p=>.when (v.cells.length==p.2&&v.known) (.need (p.1+p.2≤cells.length) (vfill place (lput cells p.1 v.cells) rest)):Rd A (List V))=_
 split
 ·rename_i h;rw[h]
 ·rename_i h;rw[h]
noncomputable def vbuild (T:TT) (t:Nat) (parts:List (Nat×V)):Rd A V:=
 match (T.at t).kind with
 | .struct fs=>(vfill (fun i=>(lget fs i).map fun p=>(p.1,(T.at p.2).size)) (T.at t).zero parts).bind fun cs=>.ret (.agg cs)
 | .array _ e=>(vfill (fun i=>some (i*(T.at e).size,(T.at e).size)) (T.at t).zero parts).bind fun cs=>.ret (.agg cs)
 | _=>.fail
noncomputable def vrowOf (z:List V) (es:List (List V)) (l:List (Nat×V)):Rd A (List (List V)):=
 List.rec (motive:=fun _=>List (List V)→Rd A (List (List V))) (fun es=>.ret es) (fun x _ ih es=>
  .when (x.2.cells.length==z.length&&x.2.cells.all V.one) (.need (x.1<es.length) (ih (lset es x.1 x.2.cells)))) l es
theorem vrowOf_cons (z:List V) (es:List (List V)) (i:Nat) (v:V) (rest:List (Nat×V)):(vrowOf z es ((i,v)::rest):Rd A (List (List V))) =
  .when (v.cells.length==z.length&&v.cells.all V.one) (.need (i<es.length) (vrowOf z (lset es i v.cells) rest)):=rfl
def vintBin (op:BinOp) (k:IntKind) (x y:Int):Rd A V:=
 match op with
 | .add=>.ret (.int k (k.wrap (x+y)))
 | .sub=>.ret (.int k (k.wrap (x-y)))
 | .mul=>.ret (.int k (k.wrap (x*y)))
 | .quo=>.need (y≠0) (.ret (.int k (k.wrap (x.tdiv y))))
 | .rem=>.need (y≠0) (.ret (.int k (x.tmod y)))
 | .and=>.ret (.int k (k.wrap ((BitVec.ofInt k.bits x &&& BitVec.ofInt k.bits y).toNat)))
 | .or=>.ret (.int k (k.wrap ((BitVec.ofInt k.bits x ||| BitVec.ofInt k.bits y).toNat)))
 | .xor=>.ret (.int k (k.wrap ((BitVec.ofInt k.bits x ^^^ BitVec.ofInt k.bits y).toNat)))
 | .eql=>.ret (.bool (x==y))
 | .neq=>.ret (.bool (x != y))
 | .lss=>.ret (.bool (decide (x<y)))
 | .leq=>.ret (.bool (decide (x≤y)))
 | .gtr=>.ret (.bool (decide (x>y)))
 | .geq=>.ret (.bool (decide (x≥y)))
 | _=>.fail
def veqs:List V→List V→Option Bool
 | [],[]=>some true
 | .int k x::a,.int k' y::b=>match k==k' with
  | true=>(veqs a b).map fun r=>x==y&&r
  | false=>none
 | .bool x::a,.bool y::b=>(veqs a b).map fun r=>x==y&&r
 | _,_=>none
def fitsZ:List V→List V→Bool
 | [],[]=>true
 | .int k _::a,.int k' _::b=>k==k'&&fitsZ a b
 | .bool _::a,.bool _::b=>fitsZ a b
 | _,_=>false
def visp:V→Bool
 | .ref .. | .rpt .. | .lpt .. | .sub ..=>true
 | _=>false
noncomputable def vbin (T:TT) (flat:Nat→Bool) (op:BinOp) (t:Nat) (a b:V):Rd A V:=
 match a,b with
 | .int k x,.int k' y=>match op with
  | .shl=>.need (0≤y) (.ret (.int k (k.wrap (x*2 ^ (min y.toNat k.bits)))))
  | .shr=>.need (0≤y) (.ret (.int k (x.fdiv (2 ^ (min y.toNat k.bits)))))
  | op=>.when (k==k') (vintBin op k x y)
 | .bool x,.bool y=>match (T.at t).kind,op with
  | .bool,.eql=>.ret (.bool (x==y))
  | .bool,.neq=>.ret (.bool (!(x==y)))
  | _,_=>.fail
 | .agg xs,.agg ys=>match op with
  | .eql=>.when (flat t&&fitsZ xs (T.at t).zero) (.opt (veqs xs ys) fun r=>.ret (.bool r))
  | .neq=>.when (flat t&&fitsZ xs (T.at t).zero) (.opt (veqs xs ys) fun r=>.ret (.bool !r))
  | _=>.fail
 | .nilp,.nilp=>match (T.at t).kind,op with
  | .ptr _,.eql=>.ret (.bool true)
  | .ptr _,.neq=>.ret (.bool false)
  | _,_=>.fail
 | a,.nilp=>.when (visp a) (match (T.at t).kind,op with
  | .ptr _,.eql=>.ret (.bool false)
  | .ptr _,.neq=>.ret (.bool true)
  | _,_=>.fail)
 | .nilp,b=>.when (visp b) (match (T.at t).kind,op with
  | .ptr _,.eql=>.ret (.bool false)
  | .ptr _,.neq=>.ret (.bool true)
  | _,_=>.fail)
 | _,_=>.fail
def vun (op:UnOp) (a:V):Rd A V:=
 match op,a with
 | .neg,.int k n=>.ret (.int k (k.wrap (0-n)))
 | .not,.bool b=>.ret (.bool !b)
 | _,_=>.fail
def vpick (c a b:V):Rd A V:=
 match c with
 | .bool true=>.ret a
 | .bool false=>.ret b
 | _=>.fail
def vmm (big:Bool):V→List V→Rd A V
 | x,[]=>.ret x
 | .int k x,.int k' y::r=>.when (k==k') (vmm big (.int k (match big with
  | true=>if y>x then y else x
  | false=>if y<x then y else x)) r)
 | _,_=>.fail
noncomputable def vop [Deep A] (T:TT) (flat:Nat→Bool) (d:Name) (ev:Operand→V) (o:Oper):Rd A (Eff A):=
 match o.op with
 | .move x=>.ret {dst:=ev x}
 | .assign x=>.ret {dst:=ev x}
 | .pick c a b=>(vpick (ev c) (ev a) (ev b)).bind fun v=>.ret {dst:=v}
 | .alloc t=>.when (!((T.at t).size==0)) (.ret {dst:=.ref d 0,objs:=[(d,some (.box (T.at t).zero))]})
 | .box _ x=>.when ((ev x).cells.all V.one) (.ret {dst:=.ref d 0,objs:=[(d,some (.box (ev x).cells))]})
 | .build t ps=>(vbuild T t (ps.toList.map fun p=>(p.1,ev p.2))).bind fun v=>.ret {dst:=v}
 | .buildSlice t len ps=>match (T.at t).kind with
  | .slice e=>.when (decide (len*(T.at e).size≤16777216) && !((T.at e).size==0)) ((vrowOf (T.at e).zero (List.replicate len (T.at e).zero) (ps.toList.map fun p=>(p.1,ev p.2))).bind fun es=>
   .ret {dst:=.rsl d (T.at e).size 0 len,objs:=[(d,some (.row (T.at e).size es false))]})
  | _=>.fail
 | .load t p=>(vload (T.at t) (ev p)).bind fun v=>.ret {dst:=v}
 | .store t p x=>(vstore (T.at t) (ev p) (ev x)).bind fun l=>.ret {dst:=.undef,objs:=l}
 | .nilCheck x=>.when (visp (ev x)) (.ret {dst:=ev x})
 | .binOp op t x y _=>(vbin T flat op t (ev x) (ev y)).bind fun v=>.ret {dst:=v}
 | .unOp op _ x=>(vun op (ev x)).bind fun v=>.ret {dst:=v}
 | .convert src t x=>match (T.at src).kind,(T.at t).kind,ev x with
  | .int _,.int k,.int _ n=>.ret {dst:=.int k (k.wrap n)}
  | _,_,_=>.fail
 | .makeSlice t l c=>match (T.at t).kind,ev l,ev c with
  | .slice e,.int _ l,.int _ c=>.when (!((T.at e).size==0)) <| .need (0≤l∧l≤c∧c*(T.at e).bytes≤roomBound∧c≤roomBound) (.ret {dst:=.rsl d (T.at e).size 0 l.toNat,objs:=[(d,some (.row (T.at e).size (List.replicate l.toNat (T.at e).zero) false))]})
  | _,_,_=>.fail
 | .slice t x lo hi mx=>(vslice T t (ev x) (lo.map ev) (hi.map ev) (mx.map ev)).bind fun v=>.ret {dst:=v}
 | .fieldAddr t x f=>(vfieldAddr T t (ev x) f).bind fun v=>.ret {dst:=v}
 | .field t x f=>(vfield T t (ev x) f).bind fun v=>.ret {dst:=v}
 | .indexAddr t x i=>(vindexAddr T t (ev x) (ev i)).bind fun v=>.ret {dst:=v}
 | .index t x i=>(vindex T t (ev x) (ev i)).bind fun v=>.ret {dst:=v}
 | .extract x i=>match ev x with
  | .tup vs=>.opt (lget vs i) fun v=>.ret {dst:=v}
  | _=>.fail
 | .call c=>match c.callee,c.args.toList,c.argTypes.toList with
  | .builtin .len,[x],[t]=>match (T.at t).kind with
   | .slice _=>(vlen (ev x)).bind fun v=>.ret {dst:=v}
   | _=>.fail
  | .builtin .append,[s,x],[t,u]=>match (T.at t).kind,(T.at u).kind with
   | .slice e,.slice _=>.when (!((T.at e).size==0)&&t==u) <| (vappendK d (T.at e) (ev s) (ev x)).bind fun r=>.ret {dst:=r.1,objs:=r.2}
   | _,_=>.fail
  | .builtin .copy,[s,x],[t,_]=>match (T.at t).kind with
   | .slice e=>.when (!((T.at e).size==0)&&(T.at e).size==vszOf (T.at e).size (ev s)) ((vcopy (ev s) (ev x)).bind fun r=>.ret {dst:=r.1,objs:=r.2})
   | _=>.fail
  | .builtin .min,x::r,_=>(vmm false (ev x) (r.map ev)).bind fun v=>.ret {dst:=v}
  | .builtin .max,x::r,_=>(vmm true (ev x) (r.map ev)).bind fun v=>.ret {dst:=v}
  | _,_,_=>.fail
 | _=>.fail
end Go.Vm
