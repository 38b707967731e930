/- A part of the proofs over the seat YtbppemcdphgknaaGreatDoor. -/
import Derived.WalkKit
set_option linter.unusedVariables false
set_option linter.unusedSimpArgs false
namespace Go.Vm
open Go
abbrev Name:=Nat×Nat
abbrev Rho:=Name→Option (Nat×Nat×Nat)
abbrev Mem:=Nat→Nat→Option Value
inductive V where
 | undef
 | int (k:IntKind) (n:Int)
 | bool (b:Bool)
 | nilp
 | ref (n:Name) (off:Nat)
 | rpt (n:Name) (sz i k:Nat)
 | rsl (n:Name) (sz i len:Nat)
 | asl (n:Name) (sz off len cap:Nat)
 | nils
 | lst (sz:Nat) (es:List (List V))
 | lpt (sz:Nat) (es:List (List V)) (i k:Nat)
 | sub (n:Name) (j off:Nat)
 | agg (cs:List V)
 | tup (vs:List V)
 | fn (f:FuncId)
inductive VRel (ρ:Rho) (M:Mem):V→Value→Prop
 | undef (v:Value):VRel ρ M .undef v
 | int (k:IntKind) (n:Int):VRel ρ M (.int k n) (.int k n)
 | bool (b:Bool):VRel ρ M (.bool b) (.bool b)
 | nilp:VRel ρ M .nilp (.pointer none)
 | ref {n:Name} {off b o c:Nat}:ρ n=some (b,o,c)→VRel ρ M (.ref n off) (.pointer (some ⟨b,o+off,none⟩))
 | rpt {n:Name} {sz i k b o c:Nat}:ρ n=some (b,o,c)→VRel ρ M (.rpt n sz i k) (.pointer (some ⟨b,o+(i*sz+k),none⟩))
 | rsl {n:Name} {sz i len b o c cap:Nat}:ρ n=some (b,o,c)→(i+cap)*sz≤c→len≤cap→
   VRel ρ M (.rsl n sz i len) (.slice (some ⟨b,o+i*sz,none⟩) len cap)
 | asl {n:Name} {sz off len cap b o c:Nat}:ρ n=some (b,o,c)→len≤cap→VRel ρ M (.asl n sz off len cap) (.slice (some ⟨b,o+off,none⟩) len cap)
 | rsl0 {n:Name} {sz i:Nat} {p:Option Addr}:VRel ρ M (.rsl n sz i 0) (.slice p 0 0)
 | asl0 {n:Name} {sz off:Nat} {p:Option Addr}:VRel ρ M (.asl n sz off 0 0) (.slice p 0 0)
 | nils {p:Option Addr}:VRel ρ M .nils (.slice p 0 0)
 | lst0 {sz cap:Nat} {a:Option Addr}:VRel ρ M (.lst sz []) (.slice a 0 cap)
 | lst {sz:Nat} {es:List (List V)} {b o cap:Nat} (vals:Nat→Nat→Value) :
   (∀e∈es,e.length=sz)→
   (∀(i k:Nat) (e:List V) (v:V),es[i]?=some e→e[k]?=some v→VRel ρ M v (vals i k))→
   (∀(i k:Nat),i<es.length→k<sz→M b (o+(i*sz+k))=some (vals i k))→es.length≤cap→
   VRel ρ M (.lst sz es) (.slice (some ⟨b,o,none⟩) es.length cap)
 | lpt {sz:Nat} {es:List (List V)} {b o i₀ k₀:Nat} (vals:Nat→Nat→Value) :
   (∀e∈es,e.length=sz)→
   (∀(i k:Nat) (e:List V) (v:V),es[i]?=some e→e[k]?=some v→VRel ρ M v (vals i k))→
   (∀(i k:Nat),i<es.length→k<sz→M b (o+(i*sz+k))=some (vals i k))→
   VRel ρ M (.lpt sz es i₀ k₀) (.pointer (some ⟨b,o+(i₀*sz+k₀),none⟩))
 | sub {n:Name} {j off b o c b' o':Nat}:ρ n=some (b,o,c)→M b (o+j)=some (.pointer (some ⟨b',o',none⟩))→VRel ρ M (.sub n j off) (.pointer (some ⟨b',o'+off,none⟩))
 | agg {cs:List V} {cs':List Value}:cs.length=cs'.length→
   (∀(i:Nat) (v:V) (v':Value),cs[i]?=some v→cs'[i]?=some v'→VRel ρ M v v')→VRel ρ M (.agg cs) (.agg cs'.toArray)
 | tup {cs:List V} {cs':List Value}:cs.length=cs'.length→
   (∀(i:Nat) (v:V) (v':Value),cs[i]?=some v→cs'[i]?=some v'→VRel ρ M v v')→VRel ρ M (.tup cs) (.tuple cs'.toArray)
 | fn (f:FuncId):VRel ρ M (.fn f) (.func (.func f) #[] #[])
def Rho.le (ρ ρ':Rho):Prop:=∀n x,ρ n=some x→ρ' n=some x
def Mem.le (M M':Mem):Prop:=∀b o v,M b o=some v→M' b o=some v
theorem Rho.le_refl (ρ:Rho):ρ.le ρ:=fun _ _ h=>h
theorem Mem.le_refl (M:Mem):M.le M:=fun _ _ _ h=>h
theorem Rho.le_trans {a b c:Rho} (h:a.le b) (h':b.le c):a.le c:=fun n x e=>h' n x (h n x e)
theorem Mem.le_trans {a b c:Mem} (h:a.le b) (h':b.le c):a.le c:=fun n x v e=>h' n x v (h n x v e)
theorem VRel.mono {ρ ρ':Rho} {M M':Mem} (hr:ρ.le ρ') (hm:M.le M') {v:V} {v':Value} (h:VRel ρ M v v'):VRel ρ' M' v v':=by
 induction h with
 | undef v=>exact .undef v
 | int k n=>exact .int k n
 | bool b=>exact .bool b
 | nilp=>exact .nilp
 | ref h=>exact .ref (hr _ _ h)
 | rpt h=>exact .rpt (hr _ _ h)
 | rsl h h1 h2=>exact .rsl (hr _ _ h) h1 h2
 | asl h h1=>exact .asl (hr _ _ h) h1
 | rsl0=>exact .rsl0
 | asl0=>exact .asl0
 | nils=>exact .nils
 | lst0=>exact .lst0
 | lst vals h1 _ h3 h4 ih=>exact .lst vals h1 ih (fun i k a b=>hm _ _ _ (h3 i k a b)) h4
 | lpt vals h1 _ h3 ih=>exact .lpt vals h1 ih (fun i k a b=>hm _ _ _ (h3 i k a b))
 | sub h h1=>exact .sub (hr _ _ h) (hm _ _ _ h1)
 | agg h _ ih=>exact .agg h ih
 | tup h _ ih=>exact .tup h ih
 | fn f=>exact .fn f
def PureV (v:V):Prop:=∀ρ M v',VRel ρ M v v'→VRel (fun _=>none) M v v'
theorem PureV.int (k:IntKind) (n:Int):PureV (.int k n):=fun _ _ _ h=>by cases h;exact .int _ _
theorem PureV.bool (b:Bool):PureV (.bool b):=fun _ _ _ h=>by cases h;exact .bool _
theorem PureV.nilp:PureV .nilp:=fun _ _ _ h=>by cases h;exact .nilp
theorem PureV.nils:PureV .nils:=fun _ _ _ h=>by cases h;exact .nils
theorem PureV.undef:PureV .undef:=fun _ _ _ h=>by cases h;exact .undef _
theorem PureV.fn (f:FuncId):PureV (.fn f):=fun _ _ _ h=>by cases h;exact .fn _
theorem PureV.agg {cs:List V} (hc:∀v∈cs,PureV v):PureV (.agg cs):=fun ρ M v' h=>by
 cases h with
 | agg h1 h2=>exact .agg h1 fun i v v' a b=>hc v (List.mem_of_getElem? a) _ _ _ (h2 i v v' a b)
theorem PureV.tup {cs:List V} (hc:∀v∈cs,PureV v):PureV (.tup cs):=fun ρ M v' h=>by
 cases h with
 | tup h1 h2=>exact .tup h1 fun i v v' a b=>hc v (List.mem_of_getElem? a) _ _ _ (h2 i v v' a b)
theorem PureV.lst {sz:Nat} {es:List (List V)} (hc:∀e∈es,∀v∈e,PureV v):PureV (.lst sz es):=fun ρ M v' h=>by
 cases h with
 | lst0=>exact .lst0
 | lst vals h1 h2 h3 h4=>exact .lst vals h1 (fun i k e v a b=>hc e (List.mem_of_getElem? a) v (List.mem_of_getElem? b) _ _ _ (h2 i k e v a b)) h3 h4
theorem PureV.lpt {sz i j:Nat} {es:List (List V)} (hc:∀e∈es,∀v∈e,PureV v):PureV (.lpt sz es i j):=fun ρ M v' h=>by
 cases h with
 | lpt vals h1 h2 h3=>exact .lpt vals h1 (fun i k e v a b=>hc e (List.mem_of_getElem? a) v (List.mem_of_getElem? b) _ _ _ (h2 i k e v a b)) h3
theorem PureV.nil_list:∀v∈([]:List V),PureV v:=fun _ h=>by cases h
theorem PureV.cons_list {v:V} {l:List V} (h:PureV v) (hl:∀v∈l,PureV v):∀x∈v::l,PureV x:=fun x hx=>by
 rcases List.mem_cons.1 hx with rfl|hx
 ·exact h
 ·exact hl x hx
def VsRel (ρ:Rho) (M:Mem) (cs:List V) (cs':List Value):Prop:=
 cs.length=cs'.length∧∀(i:Nat) (v:V) (v':Value),cs[i]?=some v→cs'[i]?=some v'→VRel ρ M v v'
theorem VsRel.mono {ρ ρ':Rho} {M M':Mem} (hr:ρ.le ρ') (hm:M.le M') {v:List V} {v':List Value} (h:VsRel ρ M v v'):VsRel ρ' M' v v':=
 ⟨h.1,fun i a b ha hb=>(h.2 i a b ha hb).mono hr hm⟩
theorem VsRel.nil {ρ:Rho} {M:Mem}:VsRel ρ M [] []:=⟨rfl,fun i v v' h=>by simp at h⟩
theorem VsRel.cons {ρ:Rho} {M:Mem} {v:V} {v':Value} {l:List V} {l':List Value} (h:VRel ρ M v v') (hl:VsRel ρ M l l'):VsRel ρ M (v::l) (v'::l'):=by
 refine⟨by simp[hl.1],fun i a b ha hb=>?_⟩
 cases i with
 | zero=>simp at ha hb;subst ha;subst hb;exact h
 | succ i=>simp at ha hb;exact hl.2 i a b ha hb
theorem VsRel.uncons {ρ:Rho} {M:Mem} {v:V} {l:List V} {l':List Value} (h:VsRel ρ M (v::l) l'):∃v' r,l'=v'::r∧VRel ρ M v v'∧VsRel ρ M l r:=by
 obtain⟨hl,h⟩:=h
 cases l' with
 | nil=>simp at hl
 | cons v' r=>
  refine⟨v',r,rfl,h 0 v v' rfl rfl,by simpa using hl,fun i a b ha hb=>h (i+1) a b (by simpa using ha) (by simpa using hb)⟩
theorem VsRel.nil_inv {ρ:Rho} {M:Mem} {l':List Value} (h:VsRel ρ M [] l'):l'=[]:=by
 have:=h.1;simp at this;exact List.eq_nil_of_length_eq_zero this.symm
theorem VsRel.get {ρ:Rho} {M:Mem} {l:List V} {l':List Value} (h:VsRel ρ M l l') {i:Nat} {v:V} (hi:l[i]?=some v):∃v',l'[i]?=some v'∧VRel ρ M v v':=by
 have hlt:i<l'.length:=by
  have:=(List.getElem?_eq_some_iff.1 hi).1;rw[h.1] at this;exact this
 exact⟨l'[i],List.getElem?_eq_getElem hlt,h.2 i v _ hi (List.getElem?_eq_getElem hlt)⟩
theorem VsRel.append {ρ:Rho} {M:Mem} {a b:List V} {a' b':List Value} (h:VsRel ρ M a a') (h':VsRel ρ M b b'):VsRel ρ M (a++b) (a'++b'):=by
 induction a generalizing a' with
 | nil=>rw[h.nil_inv];simpa using h'
 | cons x a ih=>obtain⟨v',r,rfl,h1,h2⟩:=h.uncons;exact .cons h1 (ih h2)
theorem VsRel.take {ρ:Rho} {M:Mem} {a:List V} {a':List Value} (h:VsRel ρ M a a') (n:Nat):VsRel ρ M (a.take n) (a'.take n):=by
 refine⟨by simp[h.1],fun i v v' hv hv'=>?_⟩
 rw[List.getElem?_take] at hv hv'
 split at hv<;>simp_all
 exact h.2 i v v' hv hv'
theorem VsRel.drop {ρ:Rho} {M:Mem} {a:List V} {a':List Value} (h:VsRel ρ M a a') (n:Nat):VsRel ρ M (a.drop n) (a'.drop n):=by
 refine⟨by simp[h.1],fun i v v' hv hv'=>?_⟩
 rw[List.getElem?_drop] at hv hv'
 exact h.2 _ v v' hv hv'
inductive Ob (A:Type) where
 | box (cs:List V)
 | row (sz:Nat) (es:List (List V)) (fz:Bool)
 | abs (x:A)
 | prow (xs:List A)
class Deep (A:Type) where
 op:A→List V×List (Ob A)
 thing:List V→Option A
 thingOp:∀{cs a},thing cs=some a→op a=(cs,[])
instance:Deep Empty:=⟨fun e=>e.elim,fun _=>none,fun h=>by cases h⟩
structure Rep (A:Type) where
 rep:A→Mem→World→Nat→List Nat→Prop
 frame:∀{x M M' w w' b S},rep x M w b S→M.le M'→(∀k∈S,∀o,M' k o=M k o)→(∀k∈S,w'.heap[k]?=w.heap[k]?)→rep x M' w' b S
 size:A→Nat
structure St (A:Type) where
 tmps:List V
 objs:List (Nat×Option (Ob A))
 arena:List (Option (Ob A))
def St.get {A:Type} (st:St A):Name→Option (Ob A)
 | (0,k)=>match st.arena[k]? with
  | some o=>o
  | none=>none
 | (s+1,g)=>match st.objs[s]? with
  | some (g',o)=>if g=g' then o else none
  | none=>none
def lset {α:Type}:List α→Nat→α→List α
 | [],_,_=>[]
 | _::r,0,v=>v::r
 | x::r,n+1,v=>x::lset r n v
theorem lset_eq {α:Type}:∀(l:List α) (n:Nat) (v:α),lset l n v=l.set n v
 | [],_,_=>by simp[lset]
 | _::_,0,_=>rfl
 | x::r,n+1,v=>by simp[lset,lset_eq r n v]
structure Env where
 w0:World
 M0:Mem
 ρ0:Rho
 S0:List Nat
structure PRow {A:Type} (R:Rep A) (M:Mem) (w:World) (xs:List A) (b o c:Nat) (T:TypeId) (cs':List Value) (bs:Nat→Nat) (Ss:Nat→List Nat) (S:List Nat):Prop where
 all:S=b::((List.range xs.length).map Ss).flatten
 heap:w.heap[b]?=some (.cells (List.toArray cs') T (0,0))
 room:o+c≤cs'.length
 fits:xs.length≤c
 cell:∀j,j<xs.length→cs'[o+j]?=some (.pointer (some ⟨bs j,0,none⟩))
 mem:∀j,j<xs.length→M b (o+j)=some (.pointer (some ⟨bs j,0,none⟩))
 top:∀j,M b j≠none→j<o+xs.length
 rep:∀j x,xs[j]?=some x→R.rep x M w (bs j) (Ss j)
 out:∀j,j<xs.length→b∉Ss j
 apart:∀i j,i<xs.length→j<xs.length→i≠j→∀k∈Ss i,k∉Ss j
def ObRel {A:Type} (R:Rep A) (ρ:Rho) (M:Mem) (w:World) (n:Name) (S:List Nat):Ob A→Prop
 | .box cs=>∃b T cs',S=[b]∧ρ n=some (b,0,cs.length)∧w.heap[b]?=some (.cells (List.toArray cs') T (0,0))∧VsRel ρ M cs cs'∧∀o,M b o=none
 | .row sz es fz=>(∃b o c T cs',S=[b]∧ρ n=some (b,o,c)∧w.heap[b]?=some (.cells (List.toArray cs') T (0,0))∧o+c≤cs'.length∧es.length*sz≤c∧
   (∀e∈es,e.length=sz)∧(∀(i k:Nat) (e:List V) (v:V),es[i]?=some e→e[k]?=some v→∃v',cs'[o+(i*sz+k)]?=some v'∧VRel ρ M v v')∧
   ∀j,M b j≠none→fz=true∧j<o+es.length*sz)∨(es=[]∧S=[]∧∃b o,ρ n=some (b,o,0))
 | .abs x=>∃b,ρ n=some (b,0,R.size x)∧R.rep x M w b S
 | .prow xs=>(∃b o c T cs' bs Ss,ρ n=some (b,o,c)∧PRow R M w xs b o c T cs' bs Ss S)∨(xs=[]∧S=[]∧∃b o,ρ n=some (b,o,0))
def Plain (M:Mem) (w:World) (b:Nat) (S:List Nat) (cs:List V):Prop:=∃T cs',S=[b]∧w.heap[b]?=some (.cells (List.toArray cs') T (0,0))∧VsRel (fun _=>none) M cs cs'∧∀o,M b o=none
def PureEs (es:List (List V)):Prop:=∀e∈es,∀v∈e,PureV v
def okN (m:Nat) (n:Name):Prop:=n.1=0∧n.2<m
def okC (m:Nat):V→Prop
 | .ref n _=>okN m n
 | .rpt n _ _ _=>okN m n
 | .rsl n _ _ _=>okN m n
 | .asl n _ _ _ _=>okN m n
 | .sub n _ _=>okN m n
 | .lst _ es=>PureEs es
 | .lpt _ es _ _=>PureEs es
 | .agg _=>False
 | .tup _=>False
 | _=>True
def okOb {A:Type} (m:Nat):Ob A→Prop
 | .box cs=>∀c∈cs,okC m c
 | .row _ es _=>PureEs es
 | .abs _=>True
 | .prow _=>True
structure OpenAt {A:Type} [Deep A] (R:Rep A) (x:A) (M:Mem) (w:World) (b:Nat) (S:List Nat) (ρ:Rho) (Ss:Nat→List Nat) (T:TypeId) (cs':List Value):Prop where
 cells:∀c∈(Deep.op x).1,okC (Deep.op x).2.length c
 obs:∀(i:Nat) (ob:Ob A),(Deep.op x).2[i]?=some ob→okOb 0 ob
 heap:w.heap[b]?=some (.cells (List.toArray cs') T (0,0))
 rel:VsRel ρ M (Deep.op x).1 cs'
 mem:∀o,M b o=none
 inner:∀(i:Nat) (ob:Ob A),(Deep.op x).2[i]?=some ob→ObRel R ρ M w (0,i) (Ss i) ob
 out:∀i,i<(Deep.op x).2.length→b∉Ss i
 apart:∀i j,i<(Deep.op x).2.length→j<(Deep.op x).2.length→i≠j→∀k∈Ss i,k∉Ss j
 all:S=b::((List.range (Deep.op x).2.length).map Ss).flatten
def OpenRel {A:Type} [Deep A] (R:Rep A) (x:A) (M:Mem) (w:World) (b:Nat) (S:List Nat):Prop:=∃ρ Ss T cs',OpenAt R x M w b S ρ Ss T cs'
structure RepOk {A:Type} [Deep A] (R:Rep A):Prop where
 size:∀x,R.size x=(Deep.op x).1.length
 opens:∀{x M w b S},R.rep x M w b S→OpenRel R x M w b S
 shuts:∀{x M w b S},OpenRel R x M w b S→R.rep x M w b S
structure Rel {A:Type} (R:Rep A) (E:Env) (st:St A) (ρ:Rho) (M:Mem) (S:Name→List Nat) (a:Act) (w:World):Prop where
 defers:a.defers=[]
 tmps:VsRel ρ M st.tmps a.tmps.toList
 mem:∀b o v,M b o=some v→w.cell? ⟨b,o,none⟩=some v
 objs:∀n ob,st.get n=some ob→ObRel R ρ M w n (S n) ob
 disj:∀n n' ob ob',st.get n=some ob→st.get n'=some ob'→n≠n'→∀b∈S n,b∉S n'
 blt:∀n ob,st.get n=some ob→∀b∈S n,b<w.heap.size
 own:∀n ob,st.get n=some ob→∀b∈S n,b∈E.S0∨E.w0.heap.size≤b
 fresh:∀n g,(∀p,st.objs[n]?=some p→p.1<g)→ρ (n+1,g)=none
 hsize:E.w0.heap.size≤w.heap.size
 keep:∀b,b<E.w0.heap.size→b∉E.S0→w.heap[b]?=E.w0.heap[b]?
 os:w.os=E.w0.os
 tape:w.tape=E.w0.tape
 output:w.output=E.w0.output
 M0:E.M0.le M
 Mnew:∀b o v,M b o=some v→E.M0 b o=some v∨E.w0.heap.size≤b∨b∈E.S0
 ρ0:∀k x,E.ρ0 (0,k)=some x→ρ (0,k)=some x
def Sat {A:Type} (R:Rep A) (E:Env) (st:St A) (a:Act) (w:World):Prop:=∃ρ M S,Rel R E st ρ M S a w
end Go.Vm
