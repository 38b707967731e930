/- A part of the proofs over the seat YtbppemcdphgknaaGreatDoor. -/
import Derived.Test.YtbppemcdphgknaaGreatDoorVm3
set_option linter.unusedVariables false
set_option linter.unusedSimpArgs false
namespace Go.Vm
open Go
def SizeOk (P:Program) (T:TT) (t:TypeId):Prop:=∃ti,P.info? t=some ti∧ti.size=(T.at t).size
def KindOk (P:Program) (T:TT) (t:TypeId):TK→Prop
 | .one=>∃d,P.underlying t=some d∧(match d with | .struct _ | .array _ _=>False|_=>True)
 | .bool=>P.underlying t=some .bool
 | .int k=>P.underlying t=some (.int k)
 | .struct fs=>∃F:Array Field,P.underlying t=some (.struct F)∧F.toList.map (fun f=>(f.offset,f.type))=fs∧∀f∈F.toList,SizeOk P T f.type
 | .array n e=>P.underlying t=some (.array n e)∧SizeOk P T e
 | .slice e=>P.underlying t=some (.slice e)
 | .ptr e=>P.underlying t=some (.pointer e)
structure TIok (P:Program) (T:TT) (i:TI) (t:TypeId):Prop where
 info:∃ti z,P.info? t=some ti∧ti.size=i.size∧ti.bytes=i.bytes∧ti.zero=some z∧(∀ρ M,VsRel ρ M i.zero z.cells.toList)∧
  (∀c∈z.cells.toList,c.oneCell'=true)∧i.zero.length=i.size
 kind:KindOk P T t i.kind
def TOk (P:Program) (T:TT):Prop:=∀t i,lget T t=some i→(i.size≠0∨i.kind≠.one)→TIok P T i t
theorem lget_eq {α:Type}:∀(l:List α) (n:Nat),lget l n=l[n]?
 | [],_=>by simp[lget]
 | _::_,0=>rfl
 | _::r,n+1=>by simp[lget,lget_eq r n]
variable {P:Program} {T:TT} {A:Type} {ρ:Rho} {M:Mem} {w:World}
theorem TOk.size (hT:TOk P T) {t:Nat} (h:(T.at t).size≠0):TIok P T (T.at t) t:=by
 unfold TT.at at *
 cases hl:lget T t with
 | none=>rw[hl] at h;exact absurd rfl h
 | some i=>rw[hl] at h;exact hT t i hl (.inl h)
theorem TOk.kind (hT:TOk P T) {t:Nat} (h:(T.at t).kind≠.one):TIok P T (T.at t) t:=by
 unfold TT.at at *
 cases hl:lget T t with
 | none=>rw[hl] at h;exact absurd rfl h
 | some i=>rw[hl] at h;exact hT t i hl (.inr h)
theorem TIok.run_size {t:Nat} {i:TI} (h:TIok P T i t) (w:World):(sizeOf t).run P w=.ok i.size w:=by
 obtain⟨ti,z,h1,h2,_⟩:=h.info
 simp[sizeOf,typeInfo,h1,h2]
theorem TIok.run_agg {t:Nat} {i:TI} (h:TIok P T i t) (w:World):(isAgg t).run P w=.ok i.isAgg w:=by
 have hk:=h.kind
 unfold TI.isAgg
 cases e:i.kind<;>rw[e] at hk<;>simp only[KindOk] at hk
 case one=>obtain⟨d,hd,hn⟩:=hk;simp[isAgg,run_underlying hd];cases d<;>simp_all
 case struct fs=>obtain⟨F,hF,_⟩:=hk;simp[isAgg,run_underlying hF]
 case array n e=>simp[isAgg,run_underlying hk.1]
 all_goals simp[isAgg,run_underlying hk]
theorem TIok.run_zero {t:Nat} {i:TI} (h:TIok P T i t) (w:World):∃z,(zeroValue t).run P w=.ok z w∧(∀ρ M,VsRel ρ M i.zero z.cells.toList)∧(∀c∈z.cells.toList,c.oneCell'=true)∧i.zero.length=i.size:=by
 obtain⟨ti,z,h1,h2,h3,h4,h5⟩:=h.info
 exact⟨z,by simp[zeroValue,typeInfo,h1,h4],h5⟩
theorem Runs.when {α:Type} {f:Name→Option (Ob A)} {b:Bool} {x:Rd A α} {v:α} {ns:List Name} (h:Rd.Runs f (Rd.when b x) v ns):b=true∧Rd.Runs f x v ns:=by
 cases b with
 | true=>exact⟨rfl,h⟩
 | false=>cases h
theorem Runs.need {α:Type} {f:Name→Option (Ob A)} {p:Prop} {x:Rd A α} {v:α} {ns:List Name} (h:Rd.Runs f (.need p x) v ns):p∧Rd.Runs f x v ns:=by
 cases h with
 | need hp h=>exact⟨hp,h⟩
theorem Runs.ret {α:Type} {f:Name→Option (Ob A)} {x v:α} {ns:List Name} (h:Rd.Runs f (.ret x) v ns):v=x:=by cases h;rfl
theorem Runs.opt {α β:Type} {f:Name→Option (Ob A)} {o:Option β} {k:β→Rd A α} {v:α} {ns:List Name} (h:Rd.Runs f (.opt o k) v ns):∃b,o=some b∧Rd.Runs f (k b) v ns:=by
 cases h with
 | opt hx h=>exact⟨_,hx,h⟩
theorem Runs.look {α:Type} {f:Name→Option (Ob A)} {n:Name} {k:Ob A→Rd A α} {v:α} {ns:List Name} (h:Rd.Runs f (.look n k) v ns):∃o ms,f n=some o∧Rd.Runs f (k o) v ms:=by
 cases h with
 | look hx h=>exact⟨_,_,hx,h⟩
theorem Runs.fail {α:Type} {f:Name→Option (Ob A)} {v:α} {ns:List Name} (h:Rd.Runs f (.fail:Rd A α) v ns):False:=by cases h
theorem VsRel.one {ρ:Rho} {M:Mem} {v:V} {v':Value} (h:VRel ρ M v v') (h1:v.one=true):v'.oneCell'=true:=by
 cases h<;>first|rfl|cases h1
theorem VRel.cells {v:V} {v':Value} (h:VRel ρ M v v') (h1:v≠.undef):VsRel ρ M (V.cells v) v'.cells.toList:=by
 cases h with
 | agg hl hc=>exact⟨by simpa[V.cells,Value.cells] using hl,fun i a b ha hb=>hc i a b ha (by simpa[Value.cells] using hb)⟩
 | undef=>exact absurd rfl h1
 | _=>refine VsRel.cons ?_ .nil;constructor<;>assumption
theorem part_sound {t:Nat} (hT:TIok P T (T.at t) t) {cs:List V} {cs':List Value} (hc:VsRel ρ M cs cs') {off:Nat} {f:Name→Option (Ob A)} {v:V} {ns:List Name}
  (h:Rd.Runs f (partOf (T.at t) cs off) v ns):∃v',(part t cs'.toArray off).run P w=.ok v' w∧VRel ρ M v v':=by
 unfold partOf at h
 unfold part
 rw[Sem.run_bind,hT.run_agg w]
 cases hb:(T.at t).isAgg with
 | true=>
  simp only[hb] at h
  obtain⟨hl,h⟩:=Runs.need h
  obtain rfl:=Runs.ret h
  refine⟨.agg (cs'.toArray.extract off (off+(T.at t).size)),?_,?_⟩
  ·simp only[Result.andThen_ok,if_true,Sem.run_bind,hT.run_size w];rfl
  ·have e:cs'.toArray.extract off (off+(T.at t).size)=((cs'.drop off).take (T.at t).size).toArray:=by simp
   rw[e]
   have:=(hc.drop off).take (T.at t).size
   exact .agg this.1 this.2
 | false=>
  simp only[hb] at h
  obtain⟨h1,h⟩:=Runs.when h
  obtain⟨x,hx,h⟩:=Runs.opt h
  obtain rfl:=Runs.ret h
  rw[lget_eq] at hx
  obtain⟨v',hv',hr⟩:=hc.get hx
  refine⟨v',?_,hr⟩
  simp only[Result.andThen_ok,Bool.false_eq_true,if_false]
  rw[show cs'.toArray[off]?=some v' by simpa using hv']
  rfl
theorem Addr.add_none (b o n:Nat):(⟨b,o,none⟩:Addr).add n=⟨b,o+n,none⟩:=by
 unfold Addr.add;split<;>simp_all
theorem partOf_ok (hT:TOk P T) {t:Nat} {f:Name→Option (Ob A)} {cs:List V} {off:Nat} {v:V} {ns:List Name} (h:Rd.Runs f (partOf (T.at t) cs off) v ns):TIok P T (T.at t) t:=by
 unfold partOf at h
 cases hb:(T.at t).isAgg with
 | true=>exact hT.kind (fun e=>by simp[TI.isAgg,e] at hb)
 | false=>
  simp only[hb] at h
  have:=(Runs.when h).1
  exact hT.size (by simp at this;omega)
theorem loadVar_sound {t:Nat} (hT:TIok P T (T.at t) t) {cs:List V} {cs':List Value} (hc:VsRel ρ M cs cs') {b base off:Nat}
  (hm:∀j v',cs'[j]?=some v'→w.cell? ⟨b,base+j,none⟩=some v') {f:Name→Option (Ob A)} {v:V} {ns:List Name}
  (h:Rd.Runs f (partOf (T.at t) cs off) v ns):∃v',(loadVar t ⟨b,base+off,none⟩).run P w=.ok v' w∧VRel ρ M v v':=by
 unfold partOf at h
 unfold loadVar
 rw[Sem.run_bind,hT.run_agg w]
 cases hb:(T.at t).isAgg with
 | true=>
  simp only[hb] at h
  obtain⟨hl,h⟩:=Runs.need h
  obtain rfl:=Runs.ret h
  have hx:=(hc.drop off).take (T.at t).size
  have hlen:((cs'.drop off).take (T.at t).size).length=(T.at t).size:=by
   rw[←hx.1];simp;omega
  have hrun:=run_loadCells_list (P:=P) w ⟨b,base+off,none⟩ ((cs'.drop off).take (T.at t).size) (fun j v' hj=>by
   rw[Addr.add_none]
   rw[List.getElem?_take] at hj
   split at hj
   ·rw[List.getElem?_drop] at hj
    have:=hm _ _ hj
    rwa [←Nat.add_assoc] at this
   ·cases hj)
  rw[hlen] at hrun
  refine⟨_,?_,.agg hx.1 hx.2⟩
  simp only[Result.andThen_ok,if_true,Sem.run_bind,hT.run_size w,hrun];rfl
 | false=>
  simp only[hb] at h
  obtain⟨h1,h⟩:=Runs.when h
  obtain⟨x,hx,h⟩:=Runs.opt h
  obtain rfl:=Runs.ret h
  rw[lget_eq] at hx
  obtain⟨v',hv',hr⟩:=hc.get hx
  refine⟨v',?_,hr⟩
  simp only[Result.andThen_ok,Bool.false_eq_true,if_false,run_load,hm _ _ hv']
theorem row_index {i n sz:Nat} (h:i<n):i*sz+sz≤n*sz:=by
 have:(i+1)*sz≤n*sz:=Nat.mul_le_mul_right _ h
 rwa [Nat.succ_mul] at this
theorem row_elem {sz:Nat} {es:List (List V)} {o c:Nat} {cs':List Value} (h3:o+c≤cs'.length) (h4:es.length*sz≤c) (h5:∀e∈es,e.length=sz)
  (h6:∀(i k:Nat) (e:List V) (v:V),es[i]?=some e→e[k]?=some v→∃v',cs'[o+(i*sz+k)]?=some v'∧VRel ρ M v v') {i:Nat} {e:List V} (he:es[i]?=some e) :
  VsRel ρ M e ((cs'.drop (o+i*sz)).take sz):=by
 have hi:=(List.getElem?_eq_some_iff.1 he).1
 have hsz:=h5 e (List.mem_of_getElem? he)
 have hx:=row_index (sz:=sz) hi
 refine⟨by simp;omega,fun k v v' hv hv'=>?_⟩
 rw[List.getElem?_take] at hv'
 split at hv'
 ·rw[List.getElem?_drop] at hv'
  obtain⟨v2,e2,r2⟩:=h6 i k e v he hv
  rw[←Nat.add_assoc,hv'] at e2
  cases e2
  exact r2
 ·cases hv'
variable {R:Rep A} {E:Env} {st:St A} {S:Name→List Nat} {a:Act}
theorem okC_pure {v:V} (h:okC 0 v):PureV v:=by
 cases v<;>simp only[okC,okN] at h<;>first|exact .int _ _|exact .bool _|exact .nilp|exact .nils|exact .undef|exact .fn _|exact .lst h|exact .lpt h|exact absurd h.2 (Nat.not_lt_zero _)|exact h.elim
theorem VsRel.pure {ρ ρ':Rho} {M:Mem} {cs:List V} {cs':List Value} (hp:∀c∈cs,okC 0 c) (h:VsRel ρ M cs cs'):VsRel ρ' M cs cs':=
 ⟨h.1,fun i v v' hv hv'=>(okC_pure (hp v (List.mem_of_getElem? hv)) ρ M v' (h.2 i v v' hv hv')).mono (fun _ _ e=>by cases e) (Mem.le_refl _)⟩
theorem RepOk.plain [Deep A] (hR:RepOk R) {x:A} {cs:List V} (hx:Deep.op x=(cs,[])) {M:Mem} {w:World} {b:Nat} {S:List Nat} :
  R.rep x M w b S↔Plain M w b S cs∧∀c∈cs,okC 0 c:=by
 have h1:(Deep.op x).1=cs:=by rw[hx]
 have h2:(Deep.op x).2=[]:=by rw[hx]
 constructor
 ·intro h
  obtain⟨ρ,Ss,T,cs',ho⟩:=hR.opens h
  have hc:=ho.cells
  rw[h1,h2] at hc
  have hr:=ho.rel
  rw[h1] at hr
  have ha:=ho.all
  rw[h2] at ha
  exact⟨⟨T,cs',ha,ho.heap,hr.pure hc,ho.mem⟩,hc⟩
 ·rintro⟨⟨T,cs',e1,e2,e3,e4⟩,hc⟩
  refine hR.shuts ⟨fun _=>none,fun _=>[],T,cs',?_⟩
  exact {
   cells:=by rw[h1,h2];exact hc
   obs:=fun i ob hi=>by rw[h2] at hi;cases hi
   heap:=e2
   rel:=by rw[h1];exact e3
   mem:=e4
   inner:=fun i ob hi=>by rw[h2] at hi;cases hi
   out:=fun i hi=>by rw[h2] at hi;cases hi
   apart:=fun i j hi=>by rw[h2] at hi;cases hi
   all:=by rw[h2];exact e1}
theorem plainOf_runs [Deep A] {α:Type} {f:Name→Option (Ob A)} {x:A} {k:List V→Rd A α} {v:α} {ns:List Name} (h:Rd.Runs f (plainOf x k) v ns):∃cs,Deep.op x=(cs,[])∧Rd.Runs f (k cs) v ns:=by
 unfold plainOf at h
 split at h
 ·rename_i cs e;exact⟨cs,e,h⟩
 ·cases h
theorem vload_sound [Deep A] (hR:RepOk R) (hT:TOk P T) (h:Rel R E st ρ M S a w) {t:Nat} {p:V} {p':Value} (hp:VRel ρ M p p') {v:V} {ns:List Name}
  (hr:Rd.Runs st.get (vload (T.at t) p) v ns) :
  ∃v',(Instr.loadAt t p').run P w=.ok v' w∧VRel ρ M v v':=by
 cases hp with
 | @ref n off b o c hn=>
  simp only[vload] at hr
  obtain⟨ob,ms,ho,hr⟩:=Runs.look hr
  cases ob with
  | box cs=>
   obtain⟨b1,ty,cs',e1,e2,e3,e4,_⟩:=h.objs n _ ho
   rw[hn] at e2;cases e2
   have:=loadVar_sound (P:=P) (w:=w) (partOf_ok hT hr) e4 (b:=b) (base:=0) (fun j v' hj=>by
    simp only[World.cell?,e3,Nat.zero_add];simpa using hj) hr
   simpa[Instr.loadAt,Instr.sureAddr] using this
  | row=>cases hr
  | abs=>cases hr
  | prow=>cases hr
 | @rpt n sz i k b o c hn=>
  simp only[vload] at hr
  obtain⟨ob,ms,ho,hr⟩:=Runs.look hr
  cases ob with
  | row sz' es fz=>
   rcases h.objs n _ ho with⟨b1,o1,c1,ty,cs',e1,e2,e3,e4,e5,e6,e7,_⟩|⟨rfl,_⟩
   case inr=>
    obtain⟨_,hr1⟩:=Runs.when hr
    obtain⟨e,he,_⟩:=Runs.opt hr1
    rw[lget_eq] at he;simp at he
   rw[hn] at e2;cases e2
   obtain⟨hs,hr1⟩:=Runs.when hr
   clear hr
   obtain rfl:sz=sz':=by simpa using hs
   obtain⟨e,he,hr⟩:=Runs.opt hr1
   rw[lget_eq] at he
   have hv:=row_elem e4 e5 e6 e7 he
   have:=loadVar_sound (P:=P) (w:=w) (partOf_ok hT hr) hv (b:=b) (base:=o+i*sz) (fun j v' hj=>by
    rw[List.getElem?_take] at hj
    split at hj
    ·rw[List.getElem?_drop] at hj
     simp only[World.cell?,e3];simpa using hj
    ·cases hj) hr
   rw[Nat.add_assoc] at this
   simpa[Instr.loadAt,Instr.sureAddr] using this
  | box=>cases hr
  | abs=>cases hr
  | prow xs=>
   obtain⟨hs,hr1⟩:=Runs.when hr
   obtain⟨hj,hr2⟩:=Runs.need hr1
   obtain rfl:=Runs.ret hr2
   simp only[Bool.and_eq_true,beq_iff_eq,Bool.not_eq_true'] at hs
   obtain⟨⟨⟨rfl,rfl⟩,ha⟩,h1⟩:=hs
   have hti:=hT.size (t:=t) (by omega)
   rcases h.objs n _ ho with⟨b1,o1,c1,ty,cs',bs,Ss,e2,hp⟩|⟨rfl,_⟩
   case inr=>cases hj
   rw[hn] at e2;cases e2
   have hm:=hp.mem i hj
   refine⟨.pointer (some ⟨bs i,0+0,none⟩),?_,.sub hn hm⟩
   have hc:=h.mem _ _ _ hm
   simp only[Instr.loadAt,Instr.sureAddr,loadVar,Nat.mul_one,Nat.add_zero]
   simp only[pure_bind,Sem.run_bind,hti.run_agg w,Result.andThen_ok,ha,Bool.false_eq_true,if_false,run_load,hc]
 | @lpt sz es b o i k vals h1 h2 h3=>
  simp only[vload] at hr
  obtain⟨e,he,hr⟩:=Runs.opt hr
  rw[lget_eq] at he
  have hi:=(List.getElem?_eq_some_iff.1 he).1
  have hsz:=h1 e (List.mem_of_getElem? he)
  have hv:VsRel ρ M e ((List.range sz).map (vals i)):=by
   refine⟨by simp[hsz],fun j v v' hv hv'=>?_⟩
   rw[List.getElem?_map] at hv'
   by_cases hj:j<sz
   ·rw[List.getElem?_range hj] at hv'
    cases hv'
    exact h2 i j e v he hv
   ·rw[List.getElem?_eq_none (by omega)] at hv;cases hv
  have:=loadVar_sound (P:=P) (w:=w) (partOf_ok hT hr) hv (b:=b) (base:=o+i*sz) (fun j v' hj=>by
   rw[List.getElem?_map] at hj
   by_cases hlt:j<sz
   ·rw[List.getElem?_range hlt] at hj
    cases hj
    have:=h.mem _ _ _ (h3 i j hi hlt)
    rwa [←Nat.add_assoc] at this
   ·rw[List.getElem?_eq_none (by simpa using Nat.le_of_not_lt hlt)] at hj;cases hj) hr
  rw[Nat.add_assoc] at this
  simpa[Instr.loadAt,Instr.sureAddr] using this
 | @sub n j off b o c b' o' hn hm=>
  simp only[vload] at hr
  obtain⟨ob,ms,ho,hr⟩:=Runs.look hr
  cases ob with
  | prow xs=>
   obtain⟨x,hx,hr⟩:=Runs.opt hr
   obtain⟨cs,hop,hr⟩:=plainOf_runs hr
   rw[lget_eq] at hx
   have hj:=(List.getElem?_eq_some_iff.1 hx).1
   rcases h.objs n _ ho with⟨b1,o1,c1,ty,cs',bs,Ss,e2,hp⟩|⟨rfl,_⟩
   case inr=>cases hj
   rw[hn] at e2;cases e2
   rw[hp.mem j hj] at hm;cases hm
   obtain⟨⟨ty',cs2,e1,e3,e4,e5⟩,hpure⟩:=(hR.plain hop).1 (hp.rep j x hx)
   have:=loadVar_sound (P:=P) (w:=w) (partOf_ok hT hr) (e4.mono (ρ':=ρ) (fun _ _ e=>by cases e) (Mem.le_refl _)) (b:=bs j) (base:=0) (fun i v' hi=>by
    simp only[World.cell?,e3,Nat.zero_add];simpa using hi) hr
   simpa[Instr.loadAt,Instr.sureAddr] using this
  | box=>cases hr
  | row=>cases hr
  | abs=>cases hr
 | _=>cases hr
end Go.Vm
