/- A part of the proofs over the seat YtbppemcdphgknaaGreatDoor. -/
import Derived.Test.YtbppemcdphgknaaGreatDoorVm9a
set_option linter.unusedVariables false
set_option linter.unusedSimpArgs false
set_option maxRecDepth 100000
set_option maxHeartbeats 40000000
namespace Go.Vm
open Go
variable {P:Program} {T:TT} {A:Type} {R:Rep A} {E:Env} {st:St A} {ρ:Rho} {M:Mem} {S:Name→List Nat} {a:Act} {w:World} {ns:List Name} {flat:Nat→Bool} {G:Nat→V}
def evV (G:Nat→V) (st:St A):Operand→V
 | .tmp t=>match lget st.tmps t with
  | some v=>v
  | none=>.undef
 | .const v=>V.ofValue v
 | .global g=>G g
 | .func f=>.fn f
def GOk (G:Nat→V) (M:Mem):Prop:=∀g,VRel (fun _=>none) M (G g) (.pointer (some ⟨g,0,none⟩))
theorem ofValue_rel (ρ:Rho) (M:Mem) (v:Value):VRel ρ M (V.ofValue v) v:=by
 unfold V.ofValue
 split
 ·exact .int _ _
 ·exact .bool _
 ·exact .nilp
 ·exact .nils
 ·exact .undef _
theorem Rel.ev (h:Rel R E st ρ M S a w) (hG:GOk G E.M0) (x:Operand):VRel ρ M (evV G st x) (a.eval x):=by
 cases x with
 | tmp t=>
  simp only[evV,Act.eval]
  rw[lget_eq]
  cases ht:st.tmps[t]? with
  | none=>exact .undef _
  | some v=>
   obtain⟨v',h1,h2⟩:=h.tmps.get ht
   rw[Array.getD_eq_getD_getElem?,←Array.getElem?_toList,h1]
   exact h2
 | const v=>exact ofValue_rel _ _ _
 | global g=>exact(hG g).mono (fun _ _ e=>by cases e) h.M0
 | func f=>exact .fn f
theorem Rel.evs (h:Rel R E st ρ M S a w) (hG:GOk G E.M0) (l:List Operand):VsRel ρ M (l.map (evV G st)) (l.map a.eval):=by
 induction l with
 | nil=>exact .nil
 | cons x l ih=>exact .cons (h.ev hG x) ih
def St.app (st:St A) (dst:Option Tmp) (e:Eff A):St A:=(e.objs.foldl (fun s x=>s.setOb x.1 x.2) st).put dst e.dst
def OpRuns (P:Program) (a:Act) (o:Oper) (w:World) (post:Act→World→Prop):Prop:=
 ∃n w',(execOp a.eval o).run P w=.ok n w'∧((∃v',n=.value v'∧post (a.put o.dst v') w')∨(n=.skip∧post (a.put o.dst undef) w'))
theorem OpRuns.wp {o:Oper} {post next:Act→World→Prop} {Q:Exit→Act→World→Prop} (h:OpRuns P a o w post) (hn:∀a w,post a w→next a w):o.wp P a w next Q:=by
 obtain⟨n,w',hr,h⟩:=h
 unfold Oper.wp
 rw[hr]
 rcases h with⟨v',rfl,h⟩|⟨rfl,h⟩
 ·exact hn _ _ h
 ·exact hn _ _ h
noncomputable def vstep [Deep A] (T:TT) (flat:Nat→Bool) (G:Nat→V) (st:St A) (o:Oper):Rd A (Eff A):=
 match o.dst with
 | some s=>match lget st.objs s with
  | some p=>vop T flat (s+1,p.1+1) (evV G st) o
  | none=>.fail
 | none=>match o.op with
  | .store _ _ _=>vop T flat (0,0) (evV G st) o
  | .call c=>match c.callee with
   | .builtin .copy=>vop T flat (0,0) (evV G st) o
   | _=>.fail
  | _=>.fail
theorem sat_pure (h:Rel R E st ρ M S a w) {o:Oper} {v:V} {v':Value} (hv:VRel ρ M v v') (hr:(execOp a.eval o).run P w=.ok (.value v') w) :
  OpRuns P a o w (Sat R E (st.app o.dst {dst:=v})):=
 ⟨_,w,hr,.inl ⟨v',rfl,ρ,M,S,h.put o.dst hv⟩⟩
theorem exec_v {o:Oper} {s:Sem Value} {v':Value} {w':World} (he:execOp a.eval o=(do pure (.value (←s)))) (hs:s.run P w=.ok v' w'):(execOp a.eval o).run P w=.ok (.value v') w':=by
 rw[he]
 simp[hs]
end Go.Vm
namespace Go.Vm
open Go
variable {P:Program} {T:TT} {A:Type} {ρ:Rho} {M:Mem} {w:World} {f:Name→Option (Ob A)} {ns:List Name}
theorem lput_cons {α:Type} (cs:List α) (off:Nat) (x:α) (r:List α) (h:off+r.length+1≤cs.length):lput cs off (x::r)=lput (cs.set off x) (off+1) r:=by
 apply List.ext_getElem?
 intro i
 rw[lput_get _ _ _ (by simp;omega),lput_get _ _ _ (by simp;omega)]
 by_cases h1:off+1≤i∧i<off+1+r.length
 ·rw[if_pos h1,if_pos (by simp;omega)]
  obtain⟨k,hk⟩:∃k,i-off=k+1:=⟨i-off-1,by omega⟩
  rw[hk,List.getElem?_cons_succ]
  congr 1;omega
 ·rw[if_neg h1,List.getElem?_set]
  by_cases h2:off=i
  ·subst h2
   rw[if_pos (by simp),if_pos rfl,if_pos (by omega)]
   simp
  ·rw[if_neg (by simp;omega),if_neg h2]
theorem foldl_put (off:Nat):∀(l:List Value) (k:Nat) (cs:Array Value),off+k+l.length≤cs.size→
  (l.zipIdx k).foldl (fun cs (x:Value×Nat)=>cs.setIfInBounds (off+x.2) x.1) cs=(lput cs.toList (off+k) l).toArray
 | [],k,cs,_=>by simp[lput]
 | x::r,k,cs,h=>by
  simp only[List.length_cons] at h
  rw[List.zipIdx_cons,List.foldl_cons,foldl_put off r (k+1) _ (by simp;omega),lput_cons _ _ _ _ (by simp;omega)]
  simp[Nat.add_assoc]
inductive PRel (ρ:Rho) (M:Mem):List (Nat×V)→List (Nat×Value)→Prop
 | nil:PRel ρ M [] []
 | cons {i:Nat} {v:V} {v':Value} {l:List (Nat×V)} {l':List (Nat×Value)}:VRel ρ M v v'→PRel ρ M l l'→PRel ρ M ((i,v)::l) ((i,v')::l')
theorem VRel.cells_known {v:V} {v':Value} (h:VRel ρ M v v') (h1:v.known=true):VsRel ρ M v.cells v'.cells.toList:=by
 refine h.cells ?_
 rintro rfl
 cases h1
theorem vfill_sound {place place':Nat→Option (Nat×Nat)} (hpl:∀i x,place i=some x→place' i=some x) {parts:List (Nat×V)} {parts':List (Nat×Value)} (hp:PRel ρ M parts parts') :
  ∀{cs:List V} {cs':List Value} {r:List V} {ns:List Name},VsRel ρ M cs cs'→Rd.Runs f (vfill place cs parts) r ns→∃r':List Value,Instr.fill place' cs'.toArray parts'=some r'.toArray∧VsRel ρ M r r':=by
 induction hp with
 | nil=>intro cs cs' r ns hc hr;replace hr:=Runs.ret hr;subst hr;exact⟨cs',rfl,hc⟩
 | @cons i v v' l l' hv _ ih=>
  intro cs cs' r ns hc hr
  rw[vfill_cons] at hr
  cases hpi:place i with
  | none=>rw[hpi] at hr;cases hr
  | some x=>
   obtain⟨off,size⟩:=x
   rw[hpi] at hr
   replace hr:=Runs.when hr
   obtain⟨hk,hr⟩:=hr
   replace hr:=Runs.need hr
   obtain⟨hb,hr⟩:=hr
   simp only[Bool.and_eq_true,beq_iff_eq] at hk
   have hvc:=hv.cells_known hk.2
   have hl:v'.cells.toList.length=size:=by rw[←hvc.1];exact hk.1
   have hl2:v'.cells.size=size:=by simpa using hl
   have hcs:off+size≤cs'.length:=by rw[←hc.1];exact hb
   obtain⟨r',h1,h2⟩:=ih (hc.lput hvc (by rw[hk.1];exact hb)) hr
   refine⟨r',?_,h2⟩
   simp only[Instr.fill,hpl i _ hpi]
   have hcond:¬((decide (v'.cells.size≠size)||decide (off+v'.cells.size>cs'.toArray.size))=true):=by
    simp[hl2];omega
   rw[if_neg (by simpa using hcond)]
   rw[←Array.foldl_toList,Array.toList_zipIdx]
   have:=foldl_put off v'.cells.toList 0 cs'.toArray (by simp at hl ⊢;omega)
   rw[Nat.add_zero] at this
   rw[this]
   exact h1
theorem run_fields {F:Array Field} (hF:∀f∈F.toList,SizeOk P T f.type) (w:World) :
  (F.mapM fun f=>do pure (f.offset,←sizeOf f.type):Sem (Array (Nat×Nat))).run P w=.ok (F.map fun f=>(f.offset,(T.at f.type).size)) w:=by
 have key:∀l:List Field,(∀f∈l,SizeOk P T f.type)→((l.mapM fun f=>Prod.mk f.offset <$> sizeOf f.type:Sem (List (Nat×Nat)))).run P w=.ok (l.map fun f=>(f.offset,(T.at f.type).size)) w:=by
  intro l
  induction l with
  | nil=>intro _;rfl
  | cons x r ih=>
   intro h
   obtain⟨ti,h1,h2⟩:=h x (by simp)
   have hs:(sizeOf x.type).run P w=.ok (T.at x.type).size w:=by simp[sizeOf,typeInfo,h1,h2]
   have ih':=ih (fun f hf=>h f (by simp[hf]))
   simp[List.mapM_cons,hs,ih']
 rw[Array.mapM_eq_mapM_toList]
 have k:=key F.toList hF
 simp only[bind_pure_comp] at k ⊢
 simp[k]
 rw[←Array.toList_map]
theorem vbuild_sound (hT:TOk P T) {t:TypeId} {parts:List (Nat×V)} {parts':Array (Nat×Value)} (hp:PRel ρ M parts parts'.toList) {v:V} (hr:Rd.Runs f (vbuild T t parts) v ns) :
  ∃v',(Instr.build t parts').run P w=.ok v' w∧VRel ρ M v v':=by
 unfold vbuild at hr
 split at hr
 ·rename_i fs hk
  obtain⟨r,n1,n2,h1,hr,_⟩:=hr.bind_inv
  replace hr:=Runs.ret hr;subst hr
  have hti:=hT.kind (t:=t) (by rw[hk];simp)
  have hkk:=hti.kind
  rw[hk] at hkk
  obtain⟨F,hF,hFs,hFo⟩:=hkk
  obtain⟨z,hz,hz2,_,_⟩:=hti.run_zero (P:=P) w
  obtain⟨r',h2,h3⟩:=vfill_sound (place':=fun i=>(F.map fun f=>(f.offset,(T.at f.type).size))[i]?) (fun i x hx=>by
   rw[lget_eq,←hFs] at hx
   simpa using hx) hp (hz2 ρ M) h1
  refine⟨.agg r'.toArray,?_,.agg h3.1 h3.2⟩
  simp only[Instr.build,Sem.run_bind,hz,Result.andThen_ok,run_underlying hF,run_fields hFo]
  have h2':Instr.fill (fun x=>(F.map fun f=>(f.offset,(T.at f.type).size))[x]?) z.cells parts'.toList=some r'.toArray:=by simpa using h2
  rw[h2']
  rfl
 ·rename_i n e hk
  obtain⟨r,n1,n2,h1,hr,_⟩:=hr.bind_inv
  replace hr:=Runs.ret hr;subst hr
  have hti:=hT.kind (t:=t) (by rw[hk];simp)
  have hkk:=hti.kind
  rw[hk] at hkk
  obtain⟨hu,ti,hi,hi1⟩:=hkk
  obtain⟨z,hz,hz2,_,_⟩:=hti.run_zero (P:=P) w
  have hs:(sizeOf e).run P w=.ok (T.at e).size w:=by simp[sizeOf,typeInfo,hi,hi1]
  obtain⟨r',h2,h3⟩:=vfill_sound (place':=fun i=>some (i*(T.at e).size,(T.at e).size)) (fun i x hx=>hx) hp (hz2 ρ M) h1
  refine⟨.agg r'.toArray,?_,.agg h3.1 h3.2⟩
  simp only[Instr.build,Sem.run_bind,hz,Result.andThen_ok,run_underlying hu,hs]
  have h2':Instr.fill (fun i=>some (i*(T.at e).size,(T.at e).size)) z.cells parts'.toList=some r'.toArray:=by simpa using h2
  rw[h2']
  rfl
 ·cases hr
theorem flatten_set {sz:Nat}:∀(es:List (List V)) (i:Nat) (x:List V),(∀e∈es,e.length=sz)→x.length=sz→i<es.length→(es.set i x).flatten=lput es.flatten (i*sz) x:=by
 intro es
 induction es with
 | nil=>intro i x _ _ h;simp at h
 | cons e r ih=>
  intro i x hs hx hi
  have he:=hs e (by simp)
  cases i with
  | zero=>
   rw[List.set_cons_zero,List.flatten_cons,List.flatten_cons,Nat.zero_mul]
   simp[lput,hx,he]
  | succ i=>
   rw[List.set_cons_succ,List.flatten_cons,List.flatten_cons,ih i x (fun e he=>hs e (by simp[he])) hx (by simpa using hi)]
   unfold lput
   rw[Nat.succ_mul,List.take_append,List.drop_append]
   have h1:e.take (i*sz+sz)=e:=List.take_of_length_le (by omega)
   have h2:e.drop (i*sz+sz+x.length)=[]:=List.drop_of_length_le (by omega)
   rw[h1,h2,List.nil_append,List.append_assoc,show i*sz+sz-e.length=i*sz by omega,show i*sz+sz+x.length-e.length=i*sz+x.length by omega]
theorem vrowOf_sound {z:List V} {parts:List (Nat×V)} {parts':List (Nat×Value)} (hp:PRel ρ M parts parts') :
  ∀{es:List (List V)} {cs':List Value} {r:List (List V)} {ns:List Name},(∀e∈es,e.length=z.length)→VsRel ρ M es.flatten cs'→Rd.Runs f (vrowOf z es parts) r ns→
   ∃r':List Value,Instr.fill (fun i=>some (i*z.length,z.length)) cs'.toArray parts'=some r'.toArray∧VsRel ρ M r.flatten r'∧(∀e∈r,e.length=z.length)∧r.length=es.length:=by
 induction hp with
 | nil=>intro es cs' r ns hs hc hr;replace hr:=Runs.ret hr;subst hr;exact⟨cs',rfl,hc,hs,rfl⟩
 | @cons i v v' l l' hv _ ih=>
  intro es cs' r ns hs hc hr
  rw[vrowOf_cons] at hr
  replace hr:=Runs.when hr
  obtain⟨hk,hr⟩:=hr
  replace hr:=Runs.need hr
  obtain⟨hb,hr⟩:=hr
  simp only[Bool.and_eq_true,beq_iff_eq] at hk
  have hvc:=hv.cells_one hk.2
  have hl:v'.cells.toList.length=z.length:=by rw[←hvc.1];exact hk.1
  have hl2:v'.cells.size=z.length:=by simpa using hl
  have hlen:=flatten_length es hs
  have hri:=row_index (sz:=z.length) hb
  have hcs:i*z.length+z.length≤cs'.length:=by rw[←hc.1,hlen];exact hri
  rw[lset_eq] at hr
  have hs':∀e∈es.set i v.cells,e.length=z.length:=by
   intro e he
   rcases List.mem_or_eq_of_mem_set he with he|rfl
   ·exact hs e he
   ·exact hk.1
  obtain⟨r',h1,h2,h3,h4⟩:=ih hs' (by rw[flatten_set es i v.cells hs hk.1 hb];exact hc.lput hvc (by rw[hk.1,hlen];exact hri)) hr
  refine⟨r',?_,h2,h3,by rw[h4];simp⟩
  simp only[Instr.fill]
  have hcond:¬((decide (v'.cells.size≠z.length)||decide (i*z.length+v'.cells.size>cs'.toArray.size))=true):=by
   simp[hl2];omega
  rw[if_neg (by simpa using hcond)]
  rw[←Array.foldl_toList,Array.toList_zipIdx]
  have:=foldl_put (i*z.length) v'.cells.toList 0 cs'.toArray (by simp at hl ⊢;omega)
  rw[Nat.add_zero] at this
  rw[this]
  exact h1
theorem flatten_replicate_rel {z:List V} {z':List Value} (h:VsRel ρ M z z') (n:Nat):VsRel ρ M (List.replicate n z).flatten (List.replicate n z').flatten:=by
 induction n with
 | zero=>simpa using VsRel.nil
 | succ n ih=>rw[List.replicate_succ,List.replicate_succ,List.flatten_cons,List.flatten_cons];exact h.append ih
theorem range_cells (z:Array Value) (hz:z.size≠0) (n:Nat):((Array.range (n*z.size)).map fun i=>z[i % z.size]!)=((List.replicate n z.toList).flatten).toArray:=by
 apply Array.ext
 ·simp[List.length_flatten]
 ·intro i h1 h2
  simp only[Array.size_map,Array.size_range] at h1
  have hl:∀e∈List.replicate n z.toList,e.length=z.size:=by intro e he;rw[List.eq_of_mem_replicate he];simp
  have hpos:0<z.size:=Nat.pos_of_ne_zero hz
  have hi:i / z.size<n:=(Nat.div_lt_iff_lt_mul hpos).2 h1
  have hk:i % z.size<z.size:=Nat.mod_lt _ hpos
  have key:∀(es:List (List Value)),(∀e∈es,e.length=z.size)→∀(i k:Nat) (e:List Value),es[i]?=some e→k<z.size→es.flatten[i*z.size+k]?=e[k]?:=by
   intro es
   induction es with
   | nil=>intro _ i k e h;simp at h
   | cons x r ih=>
    intro hs i k e h hk
    have hx:=hs x (by simp)
    cases i with
    | zero=>simp at h;subst h;rw[List.flatten_cons,Nat.zero_mul,Nat.zero_add,List.getElem?_append_left (by omega)]
    | succ i=>
     rw[List.flatten_cons,List.getElem?_append_right (by rw[hx,Nat.succ_mul];omega),hx]
     rw[←ih (fun e he=>hs e (by simp[he])) i k e (by simpa using h) hk]
     congr 1
     rw[Nat.succ_mul];omega
  have h3:=key _ hl (i / z.size) (i % z.size) z.toList (by rw[List.getElem?_replicate,if_pos hi]) hk
  rw[show i / z.size*z.size+i % z.size=i by rw[Nat.mul_comm];exact Nat.div_add_mod i z.size] at h3
  rw[List.getElem?_eq_getElem (by simpa using h2)] at h3
  simp only[Array.getElem_map,Array.getElem_range]
  rw[getElem!_pos z (i % z.size) hk]
  have h4:z.toList[i % z.size]?=some z[i % z.size]:=by simp[hk]
  rw[h4] at h3
  simpa using(Option.some.inj h3).symm
end Go.Vm
