/- A part of the proofs over the seat YtbppemcdphgknaaGreatDoor. -/
import Derived.Test.YtbppemcdphgknaaGreatDoorV10
import Derived.IntWalk
set_option linter.unusedVariables false
set_option linter.unusedSimpArgs false
namespace Go.Vm
open Go
variable {P:Program} {T:TT} {A:Type} {R:Rep A} {E:Env} {st:St A} {ρ:Rho} {M:Mem} {S:Name→List Nat} {a:Act} {w:World} {ns:List Name} {flat:Nat→Bool} {G:Nat→V}
theorem Rel.evp (h:Rel R E st ρ M S a w) (hG:GOk G E.M0) (l:List (Nat×Operand)):PRel ρ M (l.map fun p=>(p.1,evV G st p.2)) (l.map fun p=>(p.1,a.eval p.2)):=by
 induction l with
 | nil=>exact .nil
 | cons x l ih=>exact .cons (h.ev hG x.2) ih
theorem Rel.evo (h:Rel R E st ρ M S a w) (hG:GOk G E.M0) (x:Option Operand):ORel ρ M (x.map (evV G st)) (x.map a.eval):=by
 cases x with
 | none=>trivial
 | some x=>exact h.ev hG x
theorem sat_new {s:Nat} {g:Nat} {o:Oper} (ho:o.dst=some s) {v:V} {v':Value} {ob:Ob A} {w':World} {ρ':Rho} {S':Name→List Nat} (h:Rel R E (st.setOb (s+1,g+1) (some ob)) ρ' M S' a w') (hv:VRel ρ' M v v')
  (hr:(execOp a.eval o).run P w=.ok (.value v') w'):OpRuns P a o w (Sat R E (st.app o.dst {dst:=v,objs:=[((s+1,g+1),some ob)]})):=
 ⟨_,w',hr,.inl ⟨v',rfl,ρ',M,S',h.put o.dst hv⟩⟩
theorem TOk.int (hT:TOk P T) {t:TypeId} {k:IntKind} (hk:(T.at t).kind=.int k):P.underlying t=some (.int k):=by
 have hkk:=(hT.kind (t:=t) (by rw[hk];simp)).kind
 rw[hk] at hkk
 exact hkk
theorem TOk.slice (hT:TOk P T) {t e:TypeId} (hk:(T.at t).kind=.slice e):P.underlying t=some (.slice e):=by
 have hkk:=(hT.kind (t:=t) (by rw[hk];simp)).kind
 rw[hk] at hkk
 exact hkk
theorem alloc_sound (hT:TOk P T) (h:Rel R E st ρ M S a w) {s g:Nat} {o₀:Option (Ob A)} (hs:st.objs[s]?=some (g,o₀)) {o:Oper} (hd:o.dst=some s) {t:TypeId} (ho:o.op=.alloc t) (hsz:(T.at t).size≠0) :
  OpRuns P a o w (Sat R E (st.app o.dst {dst:=.ref (s+1,g+1) 0,objs:=[((s+1,g+1),some (.box (T.at t).zero))]})):=by
 obtain⟨z,hz,hz2,_,_⟩:=(hT.size hsz).run_zero (P:=P) w
 obtain⟨ρ',S',k1,k2⟩:=h.newBox hs (hz2 ρ M) t
 refine sat_new hd k1 k2 ?_
 simp only[execOp,ho,Instr.alloc,Sem.run_bind,hz,Result.andThen_ok]
 simp[newVar,newRow,newObj,Sem.run]
theorem vconvert_run {src t:TypeId} {k k' k2:IntKind} {n:Int} (hs:P.underlying src=some (.int k')) (hu:P.underlying t=some (.int k)):(convert src t (.int k2 n)).run P w=.ok (.int k (k.wrap n)) w:=by
 simp[convert,run_underlying hs,run_underlying hu,Conv.intToInt]
theorem map_range0 (f:Nat→Value):Array.map f (Array.range 0)=#[]:=by
 apply Array.ext
 ·simp
 ·intro i h;simp at h
theorem vmake_run (hT:TOk P T) {t e:TypeId} (hu:P.underlying t=some (.slice e)) (hsz:(T.at e).size≠0) {k k':IntKind} {l c:Int} (hb:0≤l∧l≤c∧c*(T.at e).bytes≤roomBound∧c≤roomBound) :
  ∃z:Value,(∀ρ M,VsRel ρ M (T.at e).zero z.cells.toList)∧(Instr.makeSlice t (.int k l) (.int k' c)).run P w =
   .ok (.slice (some ⟨w.heap.size,0,none⟩) l.toNat c.toNat) (w.alloc (.cells (List.replicate c.toNat z.cells.toList).flatten.toArray e)):=by
 have hti:=hT.size hsz
 obtain⟨ti,z,hi,hi1,hi2,hi3,hi4,hi5,hi6⟩:=hti.info
 refine⟨z,hi4,?_⟩
 have hzs:z.cells.size=(T.at e).size:=by
  have:=(hi4 (fun _=>none) (fun _ _=>none)).1
  simp at this;omega
 obtain⟨b1,b2,b3,b4⟩:=hb
 simp only[roomBound] at b3 b4
 have hwl:IntKind.i64.wrap l=l:=IntWalk.i64_in l (by omega)
 have hwc:IntKind.i64.wrap c=c:=IntWalk.i64_in c (by omega)
 have c1:¬(c<0):=by omega
 have c2:¬(281474976710656<((ti.bytes:Nat):Int)*c):=by rw[hi2,Int.mul_comm];omega
 have c3:¬(l<0):=by omega
 have c4:¬(c<l):=by omega
 have hrun:(typeInfo e).run P w=.ok ti w:=by simp[typeInfo,hi]
 have hz:(zeroValue e).run P w=.ok z w:=by simp[zeroValue,typeInfo,hi,hi3]
 simp[Instr.makeSlice,run_underlying hu,asInt,asIntOf,hrun,hwl,hwc,c1,c2,c3,c4,hti.run_size w]
 by_cases hn:c.toNat*(T.at e).size=0
 ·have hc0:c.toNat=0:=by
   rcases Nat.mul_eq_zero.1 hn with h|h
   ·exact h
   ·exact absurd h hsz
  simp[hc0,newRow,newObj,Sem.run,map_range0]
 ·rw[if_neg hn]
  have:=range_cells z.cells (by rw[hzs];exact hsz) c.toNat
  rw[hzs] at this
  simp[hz,newRow,newObj,Sem.run,hzs,this]
theorem vbs_run (hT:TOk P T) {t e:TypeId} (hu:P.underlying t=some (.slice e)) (hsz:(T.at e).size≠0) {len:Nat} (hl:len*(T.at e).size≤16777216) {parts:List (Nat×V)} {parts':Array (Nat×Value)} (hp:PRel ρ M parts parts'.toList)
  {f:Name→Option (Ob A)} {es:List (List V)} (hr:Rd.Runs f (vrowOf (T.at e).zero (List.replicate len (T.at e).zero) parts) es ns) :
  ∃cs':List Value,VsRel ρ M es.flatten cs'∧(∀x∈es,x.length=(T.at e).size)∧es.length=len∧(Instr.buildSlice t len parts').run P w=.ok (.slice (some ⟨w.heap.size,0,none⟩) len len) (w.alloc (.cells cs'.toArray e)):=by
 have hti:=hT.size hsz
 obtain⟨ti,z,hi,hi1,hi2,hi3,hi4,hi5,hi6⟩:=hti.info
 have hzs:z.cells.size=(T.at e).size:=by
  have:=(hi4 (fun _=>none) (fun _ _=>none)).1
  simp at this;omega
 have hz:(zeroValue e).run P w=.ok z w:=by simp[zeroValue,typeInfo,hi,hi3]
 obtain⟨r',h1,h2,h3,h4⟩:=vrowOf_sound hp (cs':=(List.replicate len z.cells.toList).flatten) (fun x hx=>by rw[List.eq_of_mem_replicate hx]) (flatten_replicate_rel (hi4 ρ M) len) hr
 refine⟨r',h2,fun x hx=>by rw[h3 x hx,hi6],by rw[h4];simp,?_⟩
 have hcond:¬(16777216<len*(T.at e).size):=by omega
 simp[Instr.buildSlice,run_underlying hu,hti.run_size w,hcond]
 rw[hi6] at h1
 by_cases hn:len*(T.at e).size=0
 ·have hc0:len=0:=by
   rcases Nat.mul_eq_zero.1 hn with h|h
   ·exact h
   ·exact absurd h hsz
  subst hc0
  simp at h1
  simp[map_range0,h1,newRow,newObj,Sem.run]
 ·have:=range_cells z.cells (by rw[hzs];exact hsz) len
  rw[hzs] at this
  rw[if_neg hn]
  simp[hz,hzs,this,h1,newRow,newObj,Sem.run]
theorem vlen_run {t e:TypeId} (hu:P.underlying t=some (.slice e)) {p:Option Addr} {n c:Nat} {ty:TypeId} {ts:Array TypeId} (ht:ts[0]?=some t):(Builtin.len_ ts ty #[.slice p n c]).run P w=.ok (.int .i64 n) w:=by
 simp[Builtin.len_,ht,run_underlying hu,goInt]
theorem bs_sound (hT:TOk P T) (hG:GOk G E.M0) (h:Rel R E st ρ M S a w) {s g:Nat} {o₀:Option (Ob A)} (hs:st.objs[s]?=some (g,o₀)) {o:Oper} (hd:o.dst=some s) {t e len:Nat} {ps:Array (Nat×Operand)}
  (ho:o.op=.buildSlice t len ps) (hk:(T.at t).kind=.slice e) (hsz:(T.at e).size≠0) (hl:len*(T.at e).size≤16777216) {es:List (List V)}
  (h2:Rd.Runs st.get (vrowOf (T.at e).zero (List.replicate len (T.at e).zero) (ps.toList.map fun p=>(p.1,evV G st p.2))) es ns) :
  OpRuns P a o w (Sat R E (st.app o.dst {dst:=.rsl (s+1,g+1) (T.at e).size 0 len,objs:=[((s+1,g+1),some (.row (T.at e).size es false))]})):=by
 have hp:=h.evp hG ps.toList
 obtain⟨cs',k1,k2,k3,k4⟩:=vbs_run (P:=P) (w:=w) hT (hT.slice hk) hsz hl (parts':=(ps.toList.map fun p=>(p.1,a.eval p.2)).toArray) (by simpa using hp) h2
 have hl:len*(T.at e).size≤cs'.length:=by rw[←k1.1,flatten_length _ k2,k3];exact Nat.le_refl _
 have hcf:∀(i k:Nat) (e':List V) (v:V),es[i]?=some e'→e'[k]?=some v→∃v',cs'[i*(T.at e).size+k]?=some v'∧VRel ρ M v v':=by
  intro i k e' v he hv
  have:=cells_of_flat (rest:=[]) k2 k1 i k e' v he hv
  rwa [List.append_nil] at this
 obtain⟨ρ',S',q1,q2⟩:=h.newRow false hs (sz:=(T.at e).size) (es:=es) (cs':=cs') (cap:=len) hl (Nat.le_of_eq k3) k2 hcf e
 rw[k3] at q2
 refine sat_new hd q1 q2 ?_
 have e1:(ps.toList.map fun p=>(p.1,a.eval p.2)).toArray=ps.map fun p=>(p.1,a.eval p.2):=by rw[←Array.toList_map]
 rw[e1] at k4
 unfold execOp
 rw[ho]
 simp[k4]
theorem len_sound (hT:TOk P T) (hG:GOk G E.M0) (h:Rel R E st ρ M S a w) {o:Oper} {x:Operand} {t e:Nat} (ho:o.op=.call {callee:=.builtin .len,args:=#[x],argTypes:=#[t]}) (hk:(T.at t).kind=.slice e) {v:V}
  {f:Name→Option (Ob A)} (hr:Rd.Runs f (vlen (evV G st x)) v ns):OpRuns P a o w (Sat R E (st.app o.dst {dst:=v})):=by
 have hx:=h.ev hG x
 generalize ha:a.eval x=av at hx
 generalize he:evV G st x=xv at hx hr
 have key:∀(p:Option Addr) (n c:Nat),av=.slice p n c→v=.int .i64 n→OpRuns P a o w (Sat R E (st.app o.dst {dst:=v})):=by
  rintro p n c rfl rfl
  refine sat_pure h (.int _ _) ?_
  unfold execOp
  rw[ho]
  simp[resolve,invoke,builtin,ha,vlen_run (hT.slice hk)]
 cases hx<;>simp only[vlen] at hr<;>(try(cases hr;done))<;>(replace hr:=Runs.ret hr;subst hr)
 all_goals first|exact key _ _ _ rfl rfl|exact key _ 0 _ rfl (by simp)
theorem mm_sound (hG:GOk G E.M0) (h:Rel R E st ρ M S a w) {o:Oper} {x:Operand} {r:List Operand} {ts:Array Nat} {big:Bool} (ho:o.op=.call {callee:=.builtin (if big then .max else .min),args:=(x::r).toArray,argTypes:=ts})
  {f:Name→Option (Ob A)} {v:V} (hr:Rd.Runs f (vmm big (evV G st x) (r.map (evV G st))) v ns):OpRuns P a o w (Sat R E (st.app o.dst {dst:=v})):=by
 obtain⟨v',k1,k2⟩:=vmm_sound (P:=P) (w:=w) (h.ev hG x) (h.evs hG r) hr
 refine sat_pure h k2 ?_
 unfold execOp
 rw[ho]
 cases big with
 | true=>simp only[if_true] at k1 ⊢;simp[resolve,invoke,builtin,Builtin.max_,k1]
 | false=>simp only[Bool.false_eq_true,if_false] at k1 ⊢;simp[resolve,invoke,builtin,Builtin.min_,k1]
theorem append_sound [Deep A] (hR:RepOk R) (hT:TOk P T) (hG:GOk G E.M0) (h:Rel R E st ρ M S a w) {s g:Nat} {o₀:Option (Ob A)} (hs:st.objs[s]?=some (g,o₀)) {o:Oper} (hd:o.dst=some s) {x y:Operand} {t e:Nat}
  (ho:o.op=.call {callee:=.builtin .append,args:=#[x,y],argTypes:=#[t,t]}) (hk:(T.at t).kind=.slice e) (hsz:(T.at e).size≠0) {r:V×List (Name×Option (Ob A))}
  (hr:Rd.Runs st.get (vappendK (s+1,g+1) (T.at e) (evV G st x) (evV G st y)) r ns):OpRuns P a o w (Sat R E (st.app o.dst {dst:=r.1,objs:=r.2})):=by
 obtain⟨v',w',ρ',M',S',k1,k2,k3⟩:=vappendK_sound (P:=P) (ty:=o.type) hR hT h hs (hT.slice hk) hsz (h.ev hG x) (h.ev hG y) hr
 refine⟨_,w',?_,.inl ⟨v',rfl,ρ',M',S',k2.put o.dst k3⟩⟩
 unfold execOp
 rw[ho]
 simp[resolve,invoke,builtin,k1]
theorem copy_sound (hT:TOk P T) (hG:GOk G E.M0) (h:Rel R E st ρ M S a w) {o:Oper} {x y:Operand} {t u e:Nat}
  (ho:o.op=.call {callee:=.builtin .copy,args:=#[x,y],argTypes:=#[t,u]}) (hk:(T.at t).kind=.slice e) (hsz:(T.at e).size≠0)
  (hsame:(T.at e).size=vszOf (T.at e).size (evV G st x)) {r:V×List (Name×Option (Ob A))}
  (hr:Rd.Runs st.get (vcopy (evV G st x) (evV G st y)) r ns):OpRuns P a o w (Sat R E (st.app o.dst {dst:=r.1,objs:=r.2})):=by
 obtain⟨v',w',k1,k2,k3⟩:=vcopy_sound (P:=P) (u:=u) (ty:=o.type) h (hT.slice hk) (hT.size hsz) (h.ev hG x) (h.ev hG y) hsame hr
 refine⟨_,w',?_,.inl ⟨v',rfl,ρ,M,S,k2.put o.dst k3⟩⟩
 unfold execOp
 rw[ho]
 simp[resolve,invoke,builtin,k1]
theorem vop_sound [Deep A] (hR:RepOk R) (hT:TOk P T) (hF:FOk P T flat) (hG:GOk G E.M0) (h:Rel R E st ρ M S a w) {o:Oper} {eff:Eff A} (hr:Rd.Runs st.get (vstep T flat G st o) eff ns) :
  OpRuns P a o w (Sat R E (st.app o.dst eff)):=by
 obtain⟨dst,op,type,pos,after,guard⟩:=o
 have hstore:∀t p x,Rd.Runs st.get ((vstore (T.at t) (evV G st p) (evV G st x)).bind fun l=>.ret {dst:=.undef,objs:=l}) eff ns→
   OpRuns P a ⟨dst,.store t p x,type,pos,after,guard⟩ w (Sat R E (st.app dst eff)):=by
  intro t p x hr
  obtain⟨l,n1,n2,h1,hr,_⟩:=hr.bind_inv
  replace hr:=Runs.ret hr;subst hr
  obtain⟨w',k1,k2⟩:=vstore_sound hR hT h (h.ev hG p) (h.ev hG x) h1
  refine⟨.skip,w',?_,.inr ⟨rfl,ρ,M,S,k2.put dst (.undef _)⟩⟩
  simp[execOp,k1]
 have hcopy:∀(d:Name) (as:Array Operand) (ts:Array TypeId),Rd.Runs st.get (vop T flat d (evV G st) ⟨dst,.call {callee:=.builtin .copy,args:=as,argTypes:=ts},type,pos,after,guard⟩) eff ns→
   OpRuns P a ⟨dst,.call {callee:=.builtin .copy,args:=as,argTypes:=ts},type,pos,after,guard⟩ w (Sat R E (st.app dst eff)):=by
  intro d as ts hr
  obtain⟨as⟩:=as
  obtain⟨ts⟩:=ts
  match as,ts,hr with
  | [x,y],[t,u],hr=>
   simp only[vop] at hr
   split at hr
   ·rename_i e hk
    replace hr:=Runs.when hr
    obtain⟨h1,hr⟩:=hr
    simp only[Bool.and_eq_true,Bool.not_eq_true',beq_eq_false_iff_ne,ne_eq,beq_iff_eq] at h1
    obtain⟨r,n1,n2,h2,hr,_⟩:=hr.bind_inv
    replace hr:=Runs.ret hr;subst hr
    exact copy_sound hT hG h rfl hk h1.1 h1.2 h2
   ·cases hr
  | [],_,hr=>cases hr
  | [_],_,hr=>cases hr
  | _::_::_::_,_,hr=>cases hr
  | [_,_],[],hr=>cases hr
  | [_,_],[_],hr=>cases hr
  | [_,_],_::_::_::_,hr=>cases hr
 cases dst with
 | none=>
  simp only[vstep] at hr
  cases op with
  | store t p x=>exact hstore t p x hr
  | call c=>
   obtain⟨callee,as,ts⟩:=c
   cases callee with
   | builtin b=>cases b<;>first|exact hcopy _ _ _ hr|cases hr
   | value=>cases hr
   | invoke=>cases hr
  | _=>cases hr
 | some s=>
  simp only[vstep] at hr
  cases hs:lget st.objs s with
  | none=>rw[hs] at hr;cases hr
  | some p=>
   rw[hs] at hr
   simp only at hr
   rw[lget_eq] at hs
   obtain⟨g,o₀⟩:=p
   simp only at hr
   cases op with
   | move x=>replace hr:=Runs.ret hr;subst hr;exact sat_pure h (h.ev hG x) rfl
   | assign x=>replace hr:=Runs.ret hr;subst hr;exact sat_pure h (h.ev hG x) rfl
   | pick c x y=>
    simp only[vop] at hr
    obtain⟨v,n1,n2,h1,hr,_⟩:=hr.bind_inv
    replace hr:=Runs.ret hr;subst hr
    have hc:=h.ev hG c
    unfold vpick at h1
    split at h1
    ·rename_i e
     rw[e] at hc
     generalize ha:a.eval c=av at hc
     cases hc
     replace h1:=Runs.ret h1;subst h1
     exact sat_pure h (h.ev hG x) (by simp[execOp,ha,asBool])
    ·rename_i e
     rw[e] at hc
     generalize ha:a.eval c=av at hc
     cases hc
     replace h1:=Runs.ret h1;subst h1
     exact sat_pure h (h.ev hG y) (by simp[execOp,ha,asBool])
    ·cases h1
   | alloc t=>
    simp only[vop] at hr
    replace hr:=Runs.when hr
    obtain⟨hsz,hr⟩:=hr
    replace hr:=Runs.ret hr;subst hr
    exact alloc_sound hT h hs rfl rfl (by simpa using hsz)
   | box t x=>
    simp only[vop] at hr
    replace hr:=Runs.when hr
    obtain⟨h1,hr⟩:=hr
    replace hr:=Runs.ret hr;subst hr
    obtain⟨ρ',S',k1,k2⟩:=h.newBox hs ((h.ev hG x).cells_one h1) t
    exact sat_new rfl k1 k2 (by simp[execOp,Instr.box,newVar,newRow,newObj,Sem.run])
   | build t ps=>
    simp only[vop] at hr
    obtain⟨v,n1,n2,h1,hr,_⟩:=hr.bind_inv
    replace hr:=Runs.ret hr;subst hr
    have hp:=h.evp hG ps.toList
    obtain⟨v',k1,k2⟩:=vbuild_sound (P:=P) (w:=w) hT (parts':=(ps.toList.map fun p=>(p.1,a.eval p.2)).toArray) (by simpa using hp) h1
    refine sat_pure h k2 (exec_v (s:=Instr.build t (ps.map fun(i,x)=>(i,a.eval x))) rfl ?_)
    rw[←k1];congr 2
    rw[←Array.toList_map]
   | buildSlice t len ps=>
    simp only[vop] at hr
    split at hr
    ·rename_i e hk
     replace hr:=Runs.when hr
     obtain⟨h1,hr⟩:=hr
     simp only[Bool.and_eq_true,decide_eq_true_eq,Bool.not_eq_true',beq_eq_false_iff_ne,ne_eq] at h1
     obtain⟨es,n1,n2,h2,hr,_⟩:=hr.bind_inv
     replace hr:=Runs.ret hr;subst hr
     exact bs_sound hT hG h hs rfl rfl hk h1.2 h1.1 h2
    ·cases hr
   | load t p=>
    simp only[vop] at hr
    obtain⟨v,n1,n2,h1,hr,_⟩:=hr.bind_inv
    replace hr:=Runs.ret hr;subst hr
    obtain⟨v',k1,k2⟩:=vload_sound hR hT h (h.ev hG p) h1
    exact sat_pure h k2 (exec_v (s:=Instr.loadAt t (a.eval p)) rfl k1)
   | store t p x=>exact hstore t p x hr
   | nilCheck x=>
    simp only[vop] at hr
    replace hr:=Runs.when hr
    obtain⟨h1,hr⟩:=hr
    replace hr:=Runs.ret hr;subst hr
    obtain⟨p,hp⟩:=(h.ev hG x).pointer h1
    have hx:=h.ev hG x
    refine sat_pure h hx ?_
    simp[execOp,hp]
   | binOp op t x y yt=>
    simp only[vop] at hr
    obtain⟨v,n1,n2,h1,hr,_⟩:=hr.bind_inv
    replace hr:=Runs.ret hr;subst hr
    obtain⟨v',k1,k2⟩:=vbin_sound (P:=P) (w:=w) (x:=x) (y:=y) hT hF (h.ev hG x) (h.ev hG y) h1
    exact sat_pure h k2 (exec_v (s:=binRun op t x y (a.eval x) (a.eval y)) rfl k1)
   | unOp op t x=>
    simp only[vop] at hr
    obtain⟨v,n1,n2,h1,hr,_⟩:=hr.bind_inv
    replace hr:=Runs.ret hr;subst hr
    obtain⟨v',k1,k2⟩:=vun_sound (P:=P) (w:=w) (h.ev hG x) h1
    exact sat_pure h k2 (exec_v (s:=Op.unary op (a.eval x)) rfl k1)
   | convert src t x=>
    simp only[vop] at hr
    split at hr
    ·rename_i k' k k2 n e1 e2 e3
     replace hr:=Runs.ret hr;subst hr
     have hx:=h.ev hG x
     rw[e3] at hx
     generalize ha:a.eval x=av at hx
     cases hx
     exact sat_pure h (.int _ _) (exec_v (s:=convert src t (a.eval x)) rfl (by rw[ha];exact vconvert_run (hT.int e1) (hT.int e2)))
    ·cases hr
   | makeSlice t l c=>
    simp only[vop] at hr
    split at hr
    ·rename_i e k l' k' c' hk e1 e2
     replace hr:=Runs.when hr
     obtain⟨hsz,hr⟩:=hr
     have hsz:(T.at e).size≠0:=by simpa using hsz
     replace hr:=Runs.need hr
     obtain⟨hb,hr⟩:=hr
     replace hr:=Runs.ret hr;subst hr
     have hl:=h.ev hG l
     have hc:=h.ev hG c
     rw[e1] at hl
     rw[e2] at hc
     generalize hla:a.eval l=la at hl
     generalize hca:a.eval c=ca at hc
     cases hl;cases hc
     obtain⟨z,z1,z2⟩:=vmake_run (P:=P) (w:=w) hT (hT.slice hk) hsz (k:=k) (k':=k') hb
     have hzs:z.cells.toList.length=(T.at e).size:=by
      obtain⟨_,_,_,_,_,_,q,_,q2⟩:=(hT.size hsz).info
      rw[←q2];exact(z1 ρ M).1.symm
     obtain⟨_,_,_,_,_,_,_,_,q2⟩:=(hT.size hsz).info
     have hrep:∀x∈List.replicate c'.toNat (T.at e).zero,x.length=(T.at e).size:=fun x hx=>by rw[List.eq_of_mem_replicate hx];exact q2
     have hrel:=flatten_replicate_rel (z1 ρ M) c'.toNat
     have hlen:c'.toNat*(T.at e).size≤(List.replicate c'.toNat z.cells.toList).flatten.length:=by
      rw[←hrel.1,flatten_length _ hrep];simp
     obtain⟨ρ',S',q3,q4⟩:=h.newRow false hs (sz:=(T.at e).size) (es:=List.replicate l'.toNat (T.at e).zero) (cs':=(List.replicate c'.toNat z.cells.toList).flatten) (cap:=c'.toNat) hlen (by simp;omega)
      (fun x hx=>by rw[List.eq_of_mem_replicate hx];exact q2) (fun i k e' v he hv=>by
       have he':(List.replicate c'.toNat (T.at e).zero)[i]?=some e':=by
        rw[List.getElem?_replicate] at he ⊢
        split at he
        ·rw[if_pos (by omega)];exact he
        ·cases he
       have:=cells_of_flat (rest:=[]) hrep hrel i k e' v he' hv
       simpa using this) e
     rw[List.length_replicate] at q4
     refine sat_new rfl q3 q4 (exec_v (s:=Instr.makeSlice t (a.eval l) (a.eval c)) rfl ?_)
     rw[hla,hca,z2]
    ·cases hr
   | slice t x lo hi mx=>
    simp only[vop] at hr
    obtain⟨v,n1,n2,h1,hr,_⟩:=hr.bind_inv
    replace hr:=Runs.ret hr;subst hr
    obtain⟨v',k1,k2⟩:=vslice_sound (P:=P) (w:=w) hT (h.ev hG x) (h.evo hG lo) (h.evo hG hi) (h.evo hG mx) h1
    exact sat_pure h k2 (exec_v (s:=Instr.sliceAt t (a.eval x) (lo.map a.eval) (hi.map a.eval) (mx.map a.eval)) rfl k1)
   | fieldAddr t x f=>
    simp only[vop] at hr
    obtain⟨v,n1,n2,h1,hr,_⟩:=hr.bind_inv
    replace hr:=Runs.ret hr;subst hr
    obtain⟨v',k1,k2⟩:=vfieldAddr_sound (P:=P) (w:=w) hT (h.ev hG x) h1
    exact sat_pure h k2 (exec_v (s:=Instr.fieldAt t (a.eval x) f) rfl k1)
   | field t x f=>
    simp only[vop] at hr
    obtain⟨v,n1,n2,h1,hr,_⟩:=hr.bind_inv
    replace hr:=Runs.ret hr;subst hr
    obtain⟨v',k1,k2⟩:=vfield_sound (P:=P) (w:=w) hT (h.ev hG x) h1
    exact sat_pure h k2 (exec_v (s:=Instr.field t (a.eval x) f) rfl k1)
   | indexAddr t x i=>
    simp only[vop] at hr
    obtain⟨v,n1,n2,h1,hr,_⟩:=hr.bind_inv
    replace hr:=Runs.ret hr;subst hr
    obtain⟨v',k1,k2⟩:=vindexAddr_sound (P:=P) (w:=w) hT (h.ev hG x) (h.ev hG i) h1
    exact sat_pure h k2 (exec_v (s:=Instr.indexAt t (a.eval x) (a.eval i)) rfl k1)
   | index t x i=>
    simp only[vop] at hr
    obtain⟨v,n1,n2,h1,hr,_⟩:=hr.bind_inv
    replace hr:=Runs.ret hr;subst hr
    obtain⟨v',k1,k2⟩:=vindex_sound (P:=P) (w:=w) hT (h.ev hG x) (h.ev hG i) h1
    exact sat_pure h k2 (exec_v (s:=Instr.index t (a.eval x) (a.eval i)) rfl k1)
   | extract x i=>
    simp only[vop] at hr
    split at hr
    ·rename_i vs e
     replace hr:=Runs.opt hr
     obtain⟨v,h1,hr⟩:=hr
     replace hr:=Runs.ret hr;subst hr
     have hx:=h.ev hG x
     rw[e] at hx
     generalize ha:a.eval x=av at hx
     cases hx with
     | @tup _ cs' q1 q2=>
      rw[lget_eq] at h1
      obtain⟨v',k1,k2⟩:=VsRel.get (show VsRel ρ M vs cs' from⟨q1,q2⟩) h1
      refine sat_pure h k2 (exec_v (s:=Instr.extract (a.eval x) i) rfl ?_)
      rw[ha]
      simp[Instr.extract,k1]
    ·cases hr
   | call c=>
    obtain⟨callee,as,ts⟩:=c
    obtain⟨as⟩:=as
    obtain⟨ts⟩:=ts
    cases callee with
    | value=>simp only[vop] at hr;cases hr
    | invoke=>simp only[vop] at hr;cases hr
    | builtin b=>
     cases b with
     | copy=>exact hcopy _ _ _ hr
     | len=>
      match as,ts,hr with
      | [x],[t],hr=>
       simp only[vop] at hr
       split at hr
       ·rename_i e hk
        obtain⟨v,n1,n2,h1,hr,_⟩:=hr.bind_inv
        replace hr:=Runs.ret hr;subst hr
        exact len_sound hT hG h rfl hk h1
       ·cases hr
      | [],_,hr=>cases hr
      | [_],[],hr=>cases hr
      | [_],_::_::_,hr=>cases hr
      | _::_::_,_,hr=>cases hr
     | append=>
      match as,ts,hr with
      | [x,y],[t,u],hr=>
       simp only[vop] at hr
       split at hr
       ·rename_i e e' hk hk'
        replace hr:=Runs.when hr
        obtain⟨h1,hr⟩:=hr
        simp only[Bool.and_eq_true,Bool.not_eq_true',beq_eq_false_iff_ne,ne_eq,beq_iff_eq] at h1
        obtain⟨h1,rfl⟩:=h1
        obtain⟨r,n1,n2,h2,hr,_⟩:=hr.bind_inv
        replace hr:=Runs.ret hr;subst hr
        exact append_sound hR hT hG h hs rfl rfl hk h1 h2
       ·cases hr
      | [],_,hr=>cases hr
      | [_],_,hr=>cases hr
      | _::_::_::_,_,hr=>cases hr
      | [_,_],[],hr=>cases hr
      | [_,_],[_],hr=>cases hr
      | [_,_],_::_::_::_,hr=>cases hr
     | min=>
      match as,hr with
      | x::r,hr=>
       simp only[vop] at hr
       obtain⟨v,n1,n2,h1,hr,_⟩:=hr.bind_inv
       replace hr:=Runs.ret hr;subst hr
       exact mm_sound (big:=false) hG h rfl h1
      | [],hr=>cases hr
     | max=>
      match as,hr with
      | x::r,hr=>
       simp only[vop] at hr
       obtain⟨v,n1,n2,h1,hr,_⟩:=hr.bind_inv
       replace hr:=Runs.ret hr;subst hr
       exact mm_sound (big:=true) hG h rfl h1
      | [],hr=>cases hr
     | _=>cases hr
   | _=>cases hr
end Go.Vm
