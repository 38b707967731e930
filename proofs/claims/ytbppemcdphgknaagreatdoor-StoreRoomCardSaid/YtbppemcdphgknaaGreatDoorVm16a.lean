/- A part of the proofs over the seat YtbppemcdphgknaaGreatDoor. -/
import Derived.Test.YtbppemcdphgknaaGreatDoorVm15
set_option linter.unusedVariables false
set_option linter.unusedSimpArgs false
namespace Go.Vm
open Go
theorem isSome_getElem? {α:Type} {l:List α} {i:Nat}:l[i]?.isSome=true↔i<l.length:=by simp
variable {A:Type} {E:Env} {st st':St A} {a:Act} {w:World} {T:TT} {flat:Nat→Bool} {G:Nat→V} {ns:List Name}
theorem vop_congr [Deep A] {d:Name} {ev ev':Operand→V} {o:Oper} (h:∀x∈opXs o.op,ev x=ev' x):(vop T flat d ev o:Rd A (Eff A))=vop T flat d ev' o:=by
 obtain⟨dst,op,type,pos,after,guard⟩:=o
 simp only at h
 cases op with
 | build t ps=>
  have:(ps.toList.map fun p=>(p.1,ev p.2))=ps.toList.map fun p=>(p.1,ev' p.2):=List.map_congr_left fun p hp=>by rw[h p.2 (List.mem_map.2 ⟨p,hp,rfl⟩)]
  simp only[vop,this]
 | buildSlice t len ps=>
  have:(ps.toList.map fun p=>(p.1,ev p.2))=ps.toList.map fun p=>(p.1,ev' p.2):=List.map_congr_left fun p hp=>by rw[h p.2 (List.mem_map.2 ⟨p,hp,rfl⟩)]
  simp only[vop,this]
 | slice t x lo hi mx=>
  have h0:ev x=ev' x:=h x (by simp[opXs])
  have h1:lo.map ev=lo.map ev':=by
   cases lo with
   | none=>rfl
   | some y=>simp only[Option.map_some];rw[h y (by simp[opXs])]
  have h2:hi.map ev=hi.map ev':=by
   cases hi with
   | none=>rfl
   | some y=>simp only[Option.map_some];rw[h y (by simp[opXs])]
  have h3:mx.map ev=mx.map ev':=by
   cases mx with
   | none=>rfl
   | some y=>simp only[Option.map_some];rw[h y (by simp[opXs])]
  simp only[vop,h0,h1,h2,h3]
 | call c=>
  obtain⟨callee,as,ts⟩:=c
  obtain⟨as⟩:=as
  obtain⟨ts⟩:=ts
  have hm:∀l:List Operand,(∀x∈l,x∈as)→l.map ev=l.map ev':=fun l hl=>List.map_congr_left fun x hx=>h x (by simpa[opXs] using hl x hx)
  have h1:∀x∈as,ev x=ev' x:=fun x hx=>h x (by simpa[opXs] using hx)
  simp only[vop]
  split
  ·rename_i x t;simp only[h1 x (by simp)]
  ·rename_i s x t u;simp only[h1 x (by simp),h1 s (by simp)]
  ·rename_i s x t u;simp only[h1 x (by simp),h1 s (by simp)]
  ·rename_i x r;simp only[h1 x (by simp),hm r (fun y hy=>by simp[hy])]
  ·rename_i x r;simp only[h1 x (by simp),hm r (fun y hy=>by simp[hy])]
  ·rfl
 | alloc t=>rfl
 | _=>first|rfl|(simp[opXs] at h;simp only[vop,h];done)|(simp only[opXs,List.mem_cons,List.not_mem_nil,or_false,forall_eq_or_imp,forall_eq] at h;simp only[vop,h];done)
def agree (s s':St A) (l:Loc):Prop:=(l.1=0→s.tmps[l.2]?=s'.tmps[l.2]?)∧(l.1=1→s.objs[l.2]?=s'.objs[l.2]?)∧(l.1=2→s.arena[l.2]?=s'.arena[l.2]?)
theorem agree.refl (s:St A) (l:Loc):agree s s l:=⟨fun _=>rfl,fun _=>rfl,fun _=>rfl⟩
theorem agree.symm {s s':St A} {l:Loc} (h:agree s s' l):agree s' s l:=⟨fun e=>(h.1 e).symm,fun e=>(h.2.1 e).symm,fun e=>(h.2.2 e).symm⟩
theorem agree.trans {s s' s'':St A} {l:Loc} (h:agree s s' l) (h':agree s' s'' l):agree s s'' l:=
 ⟨fun e=>(h.1 e).trans (h'.1 e),fun e=>(h.2.1 e).trans (h'.2.1 e),fun e=>(h.2.2 e).trans (h'.2.2 e)⟩
theorem St.ext_agree {s s':St A} (h:∀l,agree s s' l):s=s':=by
 obtain⟨t,o,a⟩:=s
 obtain⟨t',o',a'⟩:=s'
 have h1:t=t':=List.ext_getElem? fun i=>(h (0,i)).1 rfl
 have h2:o=o':=List.ext_getElem? fun i=>(h (1,i)).2.1 rfl
 have h3:a=a':=List.ext_getElem? fun i=>(h (2,i)).2.2 rfl
 rw[h1,h2,h3]
theorem set_agree {α:Type} {l l':List α} {i:Nat} (h:l[i]?=l'[i]?) (j:Nat) (v:α):(l.set j v)[i]?=(l'.set j v)[i]?:=by
 rw[List.getElem?_set,List.getElem?_set]
 by_cases e:j=i
 ·subst e
  rw[if_pos rfl,if_pos rfl]
  have:(j<l.length)↔(j<l'.length):=by
   rw[←isSome_getElem?,←isSome_getElem?,h]
  by_cases hj:j<l.length
  ·rw[if_pos hj,if_pos (this.1 hj)]
  ·rw[if_neg hj,if_neg (fun h=>hj (this.2 h))]
 ·rw[if_neg e,if_neg e];exact h
theorem agree.put {s s':St A} {l:Loc} (h:agree s s' l) (d:Option Tmp) (v:V):agree (s.put d v) (s'.put d v) l:=by
 cases d with
 | none=>exact h
 | some d=>
  refine⟨fun e=>?_,h.2.1,h.2.2⟩
  simp only[St.put,lset_eq]
  exact set_agree (h.1 e) d v
theorem agree.setOb {s s':St A} {l:Loc} (h:agree s s' l) (n:Name) (o:Option (Ob A)):agree (s.setOb n o) (s'.setOb n o) l:=by
 obtain⟨n1,g⟩:=n
 cases n1 with
 | zero=>
  refine⟨h.1,h.2.1,fun e=>?_⟩
  simp only[St.setOb,lset_eq]
  exact set_agree (h.2.2 e) _ _
 | succ k=>
  refine⟨h.1,fun e=>?_,h.2.2⟩
  simp only[St.setOb,lset_eq]
  exact set_agree (h.2.1 e) _ _
theorem agree_put {s:St A} {l:Loc} {d:Option Tmp} {v:V} (h:l∉dstLocs 0 d):agree (s.put d v) s l:=by
 cases d with
 | none=>exact agree.refl _ _
 | some d=>
  refine⟨fun e=>?_,fun _=>rfl,fun _=>rfl⟩
  have:d≠l.2:=fun e'=>h (by simp only[dstLocs,List.mem_singleton];exact Prod.ext e e'.symm)
  simp only[St.put,lset_eq]
  rw[List.getElem?_set_ne this]
theorem agree_setOb {s:St A} {l:Loc} {n:Name} {o:Option (Ob A)} (h:l≠locOf n):agree (s.setOb n o) s l:=by
 obtain⟨n1,g⟩:=n
 cases n1 with
 | zero=>
  refine⟨fun _=>rfl,fun _=>rfl,fun e=>?_⟩
  have:g≠l.2:=fun e'=>h (Prod.ext e e'.symm)
  simp only[St.setOb,lset_eq]
  rw[List.getElem?_set_ne this]
 | succ k=>
  refine⟨fun _=>rfl,fun e=>?_,fun _=>rfl⟩
  have:k≠l.2:=fun e'=>h (Prod.ext e e'.symm)
  simp only[St.setOb,lset_eq]
  rw[List.getElem?_set_ne this]
theorem agree.obs {l:Loc}:∀(obs:Objs A) {s s':St A},agree s s' l→agree (obs.foldl (fun s x=>s.setOb x.1 x.2) s) (obs.foldl (fun s x=>s.setOb x.1 x.2) s') l
 | [],_,_,h=>h
 | x::r,_,_,h=>agree.obs r (h.setOb x.1 x.2)
theorem agree_obs {l:Loc}:∀(obs:Objs A) {s:St A},l∉obs.map (fun x=>locOf x.1)→agree (obs.foldl (fun s x=>s.setOb x.1 x.2) s) s l
 | [],_,_=>agree.refl _ _
 | x::r,s,h=>by
  simp only[List.map_cons,List.mem_cons,not_or] at h
  exact(agree_obs r h.2).trans (agree_setOb h.1)
structure Rc (A:Type) where
 dst:Option Tmp
 eff:Option (Eff A)
 fp:Fp
def Rc.ap (r:Rc A) (s:St A):St A:=match r.eff with
 | some e=>s.app r.dst e
 | none=>s.put r.dst (.tup [])
def Rc.fits (r:Rc A):Prop:=r.fp.outs=match r.eff with
 | some e=>dstLocs 0 r.dst++e.objs.map fun x=>locOf x.1
 | none=>dstLocs 0 r.dst
theorem Rc.agree (r:Rc A) {s s':St A} {l:Loc} (h:Vm.agree s s' l):Vm.agree (r.ap s) (r.ap s') l:=by
 unfold Rc.ap
 split
 ·exact(agree.obs _ h).put _ _
 ·exact h.put _ _
theorem Rc.agree_of {r:Rc A} (hf:r.fits) {s:St A} {l:Loc} (h:l∉r.fp.outs):Vm.agree (r.ap s) s l:=by
 unfold Rc.fits at hf
 unfold Rc.ap
 rw[hf] at h
 split
 ·rename_i e he
  rw[he] at h
  simp only[List.mem_append,not_or] at h
  exact(agree_put h.1).trans (agree_obs _ h.2)
 ·rename_i he
  rw[he] at h
  exact agree_put h
def sD (d:Nat→Bool):List (Rc A)→Nat→St A→St A
 | [],_,s=>s
 | r::rs,i,s=>sD d rs (i+1) (if d i then r.ap s else s)
theorem sD_agree {d d':Nat→Bool} {l:Loc}:∀{rs:List (Rc A)} {i:Nat} {s s':St A},(∀r∈rs,r.fits)→Vm.agree s s' l→
  (∀k r,rs[k]?=some r→l∈r.fp.outs→d (i+k)=d' (i+k))→Vm.agree (sD d rs i s) (sD d' rs i s') l
 | [],_,_,_,_,h,_=>h
 | r::rs,i,s,s',hf,h,hd=>by
  rw[sD,sD]
  refine sD_agree (rs:=rs) (fun x hx=>hf x (by simp[hx])) ?_ fun k r' hk hl=>?_
  ·have h0:=hd 0 r rfl
   have hfr:=hf r (by simp)
   by_cases hl:l∈r.fp.outs
   ·have:=h0 hl
    simp only[Nat.add_zero] at this
    rw[this]
    split
    ·exact r.agree h
    ·exact h
   ·have h1:Vm.agree (if d i then r.ap s else s) s l:=by
     split
     ·exact Rc.agree_of hfr hl
     ·exact agree.refl _ _
    have h2:Vm.agree (if d' i then r.ap s' else s') s' l:=by
     split
     ·exact Rc.agree_of hfr hl
     ·exact agree.refl _ _
    exact h1.trans (h.trans h2.symm)
  ·have:=hd (k+1) r' (by simpa using hk) hl
   rwa [show i+(k+1)=i+1+k by omega] at this
theorem sD_none {d:Nat→Bool}:∀{rs:List (Rc A)} {i:Nat} {s:St A},(∀k,i≤k→d k=false)→sD d rs i s=s
 | [],_,_,_=>rfl
 | r::rs,i,s,h=>by
  rw[sD,h i (Nat.le_refl _),if_neg (by simp)]
  exact sD_none fun k hk=>h k (by omega)
theorem sD_last {d d':Nat→Bool} {j:Nat} {r:Rc A}:∀{rs:List (Rc A)} {i:Nat} {s:St A},i≤j→rs[j-i]?=some r→(∀k,k<j→d' k=d k)→d' j=true→(∀k,j≤k→d k=false)→(∀k,j<k→d' k=false)→
  sD d' rs i s=r.ap (sD d rs i s)
 | [],_,_,_,hr,_,_,_,_=>by simp at hr
 | x::rs,i,s,hij,hr,h1,h2,h3,h4=>by
  by_cases e:i=j
  ·subst e
   simp only[Nat.sub_self,List.getElem?_cons_zero,Option.some.injEq] at hr
   subst hr
   rw[sD,sD,h2,h3 i (Nat.le_refl _),if_pos rfl,if_neg (by simp),sD_none (d:=d') fun k hk=>h4 k (by omega),sD_none (d:=d) fun k hk=>h3 k (by omega)]
  ·rw[sD,sD,h1 i (by omega)]
   refine sD_last (by omega) ?_ h1 h2 h3 h4
   rw[show j-i=(j-(i+1))+1 by omega] at hr
   simpa using hr
theorem mem_tmpLocs {t:Nat}:∀{xs:List Operand},Operand.tmp t∈xs→(0,t)∈tmpLocs xs
 | [],h=>by cases h
 | y::r,h=>by
  rcases List.mem_cons.1 h with rfl|h
  ·simp[tmpLocs]
  ·have:=mem_tmpLocs h
   cases y<;>simp only[tmpLocs]<;>first|exact List.mem_cons_of_mem _ this|exact this
theorem evV_agree {st st':St A} {xs:List Operand} (h:∀l∈tmpLocs xs,agree st st' l):∀x∈xs,evV G st x=evV G st' x:=by
 intro x hx
 cases x with
 | tmp t=>
  have:=(h _ (mem_tmpLocs hx)).1 rfl
  simp only at this
  simp only[evV,lget_eq]
  rw[this]
 | _=>rfl
theorem get_agree {st st':St A} {n:Name} (h:agree st st' (locOf n)):st.get n=st'.get n:=by
 obtain⟨n1,g⟩:=n
 cases n1 with
 | zero=>have:=h.2.2 rfl;simp only[locOf] at this;simp only[St.get,this]
 | succ s=>have:=h.2.1 rfl;simp only[locOf] at this;simp only[St.get,this]
theorem vguard_agree {all:List Oper} {o:Oper} {X Y:Prop} (h:∀l∈guardTmp all o,agree st st' l) (hv:vguard all st o X Y):vguard all st' o X Y:=by
 unfold vguard at *
 unfold guardTmp at h
 cases hg:o.guard with
 | none=>rw[hg] at hv;exact hv
 | some p=>
  obtain⟨j,want⟩:=p
  rw[hg] at hv h
  have:gval all st' j=gval all st j:=by
   simp only at h
   unfold gval
   cases hj:lget all j with
   | none=>rfl
   | some oj=>
    rw[hj] at h
    simp only at h ⊢
    cases hd:oj.dst with
    | none=>rfl
    | some d=>
     rw[hd] at h
     have:=(h (0,d) (by simp[dstLocs])).1 rfl
     simp only at this
     simp only[lget_eq,this]
  simp only[this]
  exact hv
theorem callOf_xs {o:Oper} {f:FuncId} {xs:List Operand} (h:callOf o=some (f,xs)):opXs o.op=xs:=by
 unfold callOf at h
 split at h
 ·rename_i c hc
  split at h
  ·simp only[Option.some.injEq,Prod.mk.injEq] at h
   rw[hc];exact h.2
  ·cases h
 ·cases h
theorem OneRuns.agree [Deep A] {C:Cx A} {o:Oper} {eff:Eff A} {ns:List Name} (h:OneRuns C st o eff ns) (h1:∀l∈tmpLocs (opXs o.op),Vm.agree st st' l) (h2:∀l∈dstLocs 1 o.dst,Vm.agree st st' l) (h3:∀n∈ns,Vm.agree st st' (locOf n)):OneRuns C st' o eff ns:=by
 have hget:∀n∈ns,st'.get n=st.get n:=fun n hn=>(get_agree (h3 n hn)).symm
 unfold OneRuns at *
 split at h
 ·rename_i f xs hc
  obtain⟨x,n1,k1,k⟩:=h
  rw[callOf_xs hc] at h1
  have:xs.map (evV C.G st')=xs.map (evV C.G st):=List.map_congr_left fun y hy=>(evV_agree h1 y hy).symm
  rcases k with⟨har,rfl,k2,k3⟩|⟨p,n2,e,k2,rfl,k3,rfl⟩|⟨s2,e,rfl,k2,k3,rfl⟩
  ·exact⟨x,_,by rw[this];exact k1.of_agree hget,.inl ⟨har,rfl,k2,k3⟩⟩
  ·refine⟨x,n1,by rw[this];exact k1.of_agree fun n hn=>hget n (List.mem_append_left _ hn),.inr (.inl ⟨p,n2,e,k2.of_agree fun n hn=>?_,rfl,?_,rfl⟩)⟩
   ·exact(get_agree (agree.obs x.2 (h3 n (List.mem_append_right _ hn)))).symm
   ·refine pone_congr (fun s hs=>?_) k3
    rw[hs] at h2
    have:=(agree.obs x.2 (h2 (1,s) (by simp[dstLocs]))).2.1 rfl
    simp only at this
    simp only[lget_eq]
    exact this
  ·refine⟨x,n1,by rw[this];exact k1.of_agree fun n hn=>hget n (List.mem_append_left _ hn),.inr (.inr ⟨s2,e,rfl,k2,pfresh_congr (fun s hs=>?_) ?_ k3,rfl⟩)⟩
   ·rw[hs] at h2
    have:=(agree.obs x.2 (h2 (1,s) (by simp[dstLocs]))).2.1 rfl
    simp only at this
    simp only[lget_eq]
    exact this
   ·rw[lget_eq,lget_eq]
    exact(agree.obs x.2 (h3 (s2+1,0) (by simp))).2.1 rfl
 ·rename_i hc
  have hv:∀d,(vop C.T C.flat d (evV C.G st') o:Rd A (Eff A))=vop C.T C.flat d (evV C.G st) o:=fun d=>vop_congr fun y hy=>(evV_agree h1 y hy).symm
  have:(vstep C.T C.flat C.G st' o:Rd A (Eff A))=vstep C.T C.flat C.G st o:=by
   unfold vstep
   simp only[hv]
   split
   ·rename_i s hs
    rw[hs] at h2
    have:=(h2 (1,s) (by simp[dstLocs])).2.1 rfl
    simp only at this
    simp only[lget_eq,this]
   ·rfl
  show Rd.Runs st'.get (vstep C.T C.flat C.G st' o) eff ns
  rw[this]
  exact h.of_agree hget
end Go.Vm
