/- A part of the proofs over the seat YtbppemcdphgknaaGreatDoor. -/
import Derived.Test.YtbppemcdphgknaaGreatDoorVm6
set_option linter.unusedVariables false
set_option linter.unusedSimpArgs false
namespace Go.Vm
open Go
variable {P:Program} {T:TT} {A:Type} {R:Rep A} {E:Env} {st:St A} {ρ:Rho} {M:Mem} {S:Name→List Nat} {a:Act} {w:World} {ns:List Name}
theorem lput_length {α:Type} (cs:List α) (off:Nat) (new:List α) (h:off+new.length≤cs.length):(lput cs off new).length=cs.length:=by
 simp[lput];omega
theorem lput_get {α:Type} (cs:List α) (off:Nat) (new:List α) (h:off+new.length≤cs.length) (i:Nat) :
  (lput cs off new)[i]?=if off≤i∧i<off+new.length then new[i-off]? else cs[i]?:=by
 unfold lput
 rw[List.getElem?_append]
 have hl:(cs.take off).length=off:=by simp;omega
 rw[hl]
 by_cases h1:i<off
 ·rw[if_pos h1,if_neg (by omega),List.getElem?_take,if_pos h1]
 ·rw[if_neg h1,List.getElem?_append]
  by_cases h2:i<off+new.length
  ·rw[if_pos (by omega),if_pos ⟨by omega,h2⟩]
  ·rw[if_neg (by omega),if_neg (by omega),List.getElem?_drop]
   congr 1
   omega
theorem VsRel.lput {cs:List V} {cs':List Value} {new:List V} {new':List Value} {off:Nat} (h:VsRel ρ M cs cs') (hn:VsRel ρ M new new') (hl:off+new.length≤cs.length) :
  VsRel ρ M (lput cs off new) (lput cs' off new'):=by
 have hl':off+new'.length≤cs'.length:=by rw[←hn.1,←h.1];exact hl
 refine⟨by rw[lput_length _ _ _ hl,lput_length _ _ _ hl',h.1],fun i v v' hv hv'=>?_⟩
 rw[lput_get _ _ _ hl] at hv
 rw[lput_get _ _ _ hl',←hn.1] at hv'
 split at hv
 ·rename_i hc;rw[if_pos hc] at hv';exact hn.2 _ _ _ hv hv'
 ·rename_i hc;rw[if_neg hc] at hv';exact h.2 _ _ _ hv hv'
theorem VsRel.ones {l:List V} {l':List Value} (h:VsRel ρ M l l') (h1:l.all V.one=true):∀v∈l',v.oneCell'=true:=by
 intro v hv
 obtain⟨i,hi,rfl⟩:=List.mem_iff_getElem.1 hv
 have hi':i<l.length:=by rw[h.1];exact hi
 have:=h.2 i l[i] l'[i] (List.getElem?_eq_getElem hi') (List.getElem?_eq_getElem hi)
 exact VsRel.one this (List.all_eq_true.1 h1 _ (List.getElem_mem hi'))
theorem VRel.cells_one {v:V} {v':Value} (h:VRel ρ M v v') (h1:v.cells.all V.one=true):VsRel ρ M v.cells v'.cells.toList:=by
 refine h.cells ?_
 rintro rfl
 simp[V.cells,V.one] at h1
theorem okCs_all:∀{l:List V},okCs l→∀c∈l,okC 0 c
 | [],_,_,h=>by cases h
 | [x],h,c,hc=>by simp at hc;subst hc;exact h
 | x::y::r,h,c,hc=>by
  rcases List.mem_cons.1 hc with rfl|hc
  ·exact h.1
  ·exact okCs_all h.2 c hc
theorem run_storeVar_block {t:TypeId} (hT:TIok P T (T.at t) t) {b o:Nat} {ty:TypeId} {cs':List Value} (hb:w.heap[b]?=some (.cells cs'.toArray ty (0,0))) {v':Value} (hl:v'.cells.toList.length=(T.at t).size)
  (ho:o+(T.at t).size≤cs'.length) (h1:∀c∈v'.cells.toList,c.oneCell'=true) :
  (storeVar t ⟨b,o,none⟩ v').run P w=.ok () (w.setRow b (lput cs' o v'.cells.toList).toArray):=by
 have hsz:v'.cells.size=(T.at t).size:=by simpa using hl
 have:=run_storeCells_at P b o ty v'.cells.toList 0 cs'.toArray w hb (by simp at hl ⊢;omega) h1
 simp only[storeVar,Sem.run_bind,hT.run_size w,Result.andThen_ok,hsz,ne_eq,not_true_eq_false,if_false]
 simp only[pure_bind,this,Nat.add_zero]
 simp[lput]
theorem vstore_sound [Deep A] (hR:RepOk R) (hT:TOk P T) (h:Rel R E st ρ M S a w) {t:Nat} {p x:V} {p' x':Value} (hp:VRel ρ M p p') (hx:VRel ρ M x x') {l:List (Name×Option (Ob A))}
  (hr:Rd.Runs st.get (vstore (T.at t) p x) l ns) :
  ∃w',(Instr.storeAt t p' x').run P w=.ok () w'∧Rel R E (l.foldl (fun s x=>s.setOb x.1 x.2) st) ρ M S a w':=by
 unfold vstore at hr
 replace hr:=Runs.when hr
 obtain⟨hc,hr⟩:=hr
 simp only[Bool.and_eq_true,Bool.not_eq_true',beq_eq_false_iff_ne,beq_iff_eq,ne_eq] at hc
 obtain⟨⟨hc1,hc2⟩,hc3⟩:=hc
 have hti:=hT.size hc3
 have hxs:=hx.cells_one hc2
 have hones:=hxs.ones hc2
 have hlen:x'.cells.toList.length=(T.at t).size:=by rw[←hxs.1];exact hc1
 cases hp with
 | @ref n off b o c hn=>
  simp only at hr
  obtain⟨ob,ms,ho,hr⟩:=Runs.look hr
  cases ob with
  | box cs=>
   replace hr:=Runs.need hr
   obtain⟨hb,hr⟩:=hr
   replace hr:=Runs.ret hr
   subst hr
   obtain⟨b1,ty,cs',e1,e2,e3,e4,e5⟩:=h.objs n _ ho
   rw[hn] at e2;cases e2
   have hle:off+(T.at t).size≤cs'.length:=by rw[←e4.1];exact hb
   refine⟨w.setRow b (lput cs' off x'.cells.toList).toArray,?_,?_⟩
   ·simp only[Instr.storeAt,Instr.sureAddr,Nat.zero_add,pure_bind,run_storeVar_block hti e3 hlen hle hones]
   ·refine h.upd ho ⟨b,ty,lput cs' off x'.cells.toList,e1,?_,setRow_heap w b _ _ ty _ e3,e4.lput hxs (by rw[hc1];exact hb),e5⟩ (fun k hk o=>by rw[e1] at hk;simp at hk;subst hk;exact e5 o) (fun k hk=>setRow_other w b k _ (fun e=>hk (by rw[e1,e];simp))) (by simp) rfl rfl rfl
    rw[lput_length _ _ _ (by rw[hc1];exact hb)];exact hn
  | row=>cases hr
  | abs=>cases hr
  | prow=>cases hr
 | @rpt n sz i k b o c hn=>
  simp only at hr
  obtain⟨ob,ms,ho,hr⟩:=Runs.look hr
  cases ob with
  | row sz' es fz=>
   cases fz with
   | true=>cases hr
   | false=>
    replace hr:=Runs.when hr
    obtain⟨hs,hr⟩:=hr
    replace hr:=Runs.opt hr
    obtain⟨e,he,hr⟩:=hr
    replace hr:=Runs.need hr
    obtain⟨hb,hr⟩:=hr
    replace hr:=Runs.ret hr
    subst hr
    obtain rfl:sz=sz':=by simpa using hs
    rw[lget_eq] at he
    rcases h.objs n _ ho with⟨b1,o1,c1,ty,cs',e1,e2,e3,e4,e5,e6,e7,e8⟩|⟨rfl,_⟩
    case inr=>simp at he
    rw[hn] at e2;cases e2
    have hi:=(List.getElem?_eq_some_iff.1 he).1
    have hsz:=e6 e (List.mem_of_getElem? he)
    have hri:=row_index (sz:=sz) hi
    have hM:∀o,M b o=none:=by
     intro o'
     cases hm:M b o' with
     | none=>rfl
     | some v=>have:=(e8 o' (by rw[hm];simp)).1;cases this
    have hle:o+(i*sz+k)+(T.at t).size≤cs'.length:=by omega
    refine⟨w.setRow b (lput cs' (o+(i*sz+k)) x'.cells.toList).toArray,?_,?_⟩
    ·simp only[Instr.storeAt,Instr.sureAddr,pure_bind,run_storeVar_block hti e3 hlen hle hones]
    ·refine h.upd ho (.inl ⟨b,o,c,ty,lput cs' (o+(i*sz+k)) x'.cells.toList,e1,hn,setRow_heap w b _ _ ty _ e3,?_,?_,?_,?_,fun j hj=>absurd (hM j) hj⟩) (fun k' hk o=>by rw[e1] at hk;simp at hk;subst hk;exact hM o) (fun k' hk=>setRow_other w b k' _ (fun e=>hk (by rw[e1,e];simp))) (by simp) rfl rfl rfl
     ·rw[lput_length _ _ _ (by rw[hlen];exact hle)];exact e4
     ·rw[lset_eq];simpa using e5
     ·intro x hx
      rw[lset_eq] at hx
      rcases List.mem_or_eq_of_mem_set hx with hx|rfl
      ·exact e6 x hx
      ·rw[lput_length _ _ _ (by rw[hc1];exact hb)];exact hsz
     ·intro i' k' e' v he' hv
      rw[lset_eq,List.getElem?_set] at he'
      rw[lput_get _ _ _ (by rw[hlen];exact hle),hlen]
      by_cases hii:i=i'
      ·subst hii
       rw[if_pos rfl,if_pos hi] at he'
       cases he'
       rw[lput_get _ _ _ (by rw[hc1];exact hb),hc1] at hv
       by_cases hk':k≤k'∧k'<k+(T.at t).size
       ·rw[if_pos hk'] at hv
        rw[if_pos (by omega)]
        obtain⟨v',q1,q2⟩:=hxs.get hv
        exact⟨v',by rw[←q1];congr 1;omega,q2⟩
       ·rw[if_neg hk'] at hv
        rw[if_neg (by omega)]
        exact e7 i k' e v he hv
      ·rw[if_neg hii] at he'
       have hi':=(List.getElem?_eq_some_iff.1 he').1
       have hsz':=e6 e' (List.mem_of_getElem? he')
       have hk':=(List.getElem?_eq_some_iff.1 hv).1
       have:¬(o+(i*sz+k)≤o+(i'*sz+k')∧o+(i'*sz+k')<o+(i*sz+k)+(T.at t).size):=by
        rcases Nat.lt_or_gt_of_ne hii with hlt|hlt
        ·have:=row_index (sz:=sz) hlt;omega
        ·have:=row_index (sz:=sz) hlt;omega
       rw[if_neg this]
       exact e7 i' k' e' v he' hv
  | box=>cases hr
  | abs=>cases hr
  | prow=>cases hr
 | @sub n j off b o c b' o' hn hm=>
  simp only at hr
  obtain⟨ob,ms,ho,hr⟩:=Runs.look hr
  cases ob with
  | prow xs=>
   obtain⟨y,hy,hr⟩:=Runs.opt hr
   obtain⟨cs,hop,hr⟩:=plainOf_runs hr
   obtain⟨⟨hb,hok⟩,hr⟩:=Runs.need hr
   obtain⟨y',hy',hr⟩:=Runs.opt hr
   replace hr:=Runs.ret hr
   subst hr
   rw[lget_eq] at hy
   have hj:=(List.getElem?_eq_some_iff.1 hy).1
   rcases h.objs n _ ho with⟨b1,o1,c1,ty,cs',bs,Ss,e2,hp⟩|⟨rfl,_⟩
   case inr=>cases hj
   rw[hn] at e2;cases e2
   rw[hp.mem j hj] at hm;cases hm
   obtain⟨⟨ty',cs2,e1,e3,e4,e5⟩,hpure⟩:=(hR.plain hop).1 (hp.rep j y hy)
   have hop':=Deep.thingOp hy'
   have hxs':VsRel (fun _=>none) M (V.cells x) x'.cells.toList:=hxs.pure (okCs_all hok)
   have hle:off+(T.at t).size≤cs2.length:=by rw[←e4.1];exact hb
   have hbs:bs j∈Ss j:=by rw[e1];simp
   obtain⟨m1,m2⟩:=hp.mem_S
   have hbne:bs j≠b:=fun e=>hp.out j hj (by rw[←e];exact hbs)
   refine⟨w.setRow (bs j) (lput cs2 off x'.cells.toList).toArray,?_,?_⟩
   ·simp only[Instr.storeAt,Instr.sureAddr,Nat.zero_add,pure_bind,run_storeVar_block hti e3 hlen hle hones]
   ·refine h.updC (Ch:=[bs j]) ho (fun k hk=>by simp at hk;subst hk;exact m2 j hj _ hbs) (.inl ⟨b,o,c,ty,cs',bs,Ss,hn,?_⟩) (fun k hk o=>by simp at hk;subst hk;exact e5 o) (fun k hk=>setRow_other w (bs j) k _ (fun e=>hk (by simp[e]))) (by simp) rfl rfl rfl
    have hlen':(lset xs j y').length=xs.length:=by rw[lset_eq];simp
    exact {
     all:=by rw[hlen'];exact hp.all
     heap:=(setRow_other w (bs j) b _ (Ne.symm hbne)).trans hp.heap
     room:=hp.room
     fits:=by rw[hlen'];exact hp.fits
     cell:=by rw[hlen'];exact hp.cell
     mem:=by rw[hlen'];exact hp.mem
     top:=by rw[hlen'];exact hp.top
     out:=by rw[hlen'];exact hp.out
     apart:=by rw[hlen'];exact hp.apart
     rep:=fun i z hz=>by
      rw[lset_eq,List.getElem?_set] at hz
      by_cases hij:j=i
      ·subst hij
       rw[if_pos rfl,if_pos hj] at hz
       cases hz
       refine(hR.plain hop').2 ⟨⟨ty',lput cs2 off x'.cells.toList,e1,setRow_heap w (bs j) _ _ ty' _ e3,e4.lput hxs' (by rw[hc1];exact hb),e5⟩,fun c hc=>?_⟩
       unfold lput at hc
       rcases List.mem_append.1 hc with hc|hc
       ·exact hpure c (List.mem_of_mem_take hc)
       ·rcases List.mem_append.1 hc with hc|hc
        ·exact okCs_all hok c hc
        ·exact hpure c (List.mem_of_mem_drop hc)
      ·rw[if_neg hij] at hz
       have hi:=(List.getElem?_eq_some_iff.1 hz).1
       refine R.frame (hp.rep i z hz) (Mem.le_refl _) (fun _ _ _=>rfl) fun k hk=>setRow_other w (bs j) k _ fun e=>?_
       subst e
       exact hp.apart j i hj hi hij _ hbs hk}
  | box=>cases hr
  | row=>cases hr
  | abs=>cases hr
 | _=>cases hr
end Go.Vm
