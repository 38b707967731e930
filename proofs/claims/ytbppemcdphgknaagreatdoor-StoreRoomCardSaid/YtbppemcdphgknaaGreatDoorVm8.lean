/- A part of the proofs over the seat YtbppemcdphgknaaGreatDoor. -/
import Derived.Test.YtbppemcdphgknaaGreatDoorVm7
set_option linter.unusedVariables false
set_option linter.unusedSimpArgs false
namespace Go.Vm
open Go
variable {P:Program} {T:TT} {A:Type} {R:Rep A} {E:Env} {st:St A} {ρ:Rho} {M:Mem} {S:Name→List Nat} {a:Act} {w:World} {ns:List Name}
theorem Rel.M_new (h:Rel R E st ρ M S a w) (o:Nat):M w.heap.size o=none:=by
 cases hm:M w.heap.size o with
 | none=>rfl
 | some v=>
  have:=World.block_lt_of_cell? w _ (h.mem _ _ _ hm)
  simp at this
theorem heap_alloc_lt (w:World) (o:Obj) {k:Nat} (hk:k<w.heap.size):(w.alloc o).heap[k]?=w.heap[k]?:=by
 show(w.heap.push o)[k]?=_
 rw[Array.getElem?_push,if_neg (Nat.ne_of_lt hk)]
theorem heap_alloc_self (w:World) (o:Obj):(w.alloc o).heap[w.heap.size]?=some o:=by
 show(w.heap.push o)[w.heap.size]?=_
 rw[Array.getElem?_push,if_pos rfl]
theorem Rho.le_new (h:Rel R E st ρ M S a w) {s g:Nat} {o₀:Option (Ob A)} (hs:st.objs[s]?=some (g,o₀)) (x:Nat×Nat×Nat) :
  ρ.le (fun n=>if n=(s+1,g+1) then some x else ρ n):=by
 have hfr:ρ (s+1,g+1)=none:=h.fresh s (g+1) (fun p hp=>by rw[hs] at hp;cases hp;simp)
 intro n y hy
 by_cases e:n=(s+1,g+1)
 ·rw[e,hfr] at hy;cases hy
 ·simp[e,hy]
theorem Rel.newAt (h:Rel R E st ρ M S a w) {s g:Nat} {o₀:Option (Ob A)} (hs:st.objs[s]?=some (g,o₀)) {ob:Ob A} {o:Obj} {x:Nat×Nat×Nat}
  (hob:ObRel R (fun n=>if n=(s+1,g+1) then some x else ρ n) M (w.alloc o) (s+1,g+1) [w.heap.size] ob) :
  Rel R E (st.setOb (s+1,g+1) (some ob)) (fun n=>if n=(s+1,g+1) then some x else ρ n) M (fun n=>if n=(s+1,g+1) then[w.heap.size] else S n) a (w.alloc o):=by
 refine h.new hs hob ?_ (Mem.le_refl _) (fun b o v hv=>.inl hv) (fun _ _ _ _ _ _ _=>rfl) ?_ ?_ ?_ (by simp) rfl rfl rfl
 ·intro b hb
  simp at hb;subst hb
  refine⟨by simp,.inr h.hsize,fun n ob' hn _ hb=>?_⟩
  have:=h.blt n ob' hn _ hb
  omega
 ·intro b o' v hv
  have hc:=h.mem b o' v hv
  have hlt:=World.block_lt_of_cell? w _ hc
  exact(cell?_of_heap (heap_alloc_lt w o hlt) o').trans hc
 ·intro n ob' hn _ b hb
  exact heap_alloc_lt w o (h.blt n ob' hn b hb)
 ·intro b hb _
  exact heap_alloc_lt w o (Nat.lt_of_lt_of_le hb h.hsize)
theorem Rel.newBox (h:Rel R E st ρ M S a w) {s g:Nat} {o₀:Option (Ob A)} (hs:st.objs[s]?=some (g,o₀)) {cs:List V} {cs':List Value} (hc:VsRel ρ M cs cs') (ty:TypeId) :
  ∃ρ' S',Rel R E (st.setOb (s+1,g+1) (some (.box cs))) ρ' M S' a (w.alloc (.cells cs'.toArray ty))∧VRel ρ' M (.ref (s+1,g+1) 0) (.pointer (some ⟨w.heap.size,0,none⟩)):=by
 have hle:=Rho.le_new h hs (w.heap.size,0,cs.length)
 refine⟨_,_,h.newAt hs (x:=(w.heap.size,0,cs.length)) ⟨w.heap.size,ty,cs',rfl,by simp,heap_alloc_self w _,hc.mono hle (Mem.le_refl _),h.M_new⟩,?_⟩
 exact .ref (b:=w.heap.size) (o:=0) (c:=cs.length) (by simp)
theorem Rel.newRowL (fz:Bool) (h:Rel R E st ρ M S a w) {s g:Nat} {o₀:Option (Ob A)} (hs:st.objs[s]?=some (g,o₀)) {sz:Nat} {es:List (List V)} {cs':List Value} {cap:Nat}
  (hcap:cap*sz≤cs'.length) (hlen:es.length≤cap) (hsz:∀e∈es,e.length=sz)
  (hc:∀(i k:Nat) (e:List V) (v:V),es[i]?=some e→e[k]?=some v→∃v',cs'[i*sz+k]?=some v'∧VRel ρ M v v') (ty:TypeId) :
  ∃ρ' S',Rel R E (st.setOb (s+1,g+1) (some (.row sz es fz))) ρ' M S' a (w.alloc (.cells cs'.toArray ty))∧VRel ρ' M (.rsl (s+1,g+1) sz 0 es.length) (.slice (some ⟨w.heap.size,0,none⟩) es.length cap)∧ρ.le ρ':=by
 have hle:=Rho.le_new h hs (w.heap.size,0,cap*sz)
 refine⟨_,_,h.newAt hs (x:=(w.heap.size,0,cap*sz)) (.inl ⟨w.heap.size,0,cap*sz,ty,cs',rfl,by simp,heap_alloc_self w _,by simpa using hcap,Nat.mul_le_mul_right _ hlen,hsz,fun i k e v he hv=>?_,fun j hj=>absurd (h.M_new j) hj⟩),?_,hle⟩
 ·obtain⟨v',e1,e2⟩:=hc i k e v he hv
  exact⟨v',by simpa using e1,e2.mono hle (Mem.le_refl _)⟩
 ·have:=VRel.rsl (ρ:=fun n=>if n=(s+1,g+1) then some (w.heap.size,0,cap*sz) else ρ n) (M:=M) (n:=(s+1,g+1)) (sz:=sz) (i:=0) (len:=es.length) (b:=w.heap.size) (o:=0) (c:=cap*sz) (cap:=cap) (by simp) (by simp) hlen
  simpa using this
theorem Rel.newRow (fz:Bool) (h:Rel R E st ρ M S a w) {s g:Nat} {o₀:Option (Ob A)} (hs:st.objs[s]?=some (g,o₀)) {sz:Nat} {es:List (List V)} {cs':List Value} {cap:Nat}
  (hcap:cap*sz≤cs'.length) (hlen:es.length≤cap) (hsz:∀e∈es,e.length=sz)
  (hc:∀(i k:Nat) (e:List V) (v:V),es[i]?=some e→e[k]?=some v→∃v',cs'[i*sz+k]?=some v'∧VRel ρ M v v') (ty:TypeId) :
  ∃ρ' S',Rel R E (st.setOb (s+1,g+1) (some (.row sz es fz))) ρ' M S' a (w.alloc (.cells cs'.toArray ty))∧VRel ρ' M (.rsl (s+1,g+1) sz 0 es.length) (.slice (some ⟨w.heap.size,0,none⟩) es.length cap):=by
 obtain⟨ρ',S',h1,h2,_⟩:=h.newRowL fz hs hcap hlen hsz hc ty
 exact⟨ρ',S',h1,h2⟩
theorem flatten_get {sz:Nat}:∀(es:List (List V)),(∀e∈es,e.length=sz)→∀(i k:Nat) (e:List V),es[i]?=some e→k<sz→es.flatten[i*sz+k]?=e[k]?
 | [],_,i,k,e,h,_=>by simp at h
 | x::r,hs,0,k,e,h,hk=>by
  simp at h;subst h
  have:=hs x (by simp)
  rw[List.flatten_cons,Nat.zero_mul,Nat.zero_add,List.getElem?_append_left (by omega)]
 | x::r,hs,i+1,k,e,h,hk=>by
  have hx:=hs x (by simp)
  rw[List.flatten_cons,List.getElem?_append_right (by rw[hx,Nat.succ_mul];omega),hx]
  have:=flatten_get r (fun e he=>hs e (by simp[he])) i k e (by simpa using h) hk
  rw[←this]
  congr 1
  rw[Nat.succ_mul];omega
theorem flatten_length {sz:Nat}:∀(es:List (List V)),(∀e∈es,e.length=sz)→es.flatten.length=es.length*sz
 | [],_=>by simp
 | x::r,hs=>by
  rw[List.flatten_cons,List.length_append,hs x (by simp),flatten_length r (fun e he=>hs e (by simp[he])),List.length_cons,Nat.succ_mul]
  omega
theorem flatten_get_inv {sz:Nat} (es:List (List V)) (hs:∀e∈es,e.length=sz) (q:Nat) (v:V) (h:es.flatten[q]?=some v) :
  ∃i k e,q=i*sz+k∧i<es.length∧k<sz∧es[i]?=some e∧e[k]?=some v:=by
 have hq:=(List.getElem?_eq_some_iff.1 h).1
 rw[flatten_length es hs] at hq
 have hpos:0<sz:=by
  rcases Nat.eq_zero_or_pos sz with h0|h0
  ·rw[h0] at hq;simp at hq
  ·exact h0
 have hi:q / sz<es.length:=(Nat.div_lt_iff_lt_mul hpos).2 hq
 have hk:q % sz<sz:=Nat.mod_lt _ hpos
 have e1:q=q / sz*sz+q % sz:=by rw[Nat.mul_comm];exact(Nat.div_add_mod q sz).symm
 have e2:es[q / sz]?=some es[q / sz]:=List.getElem?_eq_getElem hi
 refine⟨q / sz,q % sz,_,e1,hi,hk,e2,?_⟩
 rw[←flatten_get es hs (q / sz) (q % sz) _ e2 hk,←e1,h]
theorem velems_sound (h:Rel R E st ρ M S a w) {x:V} {x':Value} (hx:VRel ρ M x x') {xs:List (List V)} (hr:Rd.Runs st.get (velems x) xs ns) {sz:Nat} (hsz:∀e∈xs,e.length=sz) :
  ∃p c,x'=.slice p xs.length c∧(xs.length=0∨∃b,p=some b)∧∀k,k≤xs.length→∃news:List Value,VsRel ρ M (xs.take k).flatten news∧∀b,p=some b→∀j u,news[j]?=some u→w.cell? (b.add j)=some u:=by
 have fin:∀(b o:Nat) (vals:Nat→Nat→Value),(∀(i k:Nat) (e:List V) (v:V),xs[i]?=some e→e[k]?=some v→VRel ρ M v (vals i k))→
   (∀(i k:Nat),i<xs.length→k<sz→w.cell? ⟨b,o+(i*sz+k),none⟩=some (vals i k))→
   ∀k,k≤xs.length→∃news:List Value,VsRel ρ M (xs.take k).flatten news∧∀b',some (⟨b,o,none⟩:Addr)=some b'→∀j u,news[j]?=some u→w.cell? (b'.add j)=some u:=by
  intro b o vals h1 h2 k hk
  have hst:∀e∈xs.take k,e.length=sz:=fun e he=>hsz e (List.mem_of_mem_take he)
  have hlen:(xs.take k).flatten.length=k*sz:=by rw[flatten_length _ hst];simp[Nat.min_eq_left hk]
  refine⟨(List.range (k*sz)).map fun q=>vals (q / sz) (q % sz),⟨by simp[hlen],fun q v v' hv hv'=>?_⟩,?_⟩
  ·obtain⟨i,kk,e,rfl,hi,hkk,he,hv2⟩:=flatten_get_inv _ hst q v hv
   rw[List.getElem?_map] at hv'
   have hq:=(List.getElem?_eq_some_iff.1 hv).1
   rw[hlen] at hq
   rw[List.getElem?_range hq] at hv'
   cases hv'
   have d1:(i*sz+kk) / sz=i:=by rw[Nat.mul_comm,Nat.mul_add_div (by omega),Nat.div_eq_of_lt hkk,Nat.add_zero]
   have d2:(i*sz+kk) % sz=kk:=by rw[Nat.mul_comm,Nat.mul_add_mod,Nat.mod_eq_of_lt hkk]
   show VRel ρ M v (vals ((i*sz+kk) / sz) ((i*sz+kk) % sz))
   rw[d1,d2]
   rw[List.getElem?_take] at he
   split at he
   ·exact h1 i kk e v he hv2
   ·cases he
  ·intro b' hb' q u hu
   cases hb'
   rw[Addr.add_none]
   rw[List.getElem?_map] at hu
   by_cases hq:q<k*sz
   ·rw[List.getElem?_range hq] at hu
    cases hu
    have hpos:0<sz:=by
     rcases Nat.eq_zero_or_pos sz with h0|h0
     ·rw[h0] at hq;simp at hq
     ·exact h0
    have hi:q / sz<k:=(Nat.div_lt_iff_lt_mul hpos).2 hq
    have:=h2 (q / sz) (q % sz) (by omega) (Nat.mod_lt _ hpos)
    have e1:q / sz*sz+q % sz=q:=by rw[Nat.mul_comm];exact Nat.div_add_mod q sz
    rwa [e1] at this
   ·rw[List.getElem?_eq_none (by simp;omega)] at hu;cases hu
 have fin0:xs=[]→∀(p:Option Addr) k,k≤xs.length→∃news:List Value,VsRel ρ M (xs.take k).flatten news∧∀b,p=some b→∀j u,news[j]?=some u→w.cell? (b.add j)=some u:=by
  rintro rfl p k hk
  exact⟨[],by simpa using VsRel.nil,fun b _ j u hu=>by simp at hu⟩
 cases hx with
 | nils=>replace hr:=Runs.ret hr;subst hr;exact⟨_,_,rfl,.inl rfl,fin0 rfl _⟩
 | lst0=>replace hr:=Runs.ret hr;subst hr;exact⟨_,_,rfl,.inl rfl,fin0 rfl _⟩
 | @lst sz' es b o cap vals h1 h2 h3 h4=>
  replace hr:=Runs.ret hr;subst hr
  refine⟨_,_,rfl,.inr ⟨_,rfl⟩,fin b o vals h2 fun i k hi hk=>?_⟩
  have e:sz=sz':=by
   rw[←hsz _ (List.getElem_mem hi)];exact h1 _ (List.getElem_mem hi)
  subst e
  exact h.mem _ _ _ (h3 i k hi hk)
 | @rsl n sz' i len b o c cap hn hc hl=>
  simp only[velems] at hr
  obtain⟨ob,ms,ho,hr⟩:=Runs.look hr
  cases ob with
  | row sz2 es fz=>
   replace hr:=Runs.when hr
   obtain⟨hs,hr⟩:=hr
   replace hr:=Runs.need hr
   obtain⟨hb,hr⟩:=hr
   replace hr:=Runs.ret hr
   subst hr
   obtain rfl:sz'=sz2:=by simpa using hs
   rcases h.objs n _ ho with⟨b1,o1,c1,ty,cs',e1,e2,e3,e4,e5,e6,e7,e8⟩|⟨rfl,_⟩
   case inr=>
    obtain rfl:len=0:=by simp at hb;omega
    exact⟨_,_,by rw[List.take_zero];rfl,.inl (by simp),fin0 (by simp) _⟩
   rw[hn] at e2;cases e2
   have hlen:((es.drop i).take len).length=len:=by simp;omega
   rw[hlen] at fin ⊢
   refine⟨_,_,rfl,.inr ⟨_,rfl⟩,fin b (o+i*sz') (fun j k=>cs'.getD (o+((i+j)*sz'+k)) undef) ?_ ?_⟩
   ·intro j k e v he hv
    rw[List.getElem?_take] at he
    split at he
    ·rw[List.getElem?_drop] at he
     obtain⟨v',q1,q2⟩:=e7 _ _ _ _ he hv
     rw[List.getD_eq_getElem?_getD,q1];exact q2
    ·cases he
   ·intro j k hj hk
    have e:sz=sz':=by
     rw[←hsz _ (List.getElem_mem (n:=0) (by rw[hlen];omega))]
     exact e6 _ (List.mem_of_mem_drop (List.mem_of_mem_take (List.getElem_mem _)))
    subst e
    have hri:=row_index (sz:=sz) (show i+j<es.length by omega)
    have hlt:o+((i+j)*sz+k)<cs'.length:=by omega
    simp only[World.cell?,e3]
    rw[show o+i*sz+(j*sz+k)=o+((i+j)*sz+k) by rw[Nat.add_mul];omega]
    simp[List.getD_eq_getElem?_getD,hlt]
  | box=>cases hr
  | abs=>cases hr
  | prow=>cases hr
 | rsl0=>
  simp only[velems] at hr
  obtain⟨ob,ms,ho,hr⟩:=Runs.look hr
  cases ob with
  | row sz2 es fz=>
   replace hr:=Runs.when hr
   obtain⟨hs,hr⟩:=hr
   replace hr:=Runs.need hr
   obtain⟨hb,hr⟩:=hr
   replace hr:=Runs.ret hr
   subst hr
   exact⟨_,_,by rw[List.take_zero];rfl,.inl (by simp),fin0 (by simp) _⟩
  | box=>cases hr
  | abs=>cases hr
  | prow=>cases hr
 | asl0=>
  simp only[velems] at hr
  obtain⟨ob,ms,ho,hr⟩:=Runs.look hr
  cases ob with
  | box cs=>
   replace hr:=Runs.need hr
   obtain⟨hb,hr⟩:=hr
   replace hr:=Runs.ret hr
   subst hr
   exact⟨_,_,rfl,.inl rfl,fin0 rfl _⟩
  | row=>cases hr
  | abs=>cases hr
  | prow=>cases hr
 | @asl n sz' off len cap b o c hn hl=>
  simp only[velems] at hr
  obtain⟨ob,ms,ho,hr⟩:=Runs.look hr
  cases ob with
  | box cs=>
   replace hr:=Runs.need hr
   obtain⟨hb,hr⟩:=hr
   replace hr:=Runs.ret hr
   subst hr
   obtain⟨b1,ty,cs',e1,e2,e3,e4,_⟩:=h.objs n _ ho
   rw[hn] at e2;cases e2
   have hch:∀(m:Nat) (l:List V),(chunks sz' m l).length=m:=by
    intro m
    induction m with
    | zero=>intro l;rfl
    | succ m ih=>intro l;simp[chunks,ih]
   have hcg:∀(m:Nat) (l:List V) (j k:Nat) (e:List V) (v:V),(chunks sz' m l)[j]?=some e→e[k]?=some v→l[j*sz'+k]?=some v∧k<sz':=by
    intro m
    induction m with
    | zero=>intro l j k e v h1;simp[chunks] at h1
    | succ m ih=>
     intro l j k e v h1 h2
     cases j with
     | zero=>
      simp[chunks] at h1;subst h1
      rw[List.getElem?_take] at h2
      split at h2
      ·rename_i hk;exact⟨by simpa using h2,hk⟩
      ·cases h2
     | succ j=>
      simp[chunks] at h1
      obtain⟨q1,q2⟩:=ih _ j k e v h1 h2
      rw[List.getElem?_drop] at q1
      exact⟨by rw[←q1];congr 1;rw[Nat.succ_mul];omega,q2⟩
   rw[hch] at fin ⊢
   refine⟨_,_,rfl,.inr ⟨_,rfl⟩,fin b (0+off) (fun j k=>cs'.getD (off+(j*sz'+k)) undef) ?_ ?_⟩
   ·intro j k e v he hv
    obtain⟨q1,q2⟩:=hcg _ _ _ _ _ _ he hv
    rw[List.getElem?_drop] at q1
    obtain⟨v',p1,p2⟩:=e4.get q1
    rw[List.getD_eq_getElem?_getD,p1];exact p2
   ·intro j k hj hk
    have hlen0:∀(m:Nat) (l:List V),m*sz'≤l.length→∀e∈chunks sz' m l,e.length=sz':=by
     intro m
     induction m with
     | zero=>intro l _ e he;simp[chunks] at he
     | succ m ih=>
      intro l hl e he
      rw[Nat.succ_mul] at hl
      simp only[chunks,List.mem_cons] at he
      rcases he with rfl|he
      ·simp;omega
      ·exact ih _ (by simp;omega) e he
    have hmem:=List.getElem_mem (l:=chunks sz' len (cs.drop off)) (n:=0) (by rw[hch];omega)
    have e:sz=sz':=by
     rw[←hsz _ hmem]
     exact hlen0 _ _ (by simp;omega) _ hmem
    subst e
    have hri:=row_index (sz:=sz) hj
    have hlt:off+(j*sz+k)<cs'.length:=by rw[←e4.1];omega
    simp only[World.cell?,e3]
    rw[show 0+off+(j*sz+k)=off+(j*sz+k) by omega]
    simp[List.getD_eq_getElem?_getD,hlt]
  | row=>cases hr
  | abs=>cases hr
  | prow=>cases hr
 | _=>cases hr
end Go.Vm
