/- A part of the proofs over the seat YtbppemcdphgknaaGreatDoor. -/
import Derived.Test.YtbppemcdphgknaaGreatDoorVm8
set_option linter.unusedVariables false
set_option linter.unusedSimpArgs false
namespace Go.Vm
open Go
variable {P:Program} {T:TT} {A:Type} {R:Rep A} {E:Env} {st:St A} {ρ:Rho} {M:Mem} {S:Name→List Nat} {a:Act} {w:World} {ns:List Name}
theorem flatten_ones {xs:List (List V)} {sz:Nat} (h:allOne xs sz):xs.flatten.all V.one=true:=by
 rw[List.all_flatten]
 exact List.all_eq_true.2 fun e he=>(h e he).2
theorem run_firstCells_any {size n c:Nat} {p:Option Addr} {news:List Value} (hl:news.length=n*size) (hp:n=0∨∃b,p=some b) (h:∀b,p=some b→∀j u,news[j]?=some u→w.cell? (b.add j)=some u) {m:Nat} :
  (Builtin.firstCells size n (.slice p m c)).run P w=.ok news.toArray w:=by
 cases p with
 | some b=>exact run_firstCells_some w size n b m c news hl (h b rfl)
 | none=>
  obtain rfl:n=0:=by rcases hp with h|⟨b,h⟩<;>first|exact h|cases h
  have:news=[]:=List.eq_nil_of_length_eq_zero (by simpa using hl)
  subst this
  exact run_firstCells_none w size 0 m c
theorem run_append_in {t ty e:TypeId} {i:TypeInfo} (ht:P.underlying t=some (.slice e)) (hi:P.info? e=some i) {b o sLen sCap m c:Nat} {q:Option Addr} {ety:TypeId} {cs' news:List Value}
  (hb:w.heap[b]?=some (.cells cs'.toArray ety (0,0))) (hl:news.length=m*i.size) (hp:m=0∨∃b,q=some b) (h:∀b,q=some b→∀j u,news[j]?=some u→w.cell? (b.add j)=some u)
  (h1:∀u∈news,u.oneCell'=true) (hroom:sLen+m≤sCap) (hfit:o+sLen*i.size+news.length≤cs'.length) :
  (Builtin.append_ #[t,t] ty #[.slice (some ⟨b,o,none⟩) sLen sCap,.slice q m c]).run P w=.ok (.slice (some ⟨b,o,none⟩) (sLen+m) sCap) (w.setRow b (lput cs' (o+sLen*i.size) news).toArray):=by
 have hf:=run_firstCells_any (P:=P) (w:=w) (c:=c) (m:=m) hl hp h
 have hst:=run_storeCells_at P b (o+sLen*i.size) ety news 0 cs'.toArray w hb (by simpa using hfit) h1
 simp only[Nat.add_zero] at hst
 simp[Builtin.append_,run_underlying ht,sizeOf,typeInfo,hi,Builtin.lenOf,hroom,hf,Addr.add_lit,hst,lput]
theorem run_append_zero {t ty e:TypeId} {i:TypeInfo} (ht:P.underlying t=some (.slice e)) (hi:P.info? e=some i) {p q:Option Addr} {c:Nat} :
  (Builtin.append_ #[t,t] ty #[.slice p 0 0,.slice q 0 c]).run P w=.ok (.slice p 0 0) w:=by
 have hf:=run_firstCells_any (P:=P) (w:=w) (size:=i.size) (n:=0) (c:=c) (m:=0) (p:=q) (news:=[]) (by simp) (.inl rfl) (fun b _ j u hu=>by simp at hu)
 cases p with
 | none=>simp[Builtin.append_,run_underlying ht,sizeOf,typeInfo,hi,Builtin.lenOf,hf]
 | some a=>simp[Builtin.append_,run_underlying ht,sizeOf,typeInfo,hi,Builtin.lenOf,hf,storeCells]
theorem run_append_out {t ty e:TypeId} {i:TypeInfo} {z:Value} (ht:P.underlying t=some (.slice e)) (hi:P.info? e=some i) (hz:i.zero=some z) {p:Option Addr} {b:Addr} {sLen sCap m c:Nat} {olds news:List Value}
  (hp:p=none→sLen=0∧sCap=0) (hlo:olds.length=sLen*i.size) (holds:∀b,p=some b→∀j v,olds[j]?=some v→w.cell? (b.add j)=some v)
  (hl:news.length=m*i.size) (hnews:∀j v,news[j]?=some v→w.cell? (b.add j)=some v) (hg:sCap<sLen+m) (h63:sLen+m≤9223372036854775807) (hb:(sLen+m)*i.bytes≤140737488355328) :
  (Builtin.append_ #[t,t] ty #[.slice p sLen sCap,.slice (some b) m c]).run P w =
   .ok (.slice (some ⟨w.heap.size,0,none⟩) (sLen+m) (grownCap w (sLen+m) sCap e))
    (w.drew.alloc (.cells (olds++news++(Builtin.zeroCells z.cells (grownCap w (sLen+m) sCap e-(sLen+m))).toList).toArray e)):=by
 cases p with
 | none=>
  obtain⟨rfl,rfl⟩:=hp rfl
  have:olds=[]:=List.eq_nil_of_length_eq_zero (by simpa using hlo)
  subst this
  have:=run_append_nil (P:=P) w t ty e i z ht hi hz b m c news hl hnews (by omega) (by omega) (by simp only[Nat.zero_add] at hb;omega)
  rw[Nat.zero_add,this]
  congr 2
  simp[Builtin.zeroCells]
 | some p=>
  have:=run_append_grow (P:=P) w t ty e i z ht hi hz p sLen sCap olds hlo (holds p rfl) b m c news hl hnews hg (by omega) (growslice_fits hg hb)
  rw[this]
  congr 2
  simp[Builtin.zeroCells]
theorem size_zeroCells' (z:Array Value) (n:Nat):(Builtin.zeroCells z n).size=n*z.size:=by simp[Builtin.zeroCells]
theorem cells_of_flat {es:List (List V)} {sz:Nat} (hs:∀e∈es,e.length=sz) {l rest:List Value} (h:VsRel ρ M es.flatten l) (i k:Nat) (e:List V) (v:V) (he:es[i]?=some e) (hv:e[k]?=some v) :
  ∃v',(l++rest)[i*sz+k]?=some v'∧VRel ρ M v v':=by
 have hk:=(List.getElem?_eq_some_iff.1 hv).1
 rw[hs e (List.mem_of_getElem? he)] at hk
 have:=flatten_get es hs i k e he hk
 rw[hv] at this
 obtain⟨v',q1,q2⟩:=h.get this
 exact⟨v',by rw[List.getElem?_append_left (List.getElem?_eq_some_iff.1 q1).1];exact q1,q2⟩
theorem St.objs_kill {n:Name} {ob:Ob A} (hn:st.get n=some ob) {s g:Nat} {o₀:Option (Ob A)} (hs:st.objs[s]?=some (g,o₀)):∃o₁,(st.setOb n none).objs[s]?=some (g,o₁):=by
 obtain⟨n1,n2⟩:=n
 cases n1 with
 | zero=>exact⟨o₀,hs⟩
 | succ m=>
  have hm:=St.get_slot_gen hn
  simp only[St.setOb,lset_eq]
  by_cases e:m=s
  ·subst e
   rw[hs] at hm;cases hm
   exact⟨none,List.getElem?_set_self (List.getElem?_eq_some_iff.1 hs).1⟩
  ·exact⟨o₀,by rw[List.getElem?_set_ne e];exact hs⟩
theorem allOne.len {xs:List (List V)} {sz:Nat} (h:allOne xs sz):∀e∈xs,e.length=sz:=fun e he=>(h e he).1
theorem vappend_sound (hT:TOk P T) (h:Rel R E st ρ M S a w) {s g:Nat} {o₀:Option (Ob A)} (hs:st.objs[s]?=some (g,o₀)) {t ty e:TypeId} (ht:P.underlying t=some (.slice e)) (hsz:(T.at e).size≠0)
  {x y:V} {x' y':Value} (hx:VRel ρ M x x') (hy:VRel ρ M y y') {r:V×List (Name×Option (Ob A))} (hr:Rd.Runs st.get (vappend (s+1,g+1) (T.at e) x y) r ns) :
  ∃v' w' ρ' S',(Builtin.append_ #[t,t] ty #[x',y']).run P w=.ok v' w'∧Rel R E (r.2.foldl (fun s x=>s.setOb x.1 x.2) st) ρ' M S' a w'∧VRel ρ' M r.1 v'∧ρ.le ρ':=by
 have hti:=hT.size hsz
 obtain⟨ti,z,hi,hi1,hi2,hi3,_,_,hi6⟩:=hti.info
 have hz1:z.cells.size=(T.at e).size:=by
  have:=hti.run_zero (P:=P) w
  obtain⟨z',hz',hz2,_,hz4⟩:=this
  have e1:z'=z:=by simp[zeroValue,typeInfo,hi,hi3] at hz';exact hz'.symm
  subst e1
  have:=(hz2 ρ M).1
  simp at this
  omega
 unfold vappend at hr
 replace hr:=hr.bind_inv
 obtain⟨xs,n1,n2,h1,hr,_⟩:=hr
 replace hr:=Runs.need hr
 obtain⟨hone,hr⟩:=hr
 obtain⟨q,c,rfl,hq0,hnews⟩:=velems_sound h hy h1 hone.len
 obtain⟨news,hn1,hn2⟩:=hnews xs.length (Nat.le_refl _)
 rw[List.take_length] at hn1
 have hnl:news.length=xs.length*ti.size:=by rw[←hn1.1,flatten_length _ hone.len,hi1]
 have hno:=hn1.ones (flatten_ones hone)
 have grown:∀(olde:List (List V)) (olds:List Value) (p:Option Addr) (sCap:Nat),(∀e'∈olde,e'.length=(T.at e).size)→VsRel ρ M olde.flatten olds→(p=none→olde.length=0∧sCap=0)→
   (∀b,p=some b→∀j v,olds[j]?=some v→w.cell? (b.add j)=some v)→sCap<olde.length+xs.length→olde.length≤sCap→(olde.length+xs.length)*(T.at e).bytes≤roomBound→olde.length+xs.length≤9223372036854775807→
   ∀(fz:Bool) st1,Rel R E st1 ρ M S a w→(∃o₁,st1.objs[s]?=some (g,o₁))→
   ∃v' w' ρ' S',(Builtin.append_ #[t,t] ty #[.slice p olde.length sCap,.slice q xs.length c]).run P w=.ok v' w'∧Rel R E (st1.setOb (s+1,g+1) (some (.row (T.at e).size (olde++xs) fz))) ρ' M S' a w'∧
    VRel ρ' M (.rsl (s+1,g+1) (T.at e).size 0 (olde.length+xs.length)) v'∧ρ.le ρ':=by
  intro olde olds p sCap g1 g2 g3 g4 g5 g6 g7 g8 fz st1 hst1 ⟨o₁,hs1⟩
  obtain⟨b,rfl⟩:∃b,q=some b:=by
   rcases hq0 with h0|h0
   ·omega
   ·exact h0
  have hrun:=run_append_out (P:=P) (w:=w) (ty:=ty) (c:=c) ht hi hi3 (p:=p) (b:=b) (sLen:=olde.length) (sCap:=sCap) (m:=xs.length) (olds:=olds) (news:=news) g3 (by rw[←g2.1,flatten_length _ g1,hi1]) g4 hnl (hn2 b rfl) g5 g8 (by rw[hi2];simp only[roomBound] at g7;omega)
  have hcap:=grownCap_ge w (olde.length+xs.length) sCap e
  have hw:Rel R E st1 ρ M S a w.drew:=hst1.world rfl rfl rfl rfl
  have hall:∀e'∈olde++xs,e'.length=(T.at e).size:=by
   intro e' he'
   rcases List.mem_append.1 he' with he'|he'
   ·exact g1 e' he'
   ·exact hone.len e' he'
  obtain⟨ρ',S',k1,k2,k3⟩:=hw.newRowL fz hs1 (sz:=(T.at e).size) (es:=olde++xs) (cs':=olds++news++(Builtin.zeroCells z.cells (grownCap w (olde.length+xs.length) sCap e-(olde.length+xs.length))).toList)
   (cap:=grownCap w (olde.length+xs.length) sCap e) (by
    simp only[List.length_append,Array.length_toList,size_zeroCells',hz1,hnl,←g2.1,flatten_length _ g1,hi1,←Nat.add_mul]
    exact Nat.mul_le_mul_right _ (by omega)) (by simpa using hcap) hall (fun i k e' v he hv=>by
    have:=cells_of_flat (rest:=(Builtin.zeroCells z.cells (grownCap w (olde.length+xs.length) sCap e-(olde.length+xs.length))).toList) hall (l:=olds++news) (ρ:=ρ) (M:=M) (by rw[List.flatten_append];exact g2.append hn1) i k e' v he hv
    exact this) e
  refine⟨_,_,ρ',S',hrun,k1,?_⟩
  have:(olde++xs).length=olde.length+xs.length:=by simp
  rw[this] at k2
  exact⟨k2,k3⟩
 cases x with
 | nils=>
  obtain⟨p,rfl⟩:∃p,x'=.slice p 0 0:=by cases hx;exact⟨_,rfl⟩
  simp only at hr
  cases xs with
  | nil=>
   replace hr:=Runs.ret hr
   subst hr
   exact⟨_,w,ρ,S,run_append_zero ht hi,h,.nils,Rho.le_refl _⟩
  | cons x0 xr=>
   replace hr:=Runs.need hr
   obtain⟨hb,hr⟩:=hr
   replace hr:=Runs.ret hr
   subst hr
   have hpos:0<(T.at e).size:=Nat.pos_of_ne_zero hsz
   have:=grown [] [] p 0 (by simp) (by simpa using VsRel.nil) (fun _=>⟨rfl,rfl⟩) (fun b _ j v hv=>by simp at hv) (by simp) (by simp) (by simpa using hb.1) (by
    have:=hb.2
    simp only[roomBound] at this;simp only[List.length_nil];omega) false st h ⟨_,hs⟩
   simpa using this
 | rsl n sz j len=>
  simp only at hr
  obtain⟨ob,ms,ho,hr⟩:=Runs.look hr
  cases ob with
  | box=>cases hr
  | abs=>cases hr
  | prow=>cases hr
  | row sz' es fz=>
   replace hr:=Runs.when hr
   obtain⟨hss,hr⟩:=hr
   replace hr:=Runs.need hr
   obtain⟨⟨hb1,hb2,hb3,hb4⟩,hr⟩:=hr
   replace hr:=Runs.ret hr
   subst hr
   simp only[Bool.and_eq_true,beq_iff_eq] at hss
   obtain⟨rfl,rfl⟩:=hss
   rcases h.objs n _ ho with⟨b,o,c1,ety,cs',e1,e2,e3,e4,e5,e6,e7,e8⟩|⟨rfl,e1,b,o,e2⟩
   case inr=>
    simp only[List.length_nil] at hb1
    obtain⟨rfl,rfl⟩:j=0∧len=0:=by omega
    obtain⟨p,rfl⟩:∃p,x'=.slice p 0 0:=by
     cases hx with
     | @rsl _ _ _ _ b' o' c' cap hn hcap hlc=>
      rw[e2] at hn;cases hn
      have hpos:0<(T.at e).size:=Nat.pos_of_ne_zero hsz
      obtain rfl:cap=0:=by
       rcases Nat.eq_zero_or_pos cap with h0|h0
       ·exact h0
       ·have:=Nat.mul_pos h0 hpos
        rw[Nat.zero_add] at hcap;omega
      exact⟨_,rfl⟩
     | rsl0=>exact⟨_,rfl⟩
    have hst1:Rel R E (st.setOb n none) ρ M S a w:=h.kill ho
    obtain⟨o₁,hs1⟩:=St.objs_kill ho hs
    cases hxe:xs with
    | nil=>
     subst hxe
     refine⟨_,w,_,_,run_append_zero ht hi,hst1.new hs1 (x:=(b,o,0)) (T:=[]) (M':=M) (w':=w) (.inr ⟨by simp,rfl,b,o,by simp⟩) (fun _ hk=>by cases hk) (Mem.le_refl _) (fun _ _ _ hv=>.inl hv) (fun _ _ _ _ _ _ _=>rfl) h.mem (fun _ _ _ _ _ _=>rfl) (fun _ _ _=>rfl) (Nat.le_refl _) rfl rfl rfl,.rsl0,Rho.le_new hst1 hs1 _⟩
    | cons x0 xr=>
     rw[←hxe]
     have hpos:0<xs.length:=by rw[hxe];simp
     have:=grown [] [] p 0 (by simp) (by simpa using VsRel.nil) (fun _=>⟨rfl,rfl⟩) (fun b _ j v hv=>by simp at hv) (by simpa using hpos) (by simp) (by simpa using hb3) (by simp only[roomBound] at hb4;simp only[List.length_nil];omega) fz _ hst1 ⟨_,hs1⟩
     simpa using this
   have hlen:((es.drop j).take len).length=len:=by simp;omega
   have hold:∀e'∈(es.drop j).take len,e'.length=(T.at e).size:=fun e' he'=>e6 e' (List.mem_of_mem_drop (List.mem_of_mem_take he'))
   have hall:∀e'∈(es.drop j).take len++xs,e'.length=(T.at e).size:=by
    intro e' he'
    rcases List.mem_append.1 he' with he'|he'
    ·exact hold e' he'
    ·exact hone.len e' he'
   have hst1:Rel R E (st.setOb n none) ρ M S a w:=h.kill ho
   obtain⟨o₁,hs1⟩:=St.objs_kill ho hs
   have hM:∀jj,M b jj≠none→fz=true∧jj<o+(j+len)*(T.at e).size:=by
    intro jj hj
    obtain⟨q1,q2⟩:=e8 jj hj
    exact⟨q1,by rw[hb2 q1];exact q2⟩
   have key:∀n' ob',(st.setOb n none).get n'=some ob'→st.get n'=some ob'∧n'≠n:=by
    intro n' ob' h'
    rcases St.get_setOb_live ho none h' with⟨_,h2⟩|⟨h1,h2⟩
    ·cases h2
    ·exact⟨h2,h1⟩
   have inplace:(j+len+xs.length)*(T.at e).size≤c1→
     ∃ρ' S',ρ.le ρ'∧Rel R E ((st.setOb n none).setOb (s+1,g+1) (some (.row (T.at e).size ((es.drop j).take len++xs) fz))) ρ' M S' a (w.setRow b (lput cs' (o+j*(T.at e).size+len*(T.at e).size) news).toArray)∧
      ∀cap,(j+cap)*(T.at e).size≤c1→len+xs.length≤cap→VRel ρ' M (.rsl (s+1,g+1) (T.at e).size 0 (len+xs.length)) (.slice (some ⟨b,o+j*(T.at e).size,none⟩) (len+xs.length) cap):=by
    intro hc
    have hnl':news.length=xs.length*(T.at e).size:=by rw[hnl,hi1]
    have hq:o+j*(T.at e).size+len*(T.at e).size+news.length≤cs'.length:=by
     rw[hnl']
     have:(j+len+xs.length)*(T.at e).size=j*(T.at e).size+len*(T.at e).size+xs.length*(T.at e).size:=by rw[Nat.add_mul,Nat.add_mul]
     omega
    have hxc:((j+len)*(T.at e).size)=j*(T.at e).size+len*(T.at e).size:=Nat.add_mul _ _ _
    have hle:=Rho.le_new hst1 hs1 (b,o+j*(T.at e).size,c1-j*(T.at e).size)
    have hjc:j*(T.at e).size≤c1:=by
     have:j*(T.at e).size≤(j+len+xs.length)*(T.at e).size:=Nat.mul_le_mul_right _ (by omega)
     omega
    refine⟨_,_,hle,hst1.new hs1 (x:=(b,o+j*(T.at e).size,c1-j*(T.at e).size)) (T:=[b]) (M':=M) (w':=w.setRow b (lput cs' (o+j*(T.at e).size+len*(T.at e).size) news).toArray)
     (.inl ⟨b,o+j*(T.at e).size,c1-j*(T.at e).size,ety,lput cs' (o+j*(T.at e).size+len*(T.at e).size) news,rfl,by simp,setRow_heap w b _ _ ety _ e3,?_,?_,hall,?_,?_⟩) ?_ (Mem.le_refl _) (fun _ _ _ hv=>.inl hv) (fun _ _ _ _ _ _ _=>rfl) ?_ ?_ ?_ (by simp) rfl rfl rfl,?_⟩
    ·rw[lput_length _ _ _ hq];omega
    ·simp only[List.length_append,hlen]
     have:(len+xs.length)*(T.at e).size+j*(T.at e).size=(j+len+xs.length)*(T.at e).size:=by rw[←Nat.add_mul];congr 1;omega
     omega
    ·intro i k e' v he' hv
     rw[lput_get _ _ _ hq,hnl']
     have hk:=(List.getElem?_eq_some_iff.1 hv).1
     rw[hall e' (List.mem_of_getElem? he')] at hk
     rw[List.getElem?_append,hlen] at he'
     by_cases hi':i<len
     ·rw[if_pos hi'] at he'
      rw[List.getElem?_take,if_pos hi',List.getElem?_drop] at he'
      have hri:=row_index (sz:=(T.at e).size) hi'
      rw[if_neg (by omega)]
      obtain⟨v',q1,q2⟩:=e7 _ k e' v he' hv
      refine⟨v',?_,q2.mono hle (Mem.le_refl _)⟩
      rw[←q1];congr 1;rw[Nat.add_mul];omega
     ·rw[if_neg hi'] at he'
      have hii:=(List.getElem?_eq_some_iff.1 he').1
      have hri:=row_index (sz:=(T.at e).size) hii
      have hsp:i*(T.at e).size=len*(T.at e).size+(i-len)*(T.at e).size:=by rw[←Nat.add_mul];congr 1;omega
      rw[if_pos (by omega)]
      have hf:=flatten_get xs hone.len (i-len) k e' he' hk
      rw[hv] at hf
      obtain⟨v',q1,q2⟩:=hn1.get hf
      refine⟨v',?_,q2.mono hle (Mem.le_refl _)⟩
      rw[←q1];congr 1;omega
    ·intro jj hj
     obtain⟨q1,q2⟩:=hM jj hj
     refine⟨q1,?_⟩
     simp only[List.length_append,hlen]
     have:(len+xs.length)*(T.at e).size=len*(T.at e).size+xs.length*(T.at e).size:=Nat.add_mul _ _ _
     omega
    ·intro k hk
     simp at hk;subst hk
     refine⟨by simpa using h.blt n _ ho _ (by rw[e1];simp),h.own n _ ho _ (by rw[e1];simp),fun n' ob' hn' hne hb'=>?_⟩
     have hn'':=key n' ob' hn'
     exact h.disj n' n ob' _ hn''.1 ho hn''.2 _ hb' (by rw[e1];simp)
    ·intro b' o' v hv
     by_cases hbb:b'=b
     ·subst hbb
      have hmm:=h.mem b' o' v hv
      simp only[World.cell?,e3] at hmm
      simp only[World.cell?,setRow_heap w b' _ _ ety _ e3]
      have hlt:=(hM o' (by rw[hv];simp)).2
      simp only[Option.isSome_none,Bool.false_eq_true,if_false,List.getElem?_toArray] at hmm ⊢
      rw[lput_get _ _ _ hq,if_neg (by omega)]
      exact hmm
     ·exact(cell?_of_heap (setRow_other w b b' _ hbb) o').trans (h.mem b' o' v hv)
    ·intro n' ob' hn' hne b' hb'
     have hn'':=key n' ob' hn'
     refine setRow_other w b b' _ fun eq=>?_
     subst eq
     exact h.disj n' n ob' _ hn''.1 ho hn''.2 _ hb' (by rw[e1];simp)
    ·intro b' hb' hb2'
     refine setRow_other w b b' _ fun eq=>?_
     subst eq
     rcases h.own n _ ho b' (by rw[e1];simp) with hh|hh
     ·exact hb2' hh
     ·omega
    ·intro cap hcap hl
     have:=VRel.rsl (ρ:=fun n=>if n=(s+1,g+1) then some (b,o+j*(T.at e).size,c1-j*(T.at e).size) else ρ n) (M:=M) (n:=(s+1,g+1)) (sz:=(T.at e).size) (i:=0) (len:=len+xs.length) (b:=b) (o:=o+j*(T.at e).size) (c:=c1-j*(T.at e).size) (cap:=cap) (by simp)
      (by rw[Nat.zero_add];rw[Nat.add_mul] at hcap;omega) hl
     simpa using this
   have hfits:∀cap,len+xs.length≤cap→(j+cap)*(T.at e).size≤c1→(j+len+xs.length)*(T.at e).size≤c1:=by
    intro cap h1 h2
    have:(j+len+xs.length)*(T.at e).size≤(j+cap)*(T.at e).size:=Nat.mul_le_mul_right _ (by omega)
    omega
   cases hx with
   | @rsl _ _ _ _ b' o' c' cap hn hcap hlc=>
    rw[hn] at e2;cases e2
    by_cases hroom:len+xs.length≤cap
    ·obtain⟨ρ',S',k0,k1,k2⟩:=inplace (hfits cap hroom hcap)
     have hq:o+j*(T.at e).size+len*(T.at e).size+news.length≤cs'.length:=by
      have:=hfits cap hroom hcap
      rw[hnl,hi1]
      rw[Nat.add_mul,Nat.add_mul] at this
      omega
     have hrun:=run_append_in (P:=P) (w:=w) (ty:=ty) (c:=c) ht hi (o:=o+j*(T.at e).size) (sLen:=len) (sCap:=cap) e3 hnl hq0 hn2 hno hroom (by rw[hi1];exact hq)
     rw[hi1] at hrun
     exact⟨_,_,ρ',S',hrun,k1,k2 cap hcap hroom,k0⟩
    ·have hrl:Rd.Runs st.get (velems (.rsl n (T.at e).size j len)) ((es.drop j).take len) [n]:=by
      refine .look ho ?_
      simp only[beq_self_eq_true,Rd.when]
      exact .need hb1 (.ret _)
     obtain⟨p2,c2,heq,_,holds⟩:=velems_sound h (VRel.rsl (M:=M) hn hcap hlc) hrl hold
     simp only[Value.slice.injEq] at heq
     obtain⟨rfl,_,rfl⟩:=heq
     obtain⟨olds,p3,p4⟩:=holds len (by rw[hlen];exact Nat.le_refl _)
     rw[List.take_of_length_le (by rw[hlen];exact Nat.le_refl _)] at p3
     have:=grown ((es.drop j).take len) olds (some ⟨b,o+j*(T.at e).size,none⟩) cap hold p3 (fun e=>by cases e) p4 (by rw[hlen];omega) (by rw[hlen];exact hlc) (by rw[hlen];exact hb3) (by rw[hlen];simp only[roomBound] at hb4;omega) fz _ hst1 ⟨_,hs1⟩
     rw[hlen] at this
     exact this
   | rsl0=>
    rename_i p
    cases hxe:xs with
    | nil=>
     subst hxe
     have hn0:news=[]:=List.eq_nil_of_length_eq_zero (by simpa using hnl)
     subst hn0
     have hj0:(j+0+([]:List (List V)).length)*(T.at e).size≤c1:=by
      have:j*(T.at e).size≤es.length*(T.at e).size:=Nat.mul_le_mul_right _ (by omega)
      simp;omega
     obtain⟨ρ',S',k0,k1,k2⟩:=inplace hj0
     have e9:(lput cs' (o+j*(T.at e).size+0*(T.at e).size) [])=cs':=by simp[lput]
     rw[e9,setRow_self w b _ ety _ e3] at k1
     exact⟨_,w,ρ',S',run_append_zero ht hi,k1,.rsl0,k0⟩
    | cons x0 xr=>
     rw[←hxe]
     have hpos:0<xs.length:=by rw[hxe];simp
     have:=grown [] [] p 0 (by simp) (by simpa using VsRel.nil) (fun _=>⟨rfl,rfl⟩) (fun b _ j v hv=>by simp at hv) (by simpa using hpos) (by simp) (by simpa using hb3) (by simp only[roomBound] at hb4;simp only[List.length_nil];omega) fz _ hst1 ⟨_,hs1⟩
     simpa using this
 | _=>cases hr
theorem run_copy_in {t u ty e:TypeId} {ti:TypeInfo} (ht:P.underlying t=some (.slice e)) (hi:P.info? e=some ti) {b o dLen dCap m c k:Nat} {q:Option Addr} {ety:TypeId} {cs' news:List Value}
  (hb:w.heap[b]?=some (.cells cs'.toArray ety (0,0))) (hk:k=Nat.min m dLen) (hl:news.length=k*ti.size) (hp:k=0∨∃b,q=some b) (h:∀b,q=some b→∀j u,news[j]?=some u→w.cell? (b.add j)=some u)
  (h1:∀u∈news,u.oneCell'=true) (hfit:o+news.length≤cs'.length) :
  (Builtin.copy_ #[t,u] ty #[.slice (some ⟨b,o,none⟩) dLen dCap,.slice q m c]).run P w=.ok (.int .i64 k) (w.setRow b (lput cs' o news).toArray):=by
 have hf:=run_firstCells_any (P:=P) (w:=w) (c:=c) (m:=m) hl hp h
 have hst:=run_storeCells_at P b o ety news 0 cs'.toArray w hb (by simpa using hfit) h1
 simp only[Nat.add_zero] at hst
 simp[Builtin.copy_,run_underlying ht,sizeOf,typeInfo,hi,Builtin.lenOf,←hk,hf,hst,lput,goInt]
theorem run_copy_zero {t u ty e:TypeId} {ti:TypeInfo} (ht:P.underlying t=some (.slice e)) (hi:P.info? e=some ti) {m c dCap:Nat} {p q:Option Addr} :
  (Builtin.copy_ #[t,u] ty #[.slice p 0 dCap,.slice q m c]).run P w=.ok (.int .i64 0) w:=by
 have hf:(Builtin.firstCells ti.size 0 (.slice q m c)).run P w=.ok #[] w:=run_firstCells_any (P:=P) (w:=w) (size:=ti.size) (n:=0) (c:=c) (m:=m) (p:=q) (news:=[]) (by simp) (.inl rfl) (fun b _ j u hu=>by simp at hu)
 cases p with
 | none=>simp[Builtin.copy_,run_underlying ht,sizeOf,typeInfo,hi,Builtin.lenOf,hf,goInt]
 | some a=>simp[Builtin.copy_,run_underlying ht,sizeOf,typeInfo,hi,Builtin.lenOf,hf,storeCells,goInt]
theorem vcopy_sound (h:Rel R E st ρ M S a w) {t u ty e:TypeId} (ht:P.underlying t=some (.slice e)) (hti:TIok P T (T.at e) e)
  {x y:V} {x' y':Value} (hx:VRel ρ M x x') (hy:VRel ρ M y y') (hsame:(T.at e).size=vszOf (T.at e).size x)
  {r:V×List (Name×Option (Ob A))} (hr:Rd.Runs st.get (vcopy x y) r ns) :
  ∃v' w',(Builtin.copy_ #[t,u] ty #[x',y']).run P w=.ok v' w'∧Rel R E (r.2.foldl (fun s x=>s.setOb x.1 x.2) st) ρ M S a w'∧VRel ρ M r.1 v':=by
 obtain⟨ti,z,hi,hi1,_⟩:=hti.info
 unfold vcopy at hr
 replace hr:=hr.bind_inv
 obtain⟨xs,n1,n2,h1,hr,_⟩:=hr
 cases x with
 | asl n sz off len cap=>
  simp only[vszOf] at hr hsame
  obtain⟨ob,ms,ho,hr⟩:=Runs.look hr
  cases ob with
  | row=>cases hr
  | abs=>cases hr
  | prow=>cases hr
  | box cs=>
   replace hr:=Runs.need hr
   obtain⟨⟨hb,hone⟩,hr⟩:=hr
   replace hr:=Runs.ret hr
   subst hr
   obtain⟨b,ety,cs',e1,e2,e3,e4,e5⟩:=h.objs n _ ho
   obtain⟨q,c,rfl,hq0,hnews⟩:=velems_sound h hy h1 hone.len
   obtain⟨news,hn1,hn2⟩:=hnews (Nat.min xs.length len) (Nat.min_le_left _ _)
   have htk:xs.take (Nat.min xs.length len)=xs.take len:=by
    rw[show Nat.min xs.length len=min xs.length len from rfl]
    rcases Nat.le_total xs.length len with hle|hle
    ·rw[Nat.min_eq_left hle,List.take_of_length_le (Nat.le_refl _),List.take_of_length_le hle]
    ·rw[Nat.min_eq_right hle]
   rw[htk] at hn1
   have hone':allOne (xs.take len) sz:=fun e' he'=>hone e' (List.mem_of_mem_take he')
   have hkl:(xs.take len).length=Nat.min xs.length len:=by rw[List.length_take];exact Nat.min_comm _ _
   have hnl:news.length=Nat.min xs.length len*ti.size:=by rw[←hn1.1,flatten_length _ hone'.len,hkl,hi1,hsame]
   have hno:=hn1.ones (flatten_ones hone')
   have hmin:Nat.min xs.length len≤len:=Nat.min_le_right _ _
   have hfl:(xs.take len).flatten.length=Nat.min xs.length len*sz:=by rw[flatten_length _ hone'.len,hkl]
   have hfit:Nat.min xs.length len*sz≤len*sz:=Nat.mul_le_mul_right _ hmin
   have hupd:Rel R E (st.setOb n (some (.box (lput cs off (xs.take len).flatten)))) ρ M S a (w.setRow b (lput cs' off news).toArray):=by
    refine h.upd ho ⟨b,ety,lput cs' off news,e1,?_,setRow_heap w b _ _ ety _ e3,e4.lput hn1 (by omega),e5⟩ (fun k hk o=>by rw[e1] at hk;simp at hk;subst hk;exact e5 o) (fun k hk=>setRow_other w b k _ (fun e=>hk (by rw[e1,e];simp))) (by simp) rfl rfl rfl
    rw[lput_length _ _ _ (by omega)];exact e2
   cases hx with
   | @asl _ _ _ _ _ b' o' c' hn hlc=>
    rw[hn] at e2;cases e2
    rw[Nat.zero_add]
    refine⟨_,_,run_copy_in ht hi (k:=Nat.min xs.length len) e3 rfl hnl (by
     rcases hq0 with h0|h0
     ·left;rw[h0];exact Nat.zero_min _
     ·exact .inr h0) hn2 hno (by rw[←e4.1,hnl,hi1,hsame];omega),hupd,?_⟩
    rw[←hkl]
    exact .int _ _
   | asl0=>
    have hn0:news=[]:=List.eq_nil_of_length_eq_zero (by rw[hnl,show Nat.min xs.length 0=0 from Nat.min_zero _];simp)
    subst hn0
    have e9:(lput cs' off [])=cs':=by simp[lput]
    rw[e9,setRow_self w b _ ety _ e3] at hupd
    exact⟨_,w,run_copy_zero ht hi,hupd,by simpa using VRel.int _ _⟩
 | rsl n sz j len=>
  simp only[vszOf] at hr hsame
  obtain⟨ob,ms,ho,hr⟩:=Runs.look hr
  cases ob with
  | box=>cases hr
  | abs=>cases hr
  | prow=>cases hr
  | row sz' es fz=>
   cases fz with
   | true=>cases hr
   | false=>
   replace hr:=Runs.when hr
   obtain⟨hs,hr⟩:=hr
   replace hr:=Runs.need hr
   obtain⟨⟨hb,hone⟩,hr⟩:=hr
   replace hr:=Runs.ret hr
   subst hr
   obtain rfl:sz=sz':=by simpa using hs
   rcases h.objs n _ ho with⟨b,o,c1,ety,cs',e1,e2,e3,e4,e5,e6,e7,e8⟩|⟨rfl,e1,b,o,e2⟩
   case inr=>
    simp only[List.length_nil] at hb
    obtain⟨rfl,rfl⟩:j=0∧len=0:=by omega
    obtain⟨q,c,rfl,hq0,hnews⟩:=velems_sound h hy h1 hone.len
    obtain⟨p,cap,rfl⟩:∃p cap,x'=.slice p 0 cap:=by cases hx<;>exact⟨_,_,rfl⟩
    refine⟨_,w,run_copy_zero ht hi,h.upd ho (w':=w) (.inr ⟨by simp[lput],e1,b,o,e2⟩) (fun k' hk _=>by rw[e1] at hk;cases hk) (fun _ _=>rfl) rfl rfl rfl rfl,?_⟩
    simp only[List.take_zero,List.length_nil]
    exact .int _ _
   obtain⟨q,c,rfl,hq0,hnews⟩:=velems_sound h hy h1 hone.len
   obtain⟨news,hn1,hn2⟩:=hnews (Nat.min xs.length len) (Nat.min_le_left _ _)
   have htk:xs.take (Nat.min xs.length len)=xs.take len:=by
    rw[show Nat.min xs.length len=min xs.length len from rfl]
    rcases Nat.le_total xs.length len with hle|hle
    ·rw[Nat.min_eq_left hle,List.take_of_length_le (Nat.le_refl _),List.take_of_length_le hle]
    ·rw[Nat.min_eq_right hle]
   rw[htk] at hn1
   have hone':allOne (xs.take len) sz:=fun e' he'=>hone e' (List.mem_of_mem_take he')
   have hkl:(xs.take len).length=Nat.min xs.length len:=by rw[List.length_take];exact Nat.min_comm _ _
   have hnl:news.length=Nat.min xs.length len*ti.size:=by rw[←hn1.1,flatten_length _ hone'.len,hkl,hi1,hsame]
   have hnl':news.length=Nat.min xs.length len*sz:=by rw[hnl,hi1,hsame]
   have hno:=hn1.ones (flatten_ones hone')
   have hmin:Nat.min xs.length len≤len:=Nat.min_le_right _ _
   have hfit:(j+Nat.min xs.length len)*sz≤es.length*sz:=Nat.mul_le_mul_right _ (by omega)
   have hxm:(j+Nat.min xs.length len)*sz=j*sz+Nat.min xs.length len*sz:=Nat.add_mul _ _ _
   have hM:∀o,M b o=none:=by
    intro o'
    cases hm:M b o' with
    | none=>rfl
    | some v=>have:=(e8 o' (by rw[hm];simp)).1;cases this
   have hq:o+j*sz+news.length≤cs'.length:=by omega
   have hjl:j+(xs.take len).length≤es.length:=by rw[hkl];omega
   have hupd:Rel R E (st.setOb n (some (.row sz (lput es j (xs.take len)) false))) ρ M S a (w.setRow b (lput cs' (o+j*sz) news).toArray):=by
    refine h.upd ho (.inl ⟨b,o,c1,ety,lput cs' (o+j*sz) news,e1,e2,setRow_heap w b _ _ ety _ e3,?_,?_,?_,?_,fun jj hj=>absurd (hM jj) hj⟩) (fun k' hk o=>by rw[e1] at hk;simp at hk;subst hk;exact hM o) (fun k' hk=>setRow_other w b k' _ (fun e=>hk (by rw[e1,e];simp))) (by simp) rfl rfl rfl
    ·rw[lput_length _ _ _ hq];exact e4
    ·rw[lput_length _ _ _ hjl];exact e5
    ·intro e' he'
     simp only[lput,List.mem_append] at he'
     rcases he' with he'|he'|he'
     ·exact e6 e' (List.mem_of_mem_take he')
     ·exact hone'.len e' he'
     ·exact e6 e' (List.mem_of_mem_drop he')
    ·intro i k e' v he' hv
     rw[lput_get _ _ _ hjl] at he'
     rw[lput_get _ _ _ hq]
     have hk:=(List.getElem?_eq_some_iff.1 hv).1
     by_cases hij:j≤i∧i<j+(xs.take len).length
     ·rw[if_pos hij] at he'
      rw[hone'.len e' (List.mem_of_getElem? he')] at hk
      have hii:=(List.getElem?_eq_some_iff.1 he').1
      have hri:=row_index (sz:=sz) hii
      have hsp:i*sz=j*sz+(i-j)*sz:=by rw[←Nat.add_mul];congr 1;omega
      rw[hkl] at hri
      rw[if_pos (by omega)]
      have hf:=flatten_get (xs.take len) hone'.len (i-j) k e' he' hk
      rw[hv] at hf
      obtain⟨v',q1,q2⟩:=hn1.get hf
      exact⟨v',by rw[←q1];congr 1;omega,q2⟩
     ·rw[if_neg hij] at he'
      rw[e6 e' (List.mem_of_getElem? he')] at hk
      have:¬(o+j*sz≤o+(i*sz+k)∧o+(i*sz+k)<o+j*sz+news.length):=by
       rw[hkl] at hij
       rcases Nat.lt_or_ge i j with hlt|hge
       ·have:=row_index (sz:=sz) hlt;omega
       ·have h2:j+Nat.min xs.length len≤i:=by omega
        have h3:(j+Nat.min xs.length len)*sz≤i*sz:=Nat.mul_le_mul_right _ h2
        omega
      rw[if_neg this]
      exact e7 i k e' v he' hv
   cases hx with
   | @rsl _ _ _ _ b' o' c' cap hn hcap hlc=>
    rw[hn] at e2;cases e2
    refine⟨_,_,run_copy_in ht hi (k:=Nat.min xs.length len) e3 rfl hnl (by
     rcases hq0 with h0|h0
     ·left;rw[h0];exact Nat.zero_min _
     ·exact .inr h0) hn2 hno hq,hupd,?_⟩
    rw[←hkl]
    exact .int _ _
   | rsl0=>
    have hn0:news=[]:=List.eq_nil_of_length_eq_zero (by rw[hnl,show Nat.min xs.length 0=0 from Nat.min_zero _];simp)
    subst hn0
    have e9:(lput cs' (o+j*sz) [])=cs':=by simp[lput]
    rw[e9,setRow_self w b _ ety _ e3] at hupd
    exact⟨_,w,run_copy_zero ht hi,hupd,by simpa using VRel.int _ _⟩
 | _=>cases hr
end Go.Vm
