/- A part of the proofs over the seat YtbppemcdphgknaaGreatDoor. -/
import Derived.Test.YtbppemcdphgknaaGreatDoorVm9
set_option linter.unusedVariables false
set_option linter.unusedSimpArgs false
namespace Go.Vm
open Go
variable {P:Program} {T:TT} {A:Type} {R:Rep A} {E:Env} {st:St A} {ρ:Rho} {M:Mem} {S:Name→List Nat} {a:Act} {w:World} {ns:List Name}
theorem Rel.freeze (h:Rel R E st ρ M S a w) {n:Name} {sz:Nat} {es:List (List V)} {fz:Bool} (hn:st.get n=some (.row sz es fz)) :
  ∃M',M.le M'∧Rel R E (st.setOb n (some (.row sz es true))) ρ M' S a w∧∀i len v',i+len≤es.length→VRel ρ M (.rsl n sz i len) v'→VRel ρ M' (.lst sz ((es.drop i).take len)) v':=by
 rcases h.objs n _ hn with⟨b,o,c,ty,cs',e1,e2,e3,e4,e5,e6,e7,e8⟩|⟨rfl,e1,b,o,e2⟩
 case inr=>
  refine⟨M,Mem.le_refl _,h.upd hn (ob':=.row sz [] true) (w':=w) (.inr ⟨rfl,e1,b,o,e2⟩) (fun k' hk _=>by rw[e1] at hk;cases hk) (fun _ _=>rfl) rfl rfl rfl rfl,fun i len v' hl hv=>?_⟩
  obtain rfl:len=0:=by simp at hl;omega
  cases hv<;>simp<;>exact .lst0
 let M':Mem:=fun b' j=>if b'=b∧o≤j∧j<o+es.length*sz then cs'[j]? else M b' j
 have hcell:∀j,w.cell? ⟨b,j,none⟩=cs'[j]?:=by intro j;simp[World.cell?,e3]
 have hle:M.le M':=by
  intro b' j v hv
  by_cases hc:b'=b∧o≤j∧j<o+es.length*sz
  ·simp only[M',if_pos hc]
   obtain⟨rfl,_,_⟩:=hc
   rw[←hcell];exact h.mem _ _ _ hv
  ·simp only[M',if_neg hc];exact hv
 have hbS:b∈S n:=by rw[e1];simp
 have hown:E.w0.heap.size≤b∨b∈E.S0:=by
  rcases h.own n _ hn b hbS with h1|h1
  ·exact .inr h1
  ·exact .inl h1
 have hother:∀b',b'≠b→∀j,M' b' j=M b' j:=by
  intro b' hb' j
  simp only[M',if_neg (fun hc:b'=b∧_=>hb' hc.1)]
 have key:∀n' ob1,(st.setOb n (some (.row sz es true))).get n'=some ob1→(n'=n∧ob1=.row sz es true)∨(n'≠n∧st.get n'=some ob1):=by
  intro n' ob1 h'
  rcases St.get_setOb_live hn _ h' with⟨h1,h2⟩|h2
  ·exact .inl ⟨h1,by cases h2;rfl⟩
  ·exact .inr h2
 have hlive:∀n' ob1,(st.setOb n (some (.row sz es true))).get n'=some ob1→∃ob2,st.get n'=some ob2:=by
  intro n' ob1 h'
  rcases key n' ob1 h' with⟨rfl,_⟩|⟨_,h2⟩
  ·exact⟨_,hn⟩
  ·exact⟨ob1,h2⟩
 refine⟨M',hle,?_,?_⟩
 ·exact {
   defers:=h.defers
   tmps:=by rw[St.tmps_setOb];exact h.tmps.mono (Rho.le_refl _) hle
   mem:=fun b' j v hv=>by
    by_cases hc:b'=b∧o≤j∧j<o+es.length*sz
    ·simp only[M',if_pos hc] at hv
     obtain⟨rfl,_,_⟩:=hc
     rw[hcell];exact hv
    ·simp only[M',if_neg hc] at hv
     exact h.mem _ _ _ hv
   objs:=fun n' ob1 hn'=>by
    rcases key n' ob1 hn' with⟨rfl,rfl⟩|⟨h1,h2⟩
    ·refine .inl ⟨b,o,c,ty,cs',e1,e2,e3,e4,e5,e6,fun i k e v he hv=>?_,fun j hj=>⟨rfl,?_⟩⟩
     ·obtain⟨v',q1,q2⟩:=e7 i k e v he hv
      exact⟨v',q1,q2.mono (Rho.le_refl _) hle⟩
     ·by_cases hc:b=b∧o≤j∧j<o+es.length*sz
      ·exact hc.2.2
      ·simp only[M',if_neg hc] at hj
       exact(e8 j hj).2
    ·exact(h.objs n' ob1 h2).of_heap rfl (Rho.le_refl _) hle (fun b' hb' j=>hother b' (fun e=>h.disj n' n ob1 _ h2 hn h1 b' hb' (by rw[e];exact hbS)) j) (fun _ _=>rfl)
   disj:=fun n1 n2 o1 o2 h1 h2 hne=>by
    obtain⟨_,q1⟩:=hlive _ _ h1
    obtain⟨_,q2⟩:=hlive _ _ h2
    exact h.disj _ _ _ _ q1 q2 hne
   blt:=fun n1 o1 h1=>by
    obtain⟨_,q1⟩:=hlive _ _ h1
    exact h.blt _ _ q1
   own:=fun n1 o1 h1=>by
    obtain⟨_,q1⟩:=hlive _ _ h1
    exact h.own _ _ q1
   fresh:=St.fresh_setOb hn _ h.fresh
   hsize:=h.hsize
   keep:=h.keep
   os:=h.os
   tape:=h.tape
   output:=h.output
   M0:=Mem.le_trans h.M0 hle
   Mnew:=fun b' j v hv=>by
    by_cases hb:b'=b
    ·subst hb;exact .inr hown
    ·rw[hother b' hb] at hv;exact h.Mnew _ _ _ hv
   ρ0:=h.ρ0}
 ·intro i len v' hil hv
  cases hv with
  | rsl0=>rw[List.take_zero];exact .lst0
  | @rsl _ _ _ _ b2 o2 c2 cap hn2 h2 h3=>
   rw[hn2] at e2;cases e2
   have hlen:((es.drop i).take len).length=len:=by simp;omega
   have:=VRel.lst (ρ:=ρ) (M:=M') (sz:=sz) (es:=(es.drop i).take len) (b:=b) (o:=o+i*sz) (cap:=cap) (fun j k=>cs'.getD (o+((i+j)*sz+k)) undef)
    (fun e he=>e6 e (List.mem_of_mem_drop (List.mem_of_mem_take he)))
    (fun j k e v he hv=>by
     rw[List.getElem?_take] at he
     split at he
     ·rw[List.getElem?_drop] at he
      obtain⟨v',q1,q2⟩:=e7 _ _ _ _ he hv
      rw[List.getD_eq_getElem?_getD,q1];exact q2.mono (Rho.le_refl _) hle
     ·cases he)
    (fun j k hj hk=>by
     rw[hlen] at hj
     have hri:=row_index (sz:=sz) (show i+j<es.length by omega)
     have hsum:o+i*sz+(j*sz+k)=o+((i+j)*sz+k):=by rw[Nat.add_mul];omega
     rw[hsum]
     have hc:b=b∧o≤o+((i+j)*sz+k)∧o+((i+j)*sz+k)<o+es.length*sz:=⟨rfl,by omega,by omega⟩
     simp only[M',if_pos hc]
     have hlt:o+((i+j)*sz+k)<cs'.length:=by omega
     simp[List.getD_eq_getElem?_getD,hlt])
    (by rw[hlen];exact h3)
   rw[hlen] at this
   exact this
theorem velems_ns {f:Name→Option (Ob A)} {x:V} {xs:List (List V)} (h:Rd.Runs f (velems x) xs ns):∀m∈ns,(∃cs,f m=some (.box cs))∨∃z es fz,f m=some (.row z es fz):=by
 intro m hm
 cases x with
 | rsl n sz i len=>
  simp only[velems] at h
  cases h with
  | look ho hk=>
   rename_i ob ms
   cases ob with
   | row z es fz=>
    obtain⟨_,hk⟩:=Runs.when hk
    cases hk with
    | need hp hk=>
     cases hk
     simp at hm;subst hm
     exact .inr ⟨z,es,fz,ho⟩
   | box=>cases hk
   | abs=>cases hk
   | prow=>cases hk
 | asl n sz off len c=>
  simp only[velems] at h
  cases h with
  | look ho hk=>
   rename_i ob ms
   cases ob with
   | box cs=>
    cases hk with
    | need hp hk=>
     cases hk
     simp at hm;subst hm
     exact .inl ⟨cs,ho⟩
   | row=>cases hk
   | abs=>cases hk
   | prow=>cases hk
 | nils=>cases h;cases hm
 | lst=>cases h;cases hm
 | _=>cases h
theorem asA_runs [Deep A] {f:Name→Option (Ob A)} {ob:Ob A} {x:A} (h:Rd.Runs f (asA ob) x ns):ob=.abs x∨∃cs,ob=.box cs∧okCs cs∧Deep.thing cs=some x:=by
 cases ob with
 | abs y=>replace h:=Runs.ret h;subst h;exact .inl rfl
 | box cs=>
  obtain⟨h1,h⟩:=Runs.need h
  obtain⟨b,hb,h⟩:=Runs.opt h
  replace h:=Runs.ret h;subst h
  exact .inr ⟨cs,rfl,h1,hb⟩
 | row=>cases h
 | prow=>cases h
theorem asA_rep [Deep A] (hR:RepOk R) {ob:Ob A} {x:A} (hx:ob=.abs x∨∃cs,ob=.box cs∧okCs cs∧Deep.thing cs=some x) {m:Name} {B:List Nat} (h:ObRel R ρ M w m B ob):∃b c,ρ m=some (b,0,c)∧R.rep x M w b B:=by
 rcases hx with rfl|⟨cs,rfl,h1,h2⟩
 ·obtain⟨b,q1,q2⟩:=h
  exact⟨b,_,q1,q2⟩
 ·obtain⟨b,ty,cs',q1,q2,q3,q4,q5⟩:=h
  have hp:=okCs_all h1
  exact⟨b,_,q2,(hR.plain (Deep.thingOp h2)).2 ⟨⟨ty,cs',q1,q3,q4.pure hp,q5⟩,hp⟩⟩
theorem Rel.pjoin (h:Rel R E st ρ M S a w) {d m:Name} {es:List (List V)} {ob:Ob A} {x:A} {ys:List A}
  (hd:st.get d=some (.row 1 es true)) (hm:st.get m=some ob) (hne:m≠d) (hA:∃b c,ρ m=some (b,0,c)∧R.rep x M w b (S m)) (hlen:es.length=ys.length+1)
  {bs:Nat→Nat} {Ss:Nat→List Nat} (hes:∀j,j<ys.length→∃v,es[j]?=some [v]∧∀v',VRel ρ M v v'→v'=.pointer (some ⟨bs j,0,none⟩)) (hlast:es[ys.length]?=some [.ref m 0])
  (hfz:∀b o c,ρ d=some (b,o,c)→∀i,i<es.length→∃u,M b (o+i)=some u∧∀v,es[i]?=some [v]→VRel ρ M v u)
  (hT:∀j y,ys[j]?=some y→R.rep y M w (bs j) (Ss j))
  (hTb:∀j,j<ys.length→∀k∈Ss j,k<w.heap.size∧(k∈E.S0∨E.w0.heap.size≤k)∧∀n ob,st.get n=some ob→k∉S n)
  (hTd:∀i j,i<ys.length→j<ys.length→i≠j→∀k∈Ss i,k∉Ss j) :
  ∃S',Rel R E ((st.setOb m none).setOb d (some (.prow (ys++[x])))) ρ M S' a w:=by
 obtain⟨bm,cm,hρm,hrep⟩:=hA
 rcases h.objs d _ hd with⟨b,o,c,ty,cs',e1,e2,e3,e4,e5,e6,e7,e8⟩|⟨rfl,_⟩
 case inr=>simp at hlen
 have hd':(st.setOb m none).get d=some (.row 1 es true):=St.get_setOb_ne hm hd hne.symm none
 have hk:=h.kill hm
 let bs':Nat→Nat:=fun j=>if j<ys.length then bs j else bm
 let Ss':Nat→List Nat:=fun j=>if j<ys.length then Ss j else S m
 have hl1:(ys++[x]).length=ys.length+1:=by simp
 have hmem:∀j,j<ys.length+1→M b (o+j)=some (.pointer (some ⟨bs' j,0,none⟩)):=by
  intro j hj
  obtain⟨u,hu,hv⟩:=hfz b o c e2 j (by omega)
  by_cases hjl:j<ys.length
  ·obtain⟨v,hv1,hv2⟩:=hes j hjl
   rw[hu,hv2 u (hv v hv1)]
   simp[bs',hjl]
  ·obtain rfl:j=ys.length:=by omega
   have:=hv _ hlast
   generalize u=u' at *
   cases this with
   | ref hh=>
    rw[hρm] at hh;cases hh
    rw[hu];simp[bs']
 have hcell:∀j,j<ys.length+1→cs'[o+j]?=some (.pointer (some ⟨bs' j,0,none⟩)):=by
  intro j hj
  have:=h.mem _ _ _ (hmem j hj)
  simpa[World.cell?,e3] using this
 have hbS:b∈S d:=by rw[e1];simp
 have hSm:∀k∈S m,k∉S d:=h.disj m d _ _ hm hd hne
 have hTS:∀j,j<ys.length+1→∀k∈Ss' j,k<w.heap.size∧(k∈E.S0∨E.w0.heap.size≤k)∧∀n' ob1,(st.setOb m none).get n'=some ob1→k∉S n':=by
  intro j hj k hkk
  by_cases hjl:j<ys.length
  ·simp only[Ss',if_pos hjl] at hkk
   obtain⟨q1,q2,q3⟩:=hTb j hjl k hkk
   refine⟨q1,q2,fun n' ob1 hn'=>?_⟩
   rcases St.get_setOb_live hm none hn' with⟨_,hc⟩|⟨_,hc⟩
   ·cases hc
   ·exact q3 n' ob1 hc
  ·simp only[Ss',if_neg hjl] at hkk
   refine⟨h.blt m _ hm k hkk,h.own m _ hm k hkk,fun n' ob1 hn'=>?_⟩
   rcases St.get_setOb_live hm none hn' with⟨_,hc⟩|⟨hc1,hc⟩
   ·cases hc
   ·exact h.disj m n' _ _ hm hc (Ne.symm hc1) k hkk
 have hout:∀j,j<ys.length+1→b∉Ss' j:=fun j hj hb=>(hTS j hj b hb).2.2 d _ hd' hbS
 refine⟨_,hk.reob hd' (T:=b::((List.range (ys++[x]).length).map Ss').flatten) (.inl ⟨b,o,c,ty,cs',bs',Ss',e2,?_⟩) ?_⟩
 ·exact {
   all:=rfl
   heap:=e3
   room:=e4
   fits:=by rw[hl1,←hlen];omega
   cell:=fun j hj=>hcell j (by omega)
   mem:=fun j hj=>hmem j (by omega)
   top:=fun j hj=>by
    have:=(e8 j hj).2
    rw[hl1];omega
   rep:=fun j y hy=>by
    rw[List.getElem?_append] at hy
    by_cases hjl:j<ys.length
    ·rw[if_pos hjl] at hy
     simp only[bs',Ss',if_pos hjl]
     exact hT j y hy
    ·rw[if_neg hjl] at hy
     have:y=x:=by
      have hj0:j-ys.length=0:=by
       rcases Nat.eq_zero_or_pos (j-ys.length) with h0|h0
       ·exact h0
       ·rw[List.getElem?_eq_none (by simp;omega)] at hy;cases hy
      rw[hj0] at hy
      simpa using hy.symm
     subst this
     simp only[bs',Ss',if_neg hjl]
     exact hrep
   out:=fun j hj=>hout j (by omega)
   apart:=fun i j hi hj hij k hki hkj=>by
    rw[hl1] at hi hj
    by_cases h1:i<ys.length<;>by_cases h2:j<ys.length
    ·simp only[Ss',if_pos h1,if_pos h2] at hki hkj
     exact hTd i j h1 h2 hij k hki hkj
    ·simp only[Ss',if_pos h1,if_neg h2] at hki hkj
     exact(hTb i h1 k hki).2.2 m _ hm hkj
    ·simp only[Ss',if_neg h1,if_pos h2] at hki hkj
     exact(hTb j h2 k hkj).2.2 m _ hm hki
    ·omega}
 ·intro k hkk
  rcases List.mem_cons.1 hkk with rfl|hkk
  ·refine⟨h.blt d _ hd _ hbS,h.own d _ hd _ hbS,fun n' ob1 hn' hne' hc=>?_⟩
   exact hk.disj d n' _ _ hd' hn' (Ne.symm hne') _ hbS hc
  ·obtain⟨l,hl,hkl⟩:=List.mem_flatten.1 hkk
   obtain⟨j,hj,rfl⟩:=List.mem_map.1 hl
   obtain⟨q1,q2,q3⟩:=hTS j (by have:=List.mem_range.1 hj;omega) k hkl
   exact⟨q1,q2,fun n' ob1 hn' _=>q3 n' ob1 hn'⟩
theorem subs_get {n:Name} {k j:Nat} (h:j<k):(subs n k)[j]?=some [.sub n j 0]:=by simp[subs,h]
theorem subs_length (n:Name) (k:Nat):(subs n k).length=k:=by simp[subs]
theorem frozen_cells {d:Name} {es:List (List V)} {v':Value} (hv:VRel ρ M (.lst 1 es) v') (hr:VRel ρ M (.rsl d 1 0 es.length) v') (hne:es≠[]) :
  ∀b o c,ρ d=some (b,o,c)→∀i,i<es.length→∃u,M b (o+i)=some u∧∀v,es[i]?=some [v]→VRel ρ M v u:=by
 intro b o c hd i hi
 cases hv with
 | lst0=>exact absurd rfl hne
 | @lst _ _ b1 o1 cap vals h1 h2 h3 h4=>
  have hbo:b1=b∧o1=o:=by
   generalize es.length=L at hr hi
   cases hr with
   | rsl e1=>rw[hd] at e1;cases e1;simp
   | rsl0=>omega
  obtain⟨rfl,rfl⟩:=hbo
  have:=h3 i 0 hi (by decide)
  rw[Nat.mul_one,Nat.add_zero] at this
  exact⟨_,this,fun v hv=>h2 i 0 [v] v hv rfl⟩
theorem vappendP_sound [Deep A] (hR:RepOk R) (hT:TOk P T) (h:Rel R E st ρ M S a w) {s g:Nat} {o₀:Option (Ob A)} (hs:st.objs[s]?=some (g,o₀)) {t ty e:TypeId} (ht:P.underlying t=some (.slice e)) (hsz:(T.at e).size≠0)
  {x y:V} {x' y':Value} (hx:VRel ρ M x x') (hy:VRel ρ M y y') {r:V×List (Name×Option (Ob A))} (hr:Rd.Runs st.get (vappendP (s+1,g+1) (T.at e) x y) r ns) :
  ∃v' w' ρ' M' S',(Builtin.append_ #[t,t] ty #[x',y']).run P w=.ok v' w'∧Rel R E (r.2.foldl (fun s x=>s.setOb x.1 x.2) st) ρ' M' S' a w'∧VRel ρ' M' r.1 v':=by
 unfold vappendP at hr
 obtain⟨xs,n1,n2,h1,hr,_⟩:=hr.bind_inv
 split at hr
 case h_2=>cases hr
 rename_i xs m
 obtain⟨ob,ms,hm,hr⟩:=Runs.look hr
 obtain⟨z,n3,n4,hz,hr,_⟩:=hr.bind_inv
 obtain⟨hc,hr⟩:=Runs.when hr
 simp only[Bool.and_eq_true,Bool.not_eq_true',beq_eq_false_iff_ne,ne_eq,beq_iff_eq] at hc
 obtain⟨hmd,hs1⟩:=hc
 have hz':=asA_runs hz
 have hone:allOne [[.ref m 0]] (T.at e).size:=fun e' he=>by
  simp at he;subst he
  exact⟨hs1.symm,rfl⟩
 cases x with
 | nils=>
  simp only at hr
  obtain⟨hb,hr⟩:=Runs.need hr
  replace hr:=Runs.ret hr;subst hr
  have hbb:Rd.Runs st.get (vappend (s+1,g+1) (T.at e) .nils y) (.rsl (s+1,g+1) (T.at e).size 0 1,[((s+1,g+1),some (.row (T.at e).size [[.ref m 0]] false))]) (n1++[]):=by
   unfold vappend
   exact h1.bind (.need hone (.need hb (.ret _)))
  obtain⟨v',w',ρ',S',k1,k2,k3,k4⟩:=vappend_sound hT h hs ht hsz hx hy hbb
  rw[hs1] at k2 k3
  have k2':Rel R E (st.setOb (s+1,g+1) (some (.row 1 [[.ref m 0]] false))) ρ' M S' a w':=k2
  have hd1:(st.setOb (s+1,g+1) (some (Ob.row 1 [[.ref m 0]] false))).get (s+1,g+1)=some (Ob.row 1 [[.ref m 0]] false):=by rw[St.get_setOb_slot hs];simp
  obtain⟨M',f1,f2,f3⟩:=k2'.freeze hd1
  have hs2:(st.setOb (s+1,g+1) (some (Ob.row 1 [[.ref m 0]] false))).objs[s]?=some (g+1,some (.row 1 [[.ref m 0]] false)):=St.get_slot_gen hd1
  have hd2:((st.setOb (s+1,g+1) (some (Ob.row 1 [[.ref m 0]] false))).setOb (s+1,g+1) (some (.row 1 [[.ref m 0]] true))).get (s+1,g+1)=some (.row 1 [[.ref m 0]] true):=St.get_setOb_self hd1 _
  have hm2:((st.setOb (s+1,g+1) (some (Ob.row 1 [[.ref m 0]] false))).setOb (s+1,g+1) (some (.row 1 [[.ref m 0]] true))).get m=some ob:=by
   rw[St.get_setOb_slot hs2,if_neg hmd,St.get_setOb_slot hs,if_neg hmd];exact hm
  have hmne:m≠(s+1,g+1):=fun e=>hmd (by rw[e])
  have k3':=k3.mono (Rho.le_refl _) f1
  obtain⟨S'',hj⟩:=f2.pjoin (ys:=[]) (x:=z) (bs:=fun _=>0) (Ss:=fun _=>[]) hd2 hm2 hmne (asA_rep hR hz' (f2.objs _ _ hm2)) rfl (fun j hj=>by cases hj) rfl
   (frozen_cells (f3 0 1 v' (Nat.le_refl _) k3) k3' (by simp)) (fun j y hy=>by simp at hy) (fun j hj=>by cases hj) (fun i j hi=>by cases hi)
  exact⟨v',w',ρ',M',S'',k1,hj,k3'⟩
 | rsl n sz j len=>
  simp only at hr
  obtain⟨ob2,ms2,hn,hr⟩:=Runs.look hr
  cases ob2 with
  | box=>cases hr
  | row=>cases hr
  | abs=>cases hr
  | prow ys=>
   obtain⟨hc,hr⟩:=Runs.when hr
   simp only[Bool.and_eq_true,beq_iff_eq] at hc
   obtain⟨rfl,rfl⟩:=hc
   obtain⟨⟨rfl,hb1,hb2⟩,hr⟩:=Runs.need hr
   replace hr:=Runs.ret hr;subst hr
   have hmn:m≠n:=fun e=>by
    subst e
    rw[hm] at hn;cases hn
    rcases hz' with h0|⟨cs,h0,_⟩<;>cases h0
   obtain⟨b,o,c,ty',cs',bs,Ss,S1,hρn,hS1,hp⟩:∃b o c ty' cs' bs Ss S1,ρ n=some (b,o,c)∧S1=[b]∧(PRow R M w ys b o c ty' cs' bs Ss (S n)∨(ys=[]∧S n=[])):=by
    rcases h.objs n _ hn with⟨b,o,c,ty',cs',bs,Ss,q1,q2⟩|⟨q0,q1,b,o,q2⟩
    ·exact⟨b,o,c,ty',cs',bs,Ss,_,q1,rfl,.inl q2⟩
    ·exact⟨b,o,0,0,[],fun _=>0,fun _=>[],_,q2,rfl,.inr ⟨q0,q1⟩⟩
   obtain⟨S2,hsp,hS2n,hS2o⟩:∃S2:Name→List Nat,Rel R E (st.setOb n (some (.row 1 (subs n ys.length) true))) ρ M S2 a w∧(∀k∈S2 n,k∈S n∧∀j,j<ys.length→k∉Ss j)∧∀n',n'≠n→S2 n'=S n':=by
    rcases hp with hp|⟨q0,q1⟩
    ·have hrow:ObRel R ρ M w n [b] (.row 1 (subs n ys.length) true):=.inl ⟨b,o,c,ty',cs',rfl,hρn,hp.heap,hp.room,by rw[subs_length,Nat.mul_one];exact hp.fits,fun e' he=>by
       obtain⟨j,_,rfl⟩:=List.mem_map.1 he;rfl,fun i k e' v he hv=>by
       have hi:i<ys.length:=by have:=(List.getElem?_eq_some_iff.1 he).1;rwa [subs_length] at this
       rw[subs_get hi] at he;cases he
       cases k with
       | zero=>
        simp at hv;subst hv
        exact⟨_,by rw[Nat.mul_one,Nat.add_zero];exact hp.cell i hi,.sub hρn (hp.mem i hi)⟩
       | succ k=>simp at hv,fun j hj=>⟨rfl,by rw[subs_length,Nat.mul_one];exact hp.top j hj⟩⟩
     refine⟨_,h.reob hn hrow fun k hk=>?_,?_,fun n' hn'=>if_neg hn'⟩
     ·simp at hk;subst hk
      have hk:=hp.mem_S.1
      exact⟨h.blt n _ hn _ hk,h.own n _ hn _ hk,fun n' ob1 hn' hne hc=>h.disj n n' _ _ hn hn' (Ne.symm hne) _ hk hc⟩
     ·intro k hk
      simp at hk;subst hk
      exact⟨hp.mem_S.1,hp.out⟩
    ·have hrow:ObRel R ρ M w n [] (.row 1 (subs n ys.length) true):=.inr ⟨by rw[q0];rfl,rfl,b,o,by
       rcases h.objs n _ hn with⟨_,_,_,_,_,_,_,_,q2⟩|⟨_,_,b2,o2,q2⟩
       ·rw[q1] at q2;exact absurd q2.mem_S.1 (by simp)
       ·rw[hρn] at q2;cases q2;exact hρn⟩
     exact⟨_,h.reob hn hrow (fun k hk=>by cases hk),fun k hk=>by simp at hk,fun n' hn'=>if_neg hn'⟩
   have hsub:∀j,j<ys.length→∀k∈Ss j,k∈S n:=fun j hj k hk=>by
    rcases hp with hp|⟨q0,_⟩
    ·exact hp.mem_S.2 j hj k hk
    ·rw[q0] at hj;cases hj
   have hkey:∀n' ob1,(st.setOb n (some (Ob.row 1 (subs n ys.length) true))).get n'=some ob1→(n'=n∨(n'≠n∧st.get n'=some ob1)):=fun n' ob1 h'=>by
    rcases St.get_setOb_live hn _ h' with⟨q,_⟩|q
    ·exact .inl q
    ·exact .inr q
   have hfree:∀j,j<ys.length→∀k∈Ss j,∀n' ob1,(st.setOb n (some (Ob.row 1 (subs n ys.length) true))).get n'=some ob1→k∉S2 n':=fun j hj k hk n' ob1 h' hc=>by
    rcases hkey n' ob1 h' with rfl|⟨q1,q2⟩
    ·exact(hS2n k hc).2 j hj hk
    ·rw[hS2o n' q1] at hc
     exact h.disj n n' _ _ hn q2 (Ne.symm q1) k (hsub j hj k hk) hc
   have hnow:=hsp.now
   have hn1:(st.setOb n (some (Ob.row 1 (subs n ys.length) true))).get n=some (.row 1 (subs n ys.length) true):=St.get_setOb_self hn _
   have hag:∀k,k≠n→(st.setOb n (some (Ob.row 1 (subs n ys.length) true))).get k=st.get k:=fun k hk=>by
    have hag:=St.get_setOb_other hn (some (Ob.row 1 (subs n ys.length) true)) hk
    exact hag
   have h1':Rd.Runs (st.setOb n (some (Ob.row 1 (subs n ys.length) true))).get (velems y) [[.ref m 0]] n1:=h1.of_agree fun k hk=>hag k fun e=>by
    subst e
    rcases velems_ns h1 k hk with⟨cs,q⟩|⟨_,_,_,q⟩<;>(rw[hn] at q;cases q)
   have hs':∃o₁,(st.setOb n (some (Ob.row 1 (subs n ys.length) true))).objs[s]?=some (g,o₁):=by
    obtain⟨n1,gn⟩:=n
    cases n1 with
    | zero=>exact⟨o₀,hs⟩
    | succ k=>
     have hq:=St.get_slot_gen hn
     by_cases e:k=s
     ·subst e
      rw[hs] at hq;cases hq
      exact⟨_,St.get_slot_gen hn1⟩
     ·refine⟨o₀,?_⟩
      simp only[St.setOb,lset_eq]
      rw[List.getElem?_set_ne e];exact hs
   obtain⟨o₁,hs'⟩:=hs'
   have hbb:Rd.Runs (st.setOb n (some (Ob.row 1 (subs n ys.length) true))).get (vappend (s+1,g+1) (T.at e) (.rsl n 1 0 ys.length) y)
     (.rsl (s+1,g+1) 1 0 (ys.length+1),[(n,none),((s+1,g+1),some (.row 1 (((subs n ys.length).drop 0).take ys.length++[[.ref m 0]]) true))]) (n1++n::[]):=by
    unfold vappend
    refine h1'.bind (.need hone (.look hn1 ?_))
    simp only[hs1,beq_self_eq_true,Bool.and_self,Rd.when]
    exact .need ⟨by rw[subs_length];omega,fun _=>by rw[subs_length];omega,by simpa using hb1,by simpa using hb2⟩ (.ret _)
   obtain⟨v',w',ρ',S',k1,k2,k3,k4⟩:=vappend_sound hT hnow hs' ht hsz hx hy hbb
   obtain⟨es,hes⟩:∃es,es=((subs n ys.length).drop 0).take ys.length++[[.ref m 0]]:=⟨_,rfl⟩
   have hes':es=subs n ys.length++[[.ref m 0]]:=by rw[hes,List.drop_zero,List.take_of_length_le (by rw[subs_length];exact Nat.le_refl _)]
   have hel:es.length=ys.length+1:=by rw[hes'];simp[subs_length]
   rw[←hes] at k2
   simp only[List.foldl] at k2 k3
   have hs3:∃o₁,((st.setOb n (some (Ob.row 1 (subs n ys.length) true))).setOb n none).objs[s]?=some (g,o₁):=by
    exact St.objs_kill hn1 hs'
   obtain⟨o₂,hs3⟩:=hs3
   have hd1:(((st.setOb n (some (Ob.row 1 (subs n ys.length) true))).setOb n none).setOb (s+1,g+1) (some (.row 1 es true))).get (s+1,g+1)=some (.row 1 es true):=by rw[St.get_setOb_slot hs3];simp
   obtain⟨M',f1,f2,f3⟩:=k2.freeze hd1
   have hs4:=St.get_slot_gen hd1
   have hd2:((((st.setOb n (some (Ob.row 1 (subs n ys.length) true))).setOb n none).setOb (s+1,g+1) (some (.row 1 es true))).setOb (s+1,g+1) (some (.row 1 es true))).get (s+1,g+1)=some (.row 1 es true):=St.get_setOb_self hd1 _
   have hm2:((((st.setOb n (some (Ob.row 1 (subs n ys.length) true))).setOb n none).setOb (s+1,g+1) (some (.row 1 es true))).setOb (s+1,g+1) (some (.row 1 es true))).get m=some ob:=by
    rw[St.get_setOb_slot hs4,if_neg hmd,St.get_setOb_slot hs3,if_neg hmd]
    exact St.get_setOb_ne hn1 ((hag m hmn).trans hm) hmn none
   have hmne:m≠(s+1,g+1):=fun e=>hmd (by rw[e])
   have k3':=k3.mono (Rho.le_refl _) f1
   have f2E:=hsp.back f2
   have hkeep:∀j,j<ys.length→∀k∈Ss j,k<w.heap.size∧k∉(Env.now (st.setOb n (some (Ob.row 1 (subs n ys.length) true))) ρ M S2 w).S0:=fun j hj k hk=>
    ⟨h.blt n _ hn k (hsub j hj k hk),fun hc=>by
     obtain⟨n',ob1,q1,q2⟩:=hsp.now_S0.1 hc
     exact hfree j hj k hk n' ob1 q1 q2⟩
   have hsize:w.heap.size≤w'.heap.size:=f2.hsize
   have hesj:∀j,j<ys.length→es[j]?=some [.sub n j 0]:=fun j hj=>by
    rw[hes',List.getElem?_append_left (by rw[subs_length];exact hj),subs_get hj]
   obtain⟨S'',hj⟩:=f2E.pjoin (ys:=ys) (x:=z) (bs:=bs) (Ss:=Ss) hd2 hm2 hmne (asA_rep hR hz' (f2E.objs _ _ hm2)) hel
    (fun j hj=>by
     refine⟨_,hesj j hj,fun v' hv=>?_⟩
     cases hv with
     | sub q1 q2=>
      rw[k4 _ _ hρn] at q1;cases q1
      rcases hp with hp|⟨q0,_⟩
      ·have:=f1 _ _ _ (hp.mem j hj)
       rw[this] at q2;cases q2
       rfl
      ·rw[q0] at hj;cases hj)
    (by rw[hes',List.getElem?_append_right (by rw[subs_length];exact Nat.le_refl _),subs_length];simp)
    (frozen_cells (d:=(s+1,g+1)) (v':=v') (by
     have:=f3 0 es.length v' (by omega) (by rw[hel];exact k3)
     rwa [List.drop_zero,List.take_length] at this) (by rw[hel];exact k3') (by rw[hes'];simp))
    (fun j y hy=>by
     have hj:=(List.getElem?_eq_some_iff.1 hy).1
     rcases hp with hp|⟨q0,_⟩
     ·refine R.frame (hp.rep j y hy) (f2.M0) (fun k hk o'=>?_) fun k hk=>f2.keep k (hkeep j hj k hk).1 (hkeep j hj k hk).2
      cases hmm:M k o' with
      | some v=>exact f2.M0 _ _ _ hmm
      | none=>
       cases hmm':M' k o' with
       | none=>rfl
       | some v=>
        rcases f2.Mnew k o' v hmm' with q|q|q
        ·have q:M k o'=some v:=q
         rw[hmm] at q;cases q
        ·have q:w.heap.size≤k:=q
         have:=(hkeep j hj k hk).1;omega
        ·exact absurd q (hkeep j hj k hk).2
     ·rw[q0] at hj;cases hj)
    (fun j hj k hk=>⟨Nat.lt_of_lt_of_le (hkeep j hj k hk).1 hsize,h.own n _ hn k (hsub j hj k hk),fun n' ob1 hn' hc=>by
     rcases f2.own n' ob1 hn' k hc with q|q
     ·exact(hkeep j hj k hk).2 q
     ·have q:w.heap.size≤k:=q
      have:=(hkeep j hj k hk).1;omega⟩)
    (fun i j hi hj hij=>by
     rcases hp with hp|⟨q0,_⟩
     ·exact hp.apart i j hi hj hij
     ·rw[q0] at hi;cases hi)
   refine⟨v',w',ρ',M',S'',k1,?_,k3'⟩
   rw[←hes]
   exact hj
 | _=>cases hr
theorem vappendK_sound [Deep A] (hR:RepOk R) (hT:TOk P T) (h:Rel R E st ρ M S a w) {s g:Nat} {o₀:Option (Ob A)} (hs:st.objs[s]?=some (g,o₀)) {t ty e:TypeId} (ht:P.underlying t=some (.slice e)) (hsz:(T.at e).size≠0)
  {x y:V} {x' y':Value} (hx:VRel ρ M x x') (hy:VRel ρ M y y') {r:V×List (Name×Option (Ob A))} (hr:Rd.Runs st.get (vappendK (s+1,g+1) (T.at e) x y) r ns) :
  ∃v' w' ρ' M' S',(Builtin.append_ #[t,t] ty #[x',y']).run P w=.ok v' w'∧Rel R E (r.2.foldl (fun s x=>s.setOb x.1 x.2) st) ρ' M' S' a w'∧VRel ρ' M' r.1 v':=by
 unfold vappendK at hr
 split at hr
 ·exact vappendP_sound hR hT h hs ht hsz hx hy hr
 ·obtain⟨v',w',ρ',S',k1,k2,k3,_⟩:=vappend_sound hT h hs ht hsz hx hy hr
  exact⟨v',w',ρ',M,S',k1,k2,k3⟩
end Go.Vm
