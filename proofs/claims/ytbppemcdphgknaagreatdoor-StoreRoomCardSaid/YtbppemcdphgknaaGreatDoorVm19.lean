/- A part of the proofs over the seat YtbppemcdphgknaaGreatDoor. -/
import Derived.Test.YtbppemcdphgknaaGreatDoorVm18
set_option linter.unusedVariables false
set_option linter.unusedSimpArgs false
namespace Go.Vm
open Go
variable {A:Type} {E:Env} {st:St A} {a:Act} {w:World} {ρ:Rho} {M:Mem}
abbrev Cur:=Nat→Option Nat
def renN (c:Cur) (n:Name) (k:Name→Prop):Prop:=match n with
 | (0,a)=>k (0,a)
 | (s+1,g)=>match c s with
  | some g0=>match Nat.beq g g0 with
   | true=>k (s+1,1)
   | false=>False
  | none=>False
def renRho (c:Cur) (ρ:Rho):Rho:=fun n=>match n with
 | (0,a)=>ρ (0,a)
 | (s+1,g)=>match c s with
  | some g0=>match Nat.beq g 1 with
   | true=>ρ (s+1,g0)
   | false=>none
  | none=>none
theorem renN_ok {c:Cur} {n:Name} {k:Name→Prop} (h:renN c n k):∃n',k n'∧renRho c ρ n'=ρ n:=by
 obtain⟨n1,g⟩:=n
 cases n1 with
 | zero=>exact⟨(0,g),h,rfl⟩
 | succ s=>
  simp only[renN] at h
  split at h
  ·rename_i g0 hc
   split at h
   ·rename_i hg
    obtain rfl:=Nat.eq_of_beq_eq_true hg
    exact⟨_,h,by simp[renRho,hc]⟩
   ·exact h.elim
  ·exact h.elim
def renC (c:Cur) (v:V) (k:V→Prop):Prop:=match v with
 | .undef=>k .undef
 | .int x n=>k (.int x n)
 | .bool b=>k (.bool b)
 | .nilp=>k .nilp
 | .nils=>k .nils
 | .fn f=>k (.fn f)
 | .ref n o=>renN c n fun n=>k (.ref n o)
 | .rpt n z i j=>renN c n fun n=>k (.rpt n z i j)
 | .rsl n z i l=>renN c n fun n=>k (.rsl n z i l)
 | .asl n z o l m=>renN c n fun n=>k (.asl n z o l m)
 | .sub n j o=>renN c n fun n=>k (.sub n j o)
 | .lst z es=>PureEs es∧k (.lst z es)
 | .lpt z es i j=>PureEs es∧k (.lpt z es i j)
 | _=>False
theorem renC_ok {c:Cur} {v:V} {k:V→Prop} (h:renC c v k):∃u,k u∧∀M v',VRel ρ M v v'→VRel (renRho c ρ) M u v':=by
 unfold renC at h
 split at h
 ·exact⟨_,h,fun M v' hv=>PureV.undef.any hv⟩
 ·exact⟨_,h,fun M v' hv=>(PureV.int _ _).any hv⟩
 ·exact⟨_,h,fun M v' hv=>(PureV.bool _).any hv⟩
 ·exact⟨_,h,fun M v' hv=>PureV.nilp.any hv⟩
 ·exact⟨_,h,fun M v' hv=>PureV.nils.any hv⟩
 ·exact⟨_,h,fun M v' hv=>(PureV.fn _).any hv⟩
 ·obtain⟨n',h1,h2⟩:=renN_ok (ρ:=ρ) h
  exact⟨_,h1,fun M v' hv=>by cases hv with|ref e=>exact .ref (h2.trans e)⟩
 ·obtain⟨n',h1,h2⟩:=renN_ok (ρ:=ρ) h
  exact⟨_,h1,fun M v' hv=>by cases hv with|rpt e=>exact .rpt (h2.trans e)⟩
 ·obtain⟨n',h1,h2⟩:=renN_ok (ρ:=ρ) h
  exact⟨_,h1,fun M v' hv=>by
   cases hv with
   | rsl e a b=>exact .rsl (h2.trans e) a b
   | rsl0=>exact .rsl0⟩
 ·obtain⟨n',h1,h2⟩:=renN_ok (ρ:=ρ) h
  exact⟨_,h1,fun M v' hv=>by
   cases hv with
   | asl e a=>exact .asl (h2.trans e) a
   | asl0=>exact .asl0⟩
 ·obtain⟨n',h1,h2⟩:=renN_ok (ρ:=ρ) h
  exact⟨_,h1,fun M v' hv=>by cases hv with|sub e a=>exact .sub (h2.trans e) a⟩
 ·exact⟨_,h.2,fun M v' hv=>(PureV.lst h.1).any hv⟩
 ·exact⟨_,h.2,fun M v' hv=>(PureV.lpt h.1).any hv⟩
 ·exact h.elim
noncomputable def renCs (c:Cur) (l:List V) (k:List V→Prop):Prop:=List.rec (motive:=fun _=>(List V→Prop)→Prop) (fun k=>k []) (fun v _ ih k=>renC c v fun v=>ih fun r=>k (v::r)) l k
theorem renCs_ok {c:Cur}:∀{l:List V} {k:List V→Prop},renCs c l k→∃us,k us∧us.length=l.length∧∀M l',VsRel ρ M l l'→VsRel (renRho c ρ) M us l'
 | [],k,h=>⟨[],h,rfl,fun M l' hl=>by rw[hl.nil_inv];exact .nil⟩
 | v::r,k,h=>by
  replace h:renC c v fun v=>renCs c r fun r=>k (v::r):=h
  obtain⟨u,h,h1⟩:=renC_ok (ρ:=ρ) h
  obtain⟨us,h,h2,h3⟩:=renCs_ok h
  refine⟨_,h,by simp[h2],fun M l' hl=>?_⟩
  obtain⟨v',r',rfl,q1,q2⟩:=hl.uncons
  exact .cons (h1 _ _ q1) (h3 _ _ q2)
def renG (c:Cur) (v:V) (k:V→Prop):Prop:=match v with
 | .agg cs=>renCs c cs fun cs=>k (.agg cs)
 | v=>renC c v k
theorem renG_ok {c:Cur} {v:V} {k:V→Prop} (h:renG c v k):∃u,k u∧∀M v',VRel ρ M v v'→VRel (renRho c ρ) M u v':=by
 unfold renG at h
 split at h
 ·obtain⟨us,h1,h2,h3⟩:=renCs_ok (ρ:=ρ) h
  refine⟨_,h1,fun M v' hv=>?_⟩
  cases hv with
  | agg q1 q2=>exact .agg (h3 M _ ⟨q1,q2⟩).1 (h3 M _ ⟨q1,q2⟩).2
 ·exact renC_ok h
noncomputable def renTs (ks:List Nat) (c:Cur) (i:Nat) (l:List V) (k:List V→Prop):Prop:=
 List.rec (motive:=fun _=>Nat→(List V→Prop)→Prop) (fun _ k=>k [])
  (fun v _ ih i k=>match ks.contains i with
   | true=>renG c v fun v=>ih (i+1) fun r=>k (v::r)
   | false=>ih (i+1) fun r=>k (.undef::r)) l i k
theorem renTs_ok {ks:List Nat} {c:Cur}:∀{l:List V} {i:Nat} {k:List V→Prop},renTs ks c i l k→∃us,k us∧∀M l',VsRel ρ M l l'→VsRel (renRho c ρ) M us l'
 | [],_,k,h=>⟨[],h,fun M l' hl=>by rw[hl.nil_inv];exact .nil⟩
 | v::r,i,k,h=>by
  replace h:(match ks.contains i with
   | true=>renG c v fun v=>renTs ks c (i+1) r fun r=>k (v::r)
   | false=>renTs ks c (i+1) r fun r=>k (.undef::r)):=h
  split at h
  ·obtain⟨u,h,h1⟩:=renG_ok (ρ:=ρ) h
   obtain⟨us,h,h3⟩:=renTs_ok h
   refine⟨_,h,fun M l' hl=>?_⟩
   obtain⟨v',r',rfl,q1,q2⟩:=hl.uncons
   exact .cons (h1 _ _ q1) (h3 _ _ q2)
  ·obtain⟨us,h,h3⟩:=renTs_ok h
   refine⟨_,h,fun M l' hl=>?_⟩
   obtain⟨v',r',rfl,q1,q2⟩:=hl.uncons
   exact .cons (.undef _) (h3 _ _ q2)
def renOb (c:Cur) (o:Option (Ob A)) (k:Option (Ob A)→Prop):Prop:=match o with
 | none=>k none
 | some (.box cs)=>renCs c cs fun cs=>k (some (.box cs))
 | some (.row z es f)=>PureEs es∧k (some (.row z es f))
 | some (.abs x)=>k (some (.abs x))
 | some (.prow xs)=>k (some (.prow xs))
theorem renOb_ok {R:Rep A} {c:Cur} {o:Option (Ob A)} {k:Option (Ob A)→Prop} (h:renOb c o k):∃o',k o'∧
  ∀ob',o'=some ob'→∃ob,o=some ob∧∀M w n n' S,renRho c ρ n'=ρ n→ObRel R ρ M w n S ob→ObRel R (renRho c ρ) M w n' S ob':=by
 unfold renOb at h
 split at h
 ·exact⟨none,h,fun _ e=>by cases e⟩
 ·obtain⟨us,h1,h2,h3⟩:=renCs_ok (ρ:=ρ) h
  refine⟨_,h1,fun ob' e=>?_⟩
  cases e
  refine⟨_,rfl,fun M w n n' S he ⟨b,T,cs',q1,q2,q3,q4,q5⟩=>⟨b,T,cs',q1,by rw[he,h2];exact q2,q3,h3 _ _ q4,q5⟩⟩
 ·obtain⟨hp,h⟩:=h
  refine⟨_,h,fun ob' e=>?_⟩
  cases e
  refine⟨_,rfl,fun M w n n' S he hh=>?_⟩
  rcases hh with⟨b,o,cc,T,cs',q1,q2,q3,q4,q5,q6,q7,q8⟩|⟨q1,q2,b,o,q3⟩
  case inr=>exact .inr ⟨q1,q2,b,o,he.trans q3⟩
  refine .inl ⟨b,o,cc,T,cs',q1,he.trans q2,q3,q4,q5,q6,fun i k e v a b'=>?_,q8⟩
  obtain⟨v',r1,r2⟩:=q7 i k e v a b'
  exact⟨v',r1,(hp e (List.mem_of_getElem? a) v (List.mem_of_getElem? b')).any r2⟩
 ·refine⟨_,h,fun ob' e=>?_⟩
  cases e
  exact⟨_,rfl,fun M w n n' S he ⟨b,q1,q2⟩=>⟨b,he.trans q1,q2⟩⟩
 ·refine⟨_,h,fun ob' e=>?_⟩
  cases e
  refine⟨_,rfl,fun M w n n' S he hh=>?_⟩
  rcases hh with⟨b,o,c,T,cs',bs,Ss,q1,q2⟩|⟨q1,q2,b,o,q3⟩
  ·exact .inl ⟨b,o,c,T,cs',bs,Ss,he.trans q1,q2⟩
  ·exact .inr ⟨q1,q2,b,o,he.trans q3⟩
noncomputable def renOs (os:List Nat) (c:Cur) (i:Nat) (l:List (Nat×Option (Ob A))) (k:List (Nat×Option (Ob A))→Prop):Prop:=
 List.rec (motive:=fun _=>Nat→(List (Nat×Option (Ob A))→Prop)→Prop) (fun _ k=>k [])
  (fun x _ ih i k=>match os.contains i with
   | true=>renOb c x.2 fun o=>ih (i+1) fun r=>k ((1,o)::r)
   | false=>ih (i+1) fun r=>k ((0,none)::r)) l i k
theorem renOs_ok {R:Rep A} {os:List Nat} {c:Cur}:∀{l:List (Nat×Option (Ob A))} {i:Nat} {k:List (Nat×Option (Ob A))→Prop},renOs os c i l k→∃us,k us∧us.length=l.length∧
  ∀(j g:Nat) (o':Option (Ob A)),us[j]?=some (g,o')→(os.contains (i+j)=false∧g=0∧o'=none)∨(os.contains (i+j)=true∧g=1∧∃g0 o,l[j]?=some (g0,o)∧
   ∀ob',o'=some ob'→∃ob,o=some ob∧∀M w n n' S,renRho c ρ n'=ρ n→ObRel R ρ M w n S ob→ObRel R (renRho c ρ) M w n' S ob')
 | [],_,k,h=>⟨[],h,rfl,fun j g o' e=>by simp at e⟩
 | x::r,i,k,h=>by
  replace h:(match os.contains i with
   | true=>renOb c x.2 fun o=>renOs os c (i+1) r fun r=>k ((1,o)::r)
   | false=>renOs os c (i+1) r fun r=>k ((0,none)::r)):=h
  split at h
  ·rename_i hc
   obtain⟨o1,h,h1⟩:=renOb_ok (ρ:=ρ) (R:=R) h
   obtain⟨us,h,h2,h3⟩:=renOs_ok (R:=R) h
   refine⟨_,h,by simp[h2],fun j g o' e=>?_⟩
   cases j with
   | zero=>
    simp only[List.getElem?_cons_zero,Option.some.injEq,Prod.mk.injEq] at e
    obtain⟨rfl,rfl⟩:=e
    exact .inr ⟨hc,rfl,x.1,x.2,rfl,h1⟩
   | succ j=>
    have:=h3 j g o' (by simpa using e)
    rwa [show i+1+j=i+(j+1) by omega] at this
  ·rename_i hc
   obtain⟨us,h,h2,h3⟩:=renOs_ok (R:=R) h
   refine⟨_,h,by simp[h2],fun j g o' e=>?_⟩
   cases j with
   | zero=>
    simp only[List.getElem?_cons_zero,Option.some.injEq,Prod.mk.injEq] at e
    exact .inl ⟨hc,e.1.symm,e.2.symm⟩
   | succ j=>
    have:=h3 j g o' (by simpa using e)
    rwa [show i+1+j=i+(j+1) by omega] at this
noncomputable def renAs (c:Cur) (l:List (Option (Ob A))) (k:List (Option (Ob A))→Prop):Prop:=
 List.rec (motive:=fun _=>(List (Option (Ob A))→Prop)→Prop) (fun k=>k []) (fun x _ ih k=>renOb c x fun o=>ih fun r=>k (o::r)) l k
theorem renAs_ok {R:Rep A} {c:Cur}:∀{l:List (Option (Ob A))} {k:List (Option (Ob A))→Prop},renAs c l k→∃us,k us∧
  ∀(j:Nat) (o':Option (Ob A)),us[j]?=some o'→∃o,l[j]?=some o∧
   ∀ob',o'=some ob'→∃ob,o=some ob∧∀M w n n' S,renRho c ρ n'=ρ n→ObRel R ρ M w n S ob→ObRel R (renRho c ρ) M w n' S ob'
 | [],k,h=>⟨[],h,fun j o' e=>by simp at e⟩
 | x::r,k,h=>by
  replace h:renOb c x fun o=>renAs c r fun r=>k (o::r):=h
  obtain⟨o1,h,h1⟩:=renOb_ok (ρ:=ρ) (R:=R) h
  obtain⟨us,h,h3⟩:=renAs_ok (R:=R) h
  refine⟨_,h,fun j o' e=>?_⟩
  cases j with
  | zero=>simp only[List.getElem?_cons_zero,Option.some.injEq] at e;subst e;exact⟨x,rfl,h1⟩
  | succ j=>exact h3 j o' (by simpa using e)
def curG (os:List Nat) (o:List (Nat×Option (Ob A))):Cur:=fun s=>match os.contains s with
 | true=>match lget o s with
  | some p=>some p.1
  | none=>none
 | false=>none
noncomputable def normK (ks os:List Nat) (st:St A) (k:St A→Prop):Prop:=match st with
 | ⟨t,o,a⟩=>renTs ks (curG os o) 0 t fun t=>renOs os (curG os o) 0 o fun o'=>renAs (curG os o) a fun a=>k ⟨t,o',a⟩
def backN (c:Cur) (n:Name):Name:=match n with
 | (0,a)=>(0,a)
 | (s+1,_)=>match c s with
  | some g0=>(s+1,g0)
  | none=>(s+1,0)
theorem Sat.norm [Deep A] {C:Cx A} (h:Sat C.R E st a w) {ks os:List Nat} {k:St A→Prop} (hk:normK ks os st k):∃st',k st'∧Sat C.R E st' a w:=by
 obtain⟨ρ,M,S,h⟩:=h
 obtain⟨t,o,ar⟩:=st
 unfold normK at hk
 obtain⟨t',hk,ht⟩:=renTs_ok (ρ:=ρ) hk
 obtain⟨o',hk,hlen,ho⟩:=renOs_ok (ρ:=ρ) (R:=C.R) hk
 obtain⟨a',hk,ha⟩:=renAs_ok (ρ:=ρ) (R:=C.R) hk
 refine⟨_,hk,?_⟩
 have key:∀n' ob',(St.mk t' o' a').get n'=some ob'→(∃ob,(St.mk t o ar).get (backN (curG os o) n')=some ob∧renRho (curG os o) ρ n'=ρ (backN (curG os o) n')∧
   ∀M w S,ObRel C.R ρ M w (backN (curG os o) n') S ob→ObRel C.R (renRho (curG os o) ρ) M w n' S ob')∧(n'.1=0∨n'.2=1∧(backN (curG os o) n').1=n'.1):=by
  rintro⟨n1,g⟩ ob' hn
  cases n1 with
  | zero=>
   refine⟨?_,.inl rfl⟩
   simp only[St.get] at hn
   split at hn
   ·rename_i x hx
    subst hn
    obtain⟨o2,q1,q2⟩:=ha g _ hx
    obtain⟨ob,rfl,q3⟩:=q2 _ rfl
    exact⟨ob,by simp[backN,St.get,q1],rfl,fun M w S h=>q3 _ _ _ _ _ rfl h⟩
   ·cases hn
  | succ s=>
   have hs:=St.get_slot_gen hn
   simp only at hs
   rcases ho s g _ hs with⟨_,_,e⟩|⟨h1,rfl,g0,o2,h2,h3⟩
   ·cases e
   ·rw[Nat.zero_add] at h1
    obtain⟨ob,rfl,q3⟩:=h3 _ rfl
    have hc:curG os o s=some g0:=by unfold curG;rw[h1];simp only[lget_eq,h2]
    have hb:backN (curG os o) (s+1,1)=(s+1,g0):=by simp[backN,hc]
    have hr:renRho (curG os o) ρ (s+1,1)=ρ (s+1,g0):=by simp[renRho,hc]
    rw[hb]
    refine⟨⟨ob,by simp[St.get,h2],hr,fun M w S h=>q3 _ _ _ _ _ hr h⟩,.inr ⟨rfl,rfl⟩⟩
 refine⟨renRho (curG os o) ρ,M,fun n=>S (backN (curG os o) n),{
  defers:=h.defers
  tmps:=ht _ _ h.tmps
  mem:=h.mem
  objs:=fun n' ob' hn=>by
   obtain⟨⟨ob,h1,_,h3⟩,_⟩:=key n' ob' hn
   exact h3 _ _ _ (h.objs _ _ h1)
  disj:=fun n1 n2 o1 o2 h1 h2 hne=>by
   obtain⟨⟨ob1,q1,_⟩,p1⟩:=key _ _ h1
   obtain⟨⟨ob2,q2,_⟩,p2⟩:=key _ _ h2
   refine h.disj _ _ _ _ q1 q2 fun e=>hne ?_
   obtain⟨s1,g1⟩:=n1
   obtain⟨s2,g2⟩:=n2
   rcases p1 with p1|⟨p1,r1⟩
   ·simp only at p1;subst p1
    rcases p2 with p2|⟨p2,r2⟩
    ·simp only at p2;subst p2;exact e
    ·exfalso
     rw[←e] at r2
     simp only[backN] at r2
     subst r2
     exact hne e
   ·rcases p2 with p2|⟨p2,r2⟩
    ·simp only at p2;subst p2
     rw[e] at r1
     simp only[backN] at r1
     subst r1
     exact e
    ·rw[e,r2] at r1
     simp only at p1 p2 r1
     rw[p1,p2,r1]
  blt:=fun n' ob' hn=>by
   obtain⟨⟨ob,h1,_⟩,_⟩:=key n' ob' hn
   exact h.blt _ _ h1
  own:=fun n' ob' hn=>by
   obtain⟨⟨ob,h1,_⟩,_⟩:=key n' ob' hn
   exact h.own _ _ h1
  fresh:=fun n g hg=>by
   simp only[renRho]
   split
   ·rename_i g0 hc
    split
    ·rename_i hg1
     obtain rfl:=Nat.eq_of_beq_eq_true hg1
     exfalso
     unfold curG at hc
     split at hc
     ·rename_i hos
      rw[lget_eq] at hc
      split at hc
      ·rename_i p hp
       have hlt:n<o'.length:=by
        rw[hlen];exact(List.getElem?_eq_some_iff.1 hp).1
       have h1:=hg o'[n] (List.getElem?_eq_getElem hlt)
       rcases ho n o'[n].1 o'[n].2 (List.getElem?_eq_getElem hlt) with⟨q1,_⟩|⟨_,q2,_⟩
       ·rw[Nat.zero_add,hos] at q1;cases q1
       ·omega
      ·cases hc
     ·cases hc
    ·rfl
   ·rfl
  hsize:=h.hsize
  keep:=h.keep
  os:=h.os
  tape:=h.tape
  output:=h.output
  M0:=h.M0
  Mnew:=h.Mnew
  ρ0:=fun k x e=>h.ρ0 k x e}⟩
theorem VLoop.norm [Deep A] {C:Cx A} {b:Code} {K:Exit→St A→Prop} (ks os:List Nat) (h:normK ks os st fun st=>VLoop C E b st K):VLoop C E b st K:=by
 unfold VLoop at h ⊢
 intro a w hs
 obtain⟨st',h1,h2⟩:=hs.norm h
 exact h1 a w h2
theorem cutLoops [Deep A] {C:Cx A} {b:Code} {K:Exit→St A→Prop} {X:Prop} {ι:Type} (f:ι→St A) (I:ι→Prop) (h:(∀i,I i→VLoop C E b (f i) K)→X) (h':∀i,I i→VLoop C E b (f i) K):X:=h h'
def mkSt (n:Nat) (ts:List (Nat×V)) (os:List (Nat×Ob A)) (ar:List (Option (Ob A))):St A:=
 ⟨ts.foldl (fun l x=>lset l x.1 x.2) (List.replicate n .undef),os.foldl (fun l x=>lset l x.1 (1,some x.2)) (List.replicate n (0,none)),ar⟩
end Go.Vm
