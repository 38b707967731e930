/- A part of the proofs over the seat YtbppemcdphgknaaGreatDoor. -/
import Derived.Test.YtbppemcdphgknaaGreatDoorVm4
set_option linter.unusedVariables false
set_option linter.unusedSimpArgs false
namespace Go.Vm
open Go
variable {P:Program} {T:TT} {A:Type} {ρ:Rho} {M:Mem} {w:World} {f:Name→Option (Ob A)} {ns:List Name}
theorem vfieldAddr_sound (hT:TOk P T) {t fi:Nat} {x:V} {x':Value} (hx:VRel ρ M x x') {v:V} (hr:Rd.Runs f (vfieldAddr T t x fi) v ns) :
  ∃v',(Instr.fieldAt t x' fi).run P w=.ok v' w∧VRel ρ M v v':=by
 unfold vfieldAddr at hr
 split at hr
 case h_2=>cases hr
 rename_i fs hk
 split at hr
 case h_2=>cases hr
 rename_i off ft hf
 replace hr:=Runs.when hr
 obtain⟨hs,hr⟩:=hr
 have hi:=hT.kind (t:=t) (by rw[hk];simp)
 have hkk:=hi.kind
 rw[hk] at hkk
 obtain⟨F,hF,hFs,_⟩:=hkk
 have hsz:(T.at ft).size≠0:=by simpa using hs
 have hft:=hT.size hsz
 rw[lget_eq,←hFs,List.getElem?_map] at hf
 cases hFf:F.toList[fi]? with
 | none=>rw[hFf] at hf;cases hf
 | some fd=>
  rw[hFf] at hf
  simp at hf
  obtain⟨rfl,rfl⟩:=hf
  have hFf':F[fi]?=some fd:=by simpa using hFf
  have hrun:∀b o,(Instr.fieldAt t (.pointer (some ⟨b,o,none⟩)) fi).run P w=.ok (.pointer (some ⟨b,o+fd.offset,none⟩)) w:=by
   intro b o
   simp[Instr.fieldAt,run_underlying hF,hFf',Instr.sureAddr,fieldPlace,hft.run_size w,hsz,Addr.add_none]
  cases hx with
  | ref hn=>obtain rfl:=Runs.ret hr;exact⟨_,hrun _ _,by rw[Nat.add_assoc];exact .ref hn⟩
  | rpt hn=>obtain rfl:=Runs.ret hr;exact⟨_,hrun _ _,by rw[Nat.add_assoc,Nat.add_assoc];exact .rpt hn⟩
  | lpt vals h1 h2 h3=>obtain rfl:=Runs.ret hr;exact⟨_,hrun _ _,by rw[Nat.add_assoc,Nat.add_assoc];exact .lpt vals h1 h2 h3⟩
  | sub h1 h2=>obtain rfl:=Runs.ret hr;exact⟨_,hrun _ _,by rw[Nat.add_assoc];exact .sub h1 h2⟩
  | _=>cases hr
theorem vint_sound {x:V} {x':Value} (hx:VRel ρ M x x') {n:Int} (hr:Rd.Runs f (vint x) n ns):∃k,x'=.int k n:=by
 cases hx with
 | int k m=>obtain rfl:=Runs.ret hr;exact⟨k,rfl⟩
 | _=>cases hr
theorem vindexAddr_sound (hT:TOk P T) {t:Nat} {x i:V} {x' i':Value} (hx:VRel ρ M x x') (hi:VRel ρ M i i') {v:V} (hr:Rd.Runs f (vindexAddr T t x i) v ns) :
  ∃v',(Instr.indexAt t x' i').run P w=.ok v' w∧VRel ρ M v v':=by
 unfold vindexAddr at hr
 replace hr:=hr.bind_inv
 obtain⟨j,n1,n2,h1,hr,_⟩:=hr
 obtain⟨k,rfl⟩:=vint_sound hi h1
 split at hr
 case h_3=>cases hr
 case h_1 n e hk=>
  have hkk:=(hT.kind (t:=t) (by rw[hk];simp)).kind
  rw[hk] at hkk
  have hkk:P.underlying t=some (.array n e):=hkk.1
  replace hr:=Runs.when hr
  obtain⟨hs,hr⟩:=hr
  have he:=hT.size (t:=e) (by simpa using hs)
  replace hr:=Runs.need hr
  obtain⟨hb,hr⟩:=hr
  have hrun:∀b o,(Instr.indexAt t (.pointer (some ⟨b,o,none⟩)) (.int k j)).run P w=.ok (.pointer (some ⟨b,o+j.toNat*(T.at e).size,none⟩)) w:=by
   intro b o
   simp[Instr.indexAt,asIntOf,run_underlying hkk,Instr.sureAddr,hb,he.run_size w,Addr.add_none]
  cases hx with
  | ref hn=>replace hr:=Runs.ret hr;subst hr;exact⟨_,hrun _ _,by rw[Nat.add_assoc];exact .ref hn⟩
  | rpt hn=>replace hr:=Runs.ret hr;subst hr;exact⟨_,hrun _ _,by rw[Nat.add_assoc,Nat.add_assoc];exact .rpt hn⟩
  | lpt vals h1 h2 h3=>replace hr:=Runs.ret hr;subst hr;exact⟨_,hrun _ _,by rw[Nat.add_assoc,Nat.add_assoc];exact .lpt vals h1 h2 h3⟩
  | sub h1 h2=>replace hr:=Runs.ret hr;subst hr;exact⟨_,hrun _ _,by rw[Nat.add_assoc];exact .sub h1 h2⟩
  | _=>cases hr
 case h_2 e hk=>
  have hkk:=(hT.kind (t:=t) (by rw[hk];simp)).kind
  rw[hk] at hkk
  have hkk:P.underlying t=some (.slice e):=hkk
  replace hr:=Runs.when hr
  obtain⟨hs,hr⟩:=hr
  have he:=hT.size (t:=e) (by simpa using hs)
  have hrun:∀b o len cap,(0≤j∧j<(len:Nat))→(Instr.indexAt t (.slice (some ⟨b,o,none⟩) len cap) (.int k j)).run P w=.ok (.pointer (some ⟨b,o+j.toNat*(T.at e).size,none⟩)) w:=by
   intro b o len cap hb
   simp[Instr.indexAt,asIntOf,run_underlying hkk,Instr.sureAddr,hb,he.run_size w,Addr.add_none]
  cases hx with
  | @asl n sz off len cap b o c hn hc=>
   replace hr:=Runs.when hr
   obtain⟨h1,hr⟩:=hr
   replace hr:=Runs.need hr
   obtain⟨hb,hr⟩:=hr
   replace hr:=Runs.ret hr;subst hr
   obtain rfl:sz=(T.at e).size:=by simpa using h1
   exact⟨_,hrun _ _ _ _ hb,by rw[Nat.add_assoc];exact .ref hn⟩
  | @rsl n sz i len b o c cap hn h2 h3=>
   replace hr:=Runs.when hr
   obtain⟨h1,hr⟩:=hr
   replace hr:=Runs.need hr
   obtain⟨hb,hr⟩:=hr
   replace hr:=Runs.ret hr;subst hr
   obtain rfl:sz=(T.at e).size:=by simpa using h1
   exact⟨_,hrun _ _ _ _ hb,by rw[Nat.add_assoc,←Nat.add_mul];exact .rpt (k:=0) hn⟩
  | @lst sz es b o cap vals h2 h3 h4 hcap=>
   replace hr:=Runs.when hr
   obtain⟨h1,hr⟩:=hr
   replace hr:=Runs.need hr
   obtain⟨hb,hr⟩:=hr
   replace hr:=Runs.ret hr;subst hr
   obtain rfl:sz=(T.at e).size:=by simpa using h1
   exact⟨_,hrun _ _ _ _ hb,.lpt (k₀:=0) vals h2 h3 h4⟩
  | asl0=>
   replace hr:=Runs.when hr
   obtain⟨h1,hr⟩:=hr
   replace hr:=Runs.need hr
   obtain⟨hb,hr⟩:=hr
   simp at hb;omega
  | rsl0=>
   replace hr:=Runs.when hr
   obtain⟨h1,hr⟩:=hr
   replace hr:=Runs.need hr
   obtain⟨hb,hr⟩:=hr
   simp at hb;omega
  | lst0=>
   replace hr:=Runs.when hr
   obtain⟨h1,hr⟩:=hr
   replace hr:=Runs.need hr
   obtain⟨hb,hr⟩:=hr
   simp at hb;omega
  | _=>cases hr
theorem vbound_sound {v:V} {v':Value} (hv:VRel ρ M v v') {y n:Nat} {code:BoundsCode} (hr:Rd.Runs f (vbound v y) n ns):n≤y∧(Instr.sliceBound v' y code).run P w=.ok n w:=by
 unfold vbound at hr
 replace hr:=hr.bind_inv
 obtain⟨j,n1,n2,h1,hr,_⟩:=hr
 obtain⟨k,rfl⟩:=vint_sound hv h1
 replace hr:=Runs.need hr
 obtain⟨hb,hr⟩:=hr
 replace hr:=Runs.ret hr;subst hr
 refine⟨by omega,?_⟩
 simp[Instr.sliceBound,asIntOf,hb]
def ORel (ρ:Rho) (M:Mem):Option V→Option Value→Prop
 | none,none=>True
 | some v,some v'=>VRel ρ M v v'
 | _,_=>False
theorem vbounds_sound {isSlice:Bool} {len cap:Nat} {lo hi mx:Option V} {lo' hi' mx':Option Value} (hl:ORel ρ M lo lo') (hh:ORel ρ M hi hi') (hm:ORel ρ M mx mx') {r:Nat×Nat×Nat}
  (hlc:len≤cap) (hr:Rd.Runs f (vbounds len cap lo hi mx) r ns):r.1≤r.2.1∧r.2.1≤r.2.2∧r.2.2≤cap∧(Instr.sliceBounds isSlice len cap lo' hi' mx').run P w=.ok r w:=by
 unfold vbounds at hr
 replace hr:=hr.bind_inv
 obtain⟨m,n1,n2,h1,hr,_⟩:=hr
 replace hr:=hr.bind_inv
 obtain⟨h,n3,n4,h2,hr,_⟩:=hr
 replace hr:=hr.bind_inv
 obtain⟨l,n5,n6,h3,hr,_⟩:=hr
 replace hr:=Runs.ret hr;subst hr
 have step1:m≤cap∧((match (generalizing:=false) mx' with
   | some v=>Instr.sliceBound v cap (if isSlice then .slice3Acap else .slice3Alen)
   | none=>pure cap:Sem Nat)).run P w=.ok m w:=by
  cases mx<;>cases mx'<;>simp only[ORel] at hm
  ·replace h1:=Runs.ret h1;subst h1;exact⟨Nat.le_refl _,rfl⟩
  ·exact vbound_sound hm h1
 have step2:h≤m∧((match (generalizing:=false) hi',mx' with
   | some v,some _=>Instr.sliceBound v m .slice3B
   | some v,none=>Instr.sliceBound v m (if isSlice then .sliceAcap else .sliceAlen)
   | none,none=>pure len
   | none,some _=>stuck "Slice: max without high" : Sem Nat)).run P w=.ok h w:=by
  cases hi<;>cases hi'<;>simp only[ORel] at hh
  ·cases mx<;>cases mx'<;>simp only[ORel] at hm
   ·replace h1:=Runs.ret h1;subst h1
    replace h2:=Runs.ret h2;subst h2
    exact⟨hlc,rfl⟩
   ·cases h2
  ·cases mx<;>cases mx'<;>simp only[ORel] at hm
   ·exact vbound_sound hh h2
   ·exact vbound_sound hh h2
 have step3:l≤h∧((match (generalizing:=false) lo' with
   | some v=>Instr.sliceBound v h (if mx'.isSome then .slice3C else .sliceB)
   | none=>pure 0:Sem Nat)).run P w=.ok l w:=by
  cases lo<;>cases lo'<;>simp only[ORel] at hl
  ·replace h3:=Runs.ret h3;subst h3;exact⟨Nat.zero_le _,rfl⟩
  ·exact vbound_sound hl h3
 refine⟨step3.1,step2.1,step1.1,?_⟩
 have e1:=step1.2
 have e2:=step2.2
 have e3:=step3.2
 clear step1 step2 step3 h1 h2 h3 hl hh hm
 unfold Instr.sliceBounds
 cases mx'<;>cases hi'<;>cases lo'<;>simp at e1 e2 e3<;>simp[e1,e2,e3]
theorem vbounds_none {isSlice:Bool} {len cap:Nat} {lo hi:Option V} {lo' hi':Option Value} (hl:ORel ρ M lo lo') (hh:ORel ρ M hi hi') {r:Nat×Nat×Nat}
  (hlc:len≤cap) (hr:Rd.Runs f (vbounds len len lo hi none) r ns):r.1≤r.2.1∧r.2.1≤len∧(Instr.sliceBounds isSlice len cap lo' hi' none).run P w=.ok (r.1,r.2.1,cap) w:=by
 unfold vbounds at hr
 replace hr:=hr.bind_inv
 obtain⟨m,n1,n2,h1,hr,_⟩:=hr
 replace hr:=hr.bind_inv
 obtain⟨h,n3,n4,h2,hr,_⟩:=hr
 replace hr:=hr.bind_inv
 obtain⟨l,n5,n6,h3,hr,_⟩:=hr
 replace hr:=Runs.ret hr;subst hr
 replace h1:=Runs.ret h1;subst h1
 have wide:∀{v:V} {v':Value} {code:BoundsCode} {n:Nat} {ks:List Name},VRel ρ M v v'→Rd.Runs f (vbound v m) n ks→n≤m∧(Instr.sliceBound v' cap code).run P w=.ok n w:=by
  intro v v' code n ks hv hr
  unfold vbound at hr
  replace hr:=hr.bind_inv
  obtain⟨j,n1,n2,h1,hr,_⟩:=hr
  obtain⟨k,rfl⟩:=vint_sound hv h1
  replace hr:=Runs.need hr
  obtain⟨hb,hr⟩:=hr
  replace hr:=Runs.ret hr;subst hr
  refine⟨by omega,?_⟩
  have:0≤j∧j≤(cap:Int):=by omega
  simp[Instr.sliceBound,asIntOf,this]
 have step2:h≤m∧((match (generalizing:=false) hi' with
   | some v=>Instr.sliceBound v cap (if isSlice then .sliceAcap else .sliceAlen)
   | none=>pure m:Sem Nat)).run P w=.ok h w:=by
  cases hi<;>cases hi'<;>simp only[ORel] at hh
  ·replace h2:=Runs.ret h2;subst h2;exact⟨Nat.le_refl _,rfl⟩
  ·exact wide hh h2
 have step3:l≤h∧((match (generalizing:=false) lo' with
   | some v=>Instr.sliceBound v h .sliceB
   | none=>pure 0:Sem Nat)).run P w=.ok l w:=by
  cases lo<;>cases lo'<;>simp only[ORel] at hl
  ·replace h3:=Runs.ret h3;subst h3;exact⟨Nat.zero_le _,rfl⟩
  ·exact vbound_sound hl h3
 refine⟨step3.1,step2.1,?_⟩
 have e2:=step2.2
 have e3:=step3.2
 clear step2 step3 h2 h3 hl hh wide
 unfold Instr.sliceBounds
 cases hi'<;>cases lo'<;>simp at e2 e3<;>simp[e2,e3]
theorem addr_if (b o l m sz:Nat) (h:l≤m):(if m=l then(⟨b,o,none⟩:Addr) else(⟨b,o,none⟩:Addr).add (l*sz))=if m=l then⟨b,o,none⟩ else⟨b,o+l*sz,none⟩:=by
 split
 ·rfl
 ·rw[Addr.add_none]
theorem vslice_sound (hT:TOk P T) {t:Nat} {x:V} {x':Value} (hx:VRel ρ M x x') {lo hi mx:Option V} {lo' hi' mx':Option Value} (hl:ORel ρ M lo lo') (hh:ORel ρ M hi hi') (hm:ORel ρ M mx mx')
  {v:V} (hr:Rd.Runs f (vslice T t x lo hi mx) v ns):∃v',(Instr.sliceAt t x' lo' hi' mx').run P w=.ok v' w∧VRel ρ M v v':=by
 unfold vslice at hr
 split at hr
 case h_3=>cases hr
 case h_1 n e hk=>
  have hkk:=(hT.kind (t:=t) (by rw[hk];simp)).kind
  rw[hk] at hkk
  have hkk:P.underlying t=some (.array n e):=hkk.1
  replace hr:=Runs.when hr
  obtain⟨hs,hr⟩:=hr
  have he:=hT.size (t:=e) (by simpa using hs)
  cases hx with
  | @ref nm off b o c hn=>
   replace hr:=hr.bind_inv
   obtain⟨⟨l,h,m⟩,n1,n2,h1,hr,_⟩:=hr
   replace hr:=Runs.ret hr;subst hr
   obtain⟨a1,a2,a3,hrun⟩:=vbounds_sound (P:=P) (w:=w) (isSlice:=false) hl hh hm (Nat.le_refl _) h1
   refine⟨.slice (some (if m=l then⟨b,o+off,none⟩ else(⟨b,o+off,none⟩:Addr).add (l*(T.at e).size))) (h-l) (m-l),?_,?_⟩
   ·simp[Instr.sliceAt,run_underlying hkk,Instr.sureAddr,hrun,he.run_size w]
   ·rw[addr_if _ _ _ _ _ (by simp at a1 a2;omega)]
    by_cases hml:m=l
    ·have h0:h-l=0:=by simp at a1 a2;omega
     have h1:m-l=0:=by omega
     rw[if_pos hml,h0,h1];exact .asl0
    ·rw[if_neg hml,Nat.add_assoc];exact .asl hn (by simp at a1 a2 ⊢;omega)
  | _=>cases hr
 case h_2 e hk=>
  have hkk:=(hT.kind (t:=t) (by rw[hk];simp)).kind
  rw[hk] at hkk
  have hkk:P.underlying t=some (.slice e):=hkk
  replace hr:=Runs.when hr
  obtain⟨hs,hr⟩:=hr
  have he:=hT.size (t:=e) (by simpa using hs)
  have hrun:∀p len cap l h m,(Instr.sliceBounds true len cap lo' hi' mx').run P w=.ok (l,h,m) w→
    (Instr.sliceAt t (.slice p len cap) lo' hi' mx').run P w=.ok (.slice (if m=l then p else p.map (·.add (l*(T.at e).size))) (h-l) (m-l)) w:=by
   intro p len cap l h m hb
   simp[Instr.sliceAt,Instr.slice,run_underlying hkk,hb,he.run_size w]
  cases hx with
  | @asl nm sz off len cap b o c hn hc=>
   replace hr:=Runs.when hr
   obtain⟨h1,hr⟩:=hr
   obtain rfl:sz=(T.at e).size:=by simpa using h1
   replace hr:=hr.bind_inv
   obtain⟨⟨l,h,m⟩,n1,n2,h2,hr,_⟩:=hr
   replace hr:=Runs.ret hr;subst hr
   obtain⟨a1,a2,a3,hb⟩:=vbounds_sound (P:=P) (w:=w) (isSlice:=true) hl hh hm hc h2
   refine⟨_,hrun _ _ _ _ _ _ hb,?_⟩
   simp only[Option.map_some]
   rw[Addr.add_none]
   by_cases hml:m=l
   ·have h0:h-l=0:=by simp at a1 a2;omega
    have h1:m-l=0:=by omega
    rw[if_pos hml];simp only[h0,h1];exact .asl0
   ·rw[if_neg hml,Nat.add_assoc];exact .asl hn (by simp at a1 a2 ⊢;omega)
  | asl0=>
   replace hr:=Runs.when hr
   obtain⟨h1,hr⟩:=hr
   replace hr:=hr.bind_inv
   obtain⟨⟨l,h,m⟩,n1,n2,h2,hr,_⟩:=hr
   replace hr:=Runs.ret hr;subst hr
   obtain⟨a1,a2,a3,hb⟩:=vbounds_sound (P:=P) (w:=w) (isSlice:=true) hl hh hm (Nat.le_refl _) h2
   simp at a1 a2 a3
   obtain rfl:m=0:=by omega
   obtain rfl:h=0:=by omega
   obtain rfl:l=0:=by omega
   exact⟨_,hrun _ _ _ _ _ _ hb,.asl0⟩
  | @rsl nm sz i len b o c cap hn h2 h3=>
   cases mx with
   | some x=>cases hr
   | none=>
    cases mx' with
    | some x=>exact hm.elim
    | none=>
     replace hr:=Runs.when hr
     obtain⟨h1,hr⟩:=hr
     obtain rfl:sz=(T.at e).size:=by simpa using h1
     replace hr:=hr.bind_inv
     obtain⟨⟨l,h,m⟩,n1,n2,h4,hr,_⟩:=hr
     replace hr:=Runs.ret hr;subst hr
     obtain⟨a1,a2,hb⟩:=vbounds_none (P:=P) (w:=w) (isSlice:=true) hl hh h3 h4
     refine⟨_,hrun _ _ _ _ _ _ hb,?_⟩
     simp only[Option.map_some]
     rw[Addr.add_none]
     simp only at a1 a2 ⊢
     by_cases hml:cap=l
     ·have h0:h-l=0:=by omega
      have h1:cap-l=0:=by omega
      rw[if_pos hml,h0,h1];exact .rsl0
     ·rw[if_neg hml,Nat.add_assoc,←Nat.add_mul]
      exact .rsl hn (by rw[show i+l+(cap-l)=i+cap by omega];exact h2) (by omega)
  | rsl0=>
   cases mx with
   | some x=>cases hr
   | none=>
    cases mx' with
    | some x=>exact hm.elim
    | none=>
     replace hr:=Runs.when hr
     obtain⟨h1,hr⟩:=hr
     replace hr:=hr.bind_inv
     obtain⟨⟨l,h,m⟩,n1,n2,h4,hr,_⟩:=hr
     replace hr:=Runs.ret hr;subst hr
     obtain⟨a1,a2,hb⟩:=vbounds_none (P:=P) (w:=w) (isSlice:=true) hl hh (Nat.le_refl _) h4
     simp at a1 a2
     obtain rfl:h=0:=by omega
     obtain rfl:l=0:=by omega
     exact⟨_,hrun _ _ _ _ _ _ hb,.rsl0⟩
  | @lst sz es b o cap vals h2 h3 h4 hcap=>
   cases mx with
   | some x=>cases hr
   | none=>
    cases mx' with
    | some x=>exact hm.elim
    | none=>
     replace hr:=Runs.when hr
     obtain⟨h1,hr⟩:=hr
     obtain rfl:sz=(T.at e).size:=by simpa using h1
     replace hr:=hr.bind_inv
     obtain⟨⟨l,h,m⟩,n1,n2,h5,hr,_⟩:=hr
     replace hr:=Runs.ret hr;subst hr
     obtain⟨a1,a2,hb⟩:=vbounds_none (P:=P) (w:=w) (isSlice:=true) hl hh hcap h5
     refine⟨_,hrun _ _ _ _ _ _ hb,?_⟩
     simp only[Option.map_some]
     rw[Addr.add_none]
     simp only at a1 a2 ⊢
     have hlen:((es.drop l).take (h-l)).length=h-l:=by simp;omega
     by_cases hml:cap=l
     ·have h0:h-l=0:=by omega
      have h1:cap-l=0:=by omega
      rw[if_pos hml,h0,h1,List.take_zero];exact .lst0
     ·rw[if_neg hml]
      have:=VRel.lst (ρ:=ρ) (M:=M) (sz:=(T.at e).size) (es:=(es.drop l).take (h-l)) (b:=b) (o:=o+l*(T.at e).size) (cap:=cap-l) (fun i k=>vals (l+i) k)
       (fun x hx=>h2 x (List.mem_of_mem_drop (List.mem_of_mem_take hx)))
       (fun i k x v hx hv=>by
        rw[List.getElem?_take] at hx
        split at hx
        ·rw[List.getElem?_drop] at hx;exact h3 _ k x v hx hv
        ·cases hx)
       (fun i k hi hk=>by
        rw[hlen] at hi
        have:=h4 (l+i) k (by omega) hk
        rw[show o+((l+i)*(T.at e).size+k)=o+l*(T.at e).size+(i*(T.at e).size+k) by rw[Nat.add_mul];omega] at this
        exact this)
       (by rw[hlen];omega)
      rw[hlen] at this
      exact this
  | lst0=>
   cases mx with
   | some x=>cases hr
   | none=>
    cases mx' with
    | some x=>exact hm.elim
    | none=>
     replace hr:=Runs.when hr
     obtain⟨h1,hr⟩:=hr
     replace hr:=hr.bind_inv
     obtain⟨⟨l,h,m⟩,n1,n2,h4,hr,_⟩:=hr
     replace hr:=Runs.ret hr;subst hr
     obtain⟨a1,a2,hb⟩:=vbounds_none (P:=P) (w:=w) (isSlice:=true) (cap:=_) hl hh (Nat.zero_le _) h4
     simp at a1 a2
     obtain rfl:h=0:=by omega
     obtain rfl:l=0:=by omega
     exact⟨_,hrun _ _ _ _ _ _ hb,by simpa using .lst0⟩
  | nils=>
   replace hr:=hr.bind_inv
   obtain⟨⟨l,h,m⟩,n1,n2,h2,hr,_⟩:=hr
   replace hr:=Runs.ret hr;subst hr
   obtain⟨a1,a2,a3,hb⟩:=vbounds_sound (P:=P) (w:=w) (isSlice:=true) hl hh hm (Nat.le_refl _) h2
   simp at a1 a2 a3
   obtain rfl:m=0:=by omega
   obtain rfl:h=0:=by omega
   obtain rfl:l=0:=by omega
   exact⟨_,hrun _ _ _ _ _ _ hb,.nils⟩
  | _=>cases hr
theorem vfield_sound (hT:TOk P T) {t fi:Nat} {x:V} {x':Value} (hx:VRel ρ M x x') {v:V} (hr:Rd.Runs f (vfield T t x fi) v ns) :
  ∃v',(Instr.field t x' fi).run P w=.ok v' w∧VRel ρ M v v':=by
 unfold vfield at hr
 split at hr
 case h_2=>cases hr
 rename_i fs cs hk
 split at hr
 case h_2=>cases hr
 rename_i off ft hf
 have hkk:=(hT.kind (t:=t) (by rw[hk];simp)).kind
 rw[hk] at hkk
 obtain⟨F,hF,hFs,_⟩:=hkk
 rw[lget_eq,←hFs,List.getElem?_map] at hf
 cases hFf:F.toList[fi]? with
 | none=>rw[hFf] at hf;cases hf
 | some fd=>
  rw[hFf] at hf
  simp at hf
  obtain⟨rfl,rfl⟩:=hf
  have hFf':F[fi]?=some fd:=by simpa using hFf
  cases hx with
  | @agg _ cs' h1 h2=>
   obtain⟨v',e1,e2⟩:=part_sound (P:=P) (w:=w) (partOf_ok hT hr) ⟨h1,h2⟩ hr
   exact⟨v',by simp[Instr.field,run_underlying hF,hFf',asAgg,e1],e2⟩
theorem vindex_sound (hT:TOk P T) {t:Nat} {x i:V} {x' i':Value} (hx:VRel ρ M x x') (hi:VRel ρ M i i') {v:V} (hr:Rd.Runs f (vindex T t x i) v ns) :
  ∃v',(Instr.index t x' i').run P w=.ok v' w∧VRel ρ M v v':=by
 unfold vindex at hr
 split at hr
 case h_2=>cases hr
 rename_i n e cs hk
 have hkk:=(hT.kind (t:=t) (by rw[hk];simp)).kind
 rw[hk] at hkk
 have hkk:P.underlying t=some (.array n e):=hkk.1
 replace hr:=hr.bind_inv
 obtain⟨j,n1,n2,h1,hr,_⟩:=hr
 obtain⟨k,rfl⟩:=vint_sound hi h1
 replace hr:=Runs.need hr
 obtain⟨hb,hr⟩:=hr
 have he:=partOf_ok hT hr
 cases hx with
 | @agg _ cs' h1 h2=>
  obtain⟨v',e1,e2⟩:=part_sound (P:=P) (w:=w) he ⟨h1,h2⟩ hr
  exact⟨v',by simp[Instr.index,asIntOf,run_underlying hkk,hb,he.run_size w,e1],e2⟩
end Go.Vm
