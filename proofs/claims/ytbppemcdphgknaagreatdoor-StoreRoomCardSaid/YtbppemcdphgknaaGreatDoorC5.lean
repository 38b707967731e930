/- A part of the proofs over the seat YtbppemcdphgknaaGreatDoor. -/
import Derived.Test.YtbppemcdphgknaaGreatDoorC4
set_option linter.unusedVariables false
set_option linter.unusedSimpArgs false
set_option maxRecDepth 100000
set_option maxHeartbeats 40000000
namespace Go.Proofs.YtbppemcdphgknaaGreatDoor
open Go Go.Vm
set_option maxRecDepth 100000
set_option maxHeartbeats 40000000
set_option linter.unusedSimpArgs false
set_option linter.unusedVariables false
def mayE (m:Int) (e:En):Bool:=mayC m (is e.o) e.n e.a e.b e.p e.q
def gch (m:Int):Bool→Int→Bool→List En→Bool
 | _,_,_,[]=>true
 | first,ver,prev,e::r=>decide (ver<e.v)&&known e.o&&mayE m e&&(if first then decide (e.o≠3) else(was e.o==prev))&&gch m false e.v (is e.o) r
def goodL (m:Int) (l:List En):Bool:=decide (1≤m)&&decide (m≤2)&&gch m true 0 false l
structure EnIn (e:En):Prop where
 lp:e.p.length≤100000
 lq:e.q.length≤100000
 rp:RIn e.p
 rq:RIn e.q
 a64:in64 e.a
 b64:in64 e.b
def stGd (m:Int) (l:List En) (ver:Int) (prev:Bool) (i:Nat):St DV:=mkSt 66 [(0,i64V m),(1,chV l),(5,i64V ver),(6,.bool prev),(15,chV l),(16,i64V l.length),(17,i64V i)] [] []
structure ZG where
 i:Nat
 ver:Int
 prev:Bool
theorem getEc {l:List En} {i:Nat} {e:En} (h:l[i]?=some e):lget (l.map encE) ((i:Int).toNat)=some [i64V e.v,i64V e.o,i64V e.n,i64V e.a,i64V e.b,bagV e.p,bagV e.q]:=getE h
theorem goodL_ok (m:Int) (l:List En) (hl:l.length≤1000000) (hin:∀e∈l,EnIn e):PTriple Tryz.prog gv 118 [i64V m,chV l] (.bool (goodL m l)):=by
 have pL:=pure_E l
 have lL:=lenE l
 generalize hH:goodL m l=H
 unfold goodL at hH
 by_cases hm:1≤m∧m≤2
 case neg=>
  have e:(decide (1≤m)&&decide (m≤2))=false:=by simp;omega
  rw[e] at hH
  obtain rfl:H=false:=hH.symm
  refine PTriple.of_body (C:=cx) Tryz.func118 rfl (by kernel_rfl) mixed fun E hE=>?_
  all_goals exact kb4
 case pos=>
 rw[decide_eq_true hm.1,decide_eq_true hm.2,Bool.true_and,Bool.true_and] at hH
 refine PTriple.of_body (C:=cx) Tryz.func118 rfl (by kernel_rfl) mixed fun E hE=>?_
 repeat' (conv=>whnf);first
  | (refine bcase_of (fun hr=>?_) (fun hr=>?_)<;>(try simp only[sl2] at hr)<;>try(exfalso;first|omega|exact hr rfl|(simp at hr;done)|(simp at hr;omega)))
  | (apply And.intro;· first|exact nd3)
  | (apply Exists.intro;apply And.intro;· first|exact rfl)
  | fail
 all_goals (conv=>whnf)
 refine VLoop.norm [0,1,5,6,15,16,17] [] ?_
 repeat' (conv=>whnf);first
  | (apply And.intro;· first|exact nd2|exact pL)
  | (apply Exists.intro;apply And.intro;· first|exact rfl)
  | fail
 refine VLoop.inv (fun z:ZG=>stGd m l z.ver z.prev z.i) (fun z=>z.i≤l.length∧0≤z.ver∧(0<z.i→1≤z.ver∧∃e,l[z.i-1]?=some e∧e.v=z.ver)∧(z.i=0→z.ver=0)∧gch m (decide (z.i=0)) z.ver z.prev (l.drop z.i)=H) (fun z=>l.length-z.i) ⟨0,0,false⟩ ⟨Nat.zero_le _,Int.le_refl _,fun h=>absurd h (Nat.lt_irrefl _),fun _=>rfl,hH⟩ (by unfold stGd;rw[←lL];rfl) ?_
 clear hH
 rintro⟨i,ver,prev⟩ ⟨hi,hv0,hv1,hv2,hg⟩ ih
 simp only at hi hv0 hv1 hv2 hg ih
 show VLoop cx E _ (stGd m l ver prev i) _
 by_cases hgo:i<l.length
 case neg=>
  rw[List.drop_eq_nil_of_le (by omega)] at hg
  obtain rfl:H=true:=by rw[←hg];cases decide (i=0)<;>rfl
  refine VLoop.unroll hE mixed ?_
  all_goals exact kb4
 case pos=>
 have hw:IntKind.i64.wrap ((i:Int)+1)=((i+1:Nat):Int):=wrap64 (by omega) (by omega)
 obtain⟨e,hx⟩:∃x,l[i]?=some x:=⟨_,List.getElem?_eq_getElem hgo⟩
 have gi:=getEc hx
 obtain⟨h1,h2,h3,h4,h5,h6⟩:=hin e (List.mem_of_getElem? hx)
 have pp:=pure_R e.p
 have pq:=pure_R e.q
 rw[drop_get hx] at hg
 simp only[gch] at hg
 have cK:=ok41 e.o
 have cI:=ok43 e.o
 have cW:=ok44 e.o
 have cY:=may_ok m e.n e.a e.b e.p e.q (is e.o) h1 h2 h3 h4 h5 h6
 have eY:mayC m (is e.o) e.n e.a e.b e.p e.q=mayE m e:=rfl
 rw[eY] at cY
 generalize mayE m e=Y at cY hg
 generalize known e.o=K at cK hg
 generalize is e.o=I at cI cY hg
 generalize was e.o=W at cW hg
 by_cases hver:ver<e.v
 case neg=>
  rw[decide_eq_false hver] at hg
  simp only[Bool.false_and] at hg
  subst hg
  refine VLoop.unroll hE mixed ?_
  all_goals exact kb12
 case pos=>
 rw[decide_eq_true hver] at hg
 cases K with
 | false=>
  simp only[Bool.false_and,Bool.and_false,Bool.true_and] at hg
  subst hg
  refine VLoop.unroll hE mixed ?_
  all_goals exact kb12
 | true=>
  cases Y with
  | false=>
   simp only[Bool.false_and,Bool.and_false,Bool.true_and] at hg
   subst hg
   cases I with
   | true=>
    refine VLoop.unroll hE mixed ?_
    all_goals exact kb12
   | false=>
    refine VLoop.unroll hE mixed ?_
    all_goals exact kb12
  | true=>
   simp only[Bool.true_and] at hg
   by_cases h0:i=0
   ·subst h0
    have hver0:=hv2 rfl
    simp only[decide_true,if_true] at hg
    by_cases h3':e.o=3
    ·rw[decide_eq_false (fun h=>h h3')] at hg
     simp only[Bool.false_and] at hg
     subst hg
     skip
     cases I with
     | true=>
      refine VLoop.unroll hE mixed ?_
      all_goals exact kb12
     | false=>
      refine VLoop.unroll hE mixed ?_
      all_goals exact kb12
    ·rw[decide_eq_true h3',Bool.true_and] at hg
     have hg2:gch m (decide (0+1=0)) e.v I (l.drop (0+1))=H:=hg
     skip
     cases I with
     | true=>
      have hz1:0≤e.v:=by omega
      have hz2:1≤e.v:=by omega
      refine VLoop.unroll hE mixed ?_
      repeat' (conv=>whnf);first
       | (refine bcase_of (fun hr=>?_) (fun hr=>?_)<;>(try simp only[sl2] at hr)<;>try(exfalso;first|omega|exact hr rfl|(simp at hr;done)|(simp_all;done)|(simp at hr;omega)))
       | (apply And.intro;· first|exact nd3|exact⟨by omega,by rw[lL];omega⟩|exact pp|exact pq)
       | (apply Exists.intro;apply And.intro;· first|exact rfl|exact cK|exact cI|exact cW|exact cY|exact gi)
       | rw[hw]
       | fail
      all_goals (conv=>whnf)
      all_goals refine VLoop.norm [0,1,5,6,15,16,17] [] ?_
      repeat' (conv=>whnf);first
       | (apply And.intro;· first|exact nd2|exact pL)
       | (apply Exists.intro;apply And.intro;· first|exact rfl)
       | fail
      all_goals try rw[hw]
      all_goals exact ih ⟨0+1,e.v,true⟩ ⟨hgo,hz1,fun _=>⟨hz2,e,hx,rfl⟩,fun h=>absurd h (Nat.succ_ne_zero _),hg2⟩ (by show l.length-(0+1)<l.length-0;omega)
     | false=>
      have hz1:0≤e.v:=by omega
      have hz2:1≤e.v:=by omega
      refine VLoop.unroll hE mixed ?_
      repeat' (conv=>whnf);first
       | (refine bcase_of (fun hr=>?_) (fun hr=>?_)<;>(try simp only[sl2] at hr)<;>try(exfalso;first|omega|exact hr rfl|(simp at hr;done)|(simp_all;done)|(simp at hr;omega)))
       | (apply And.intro;· first|exact nd3|exact⟨by omega,by rw[lL];omega⟩|exact pp|exact pq)
       | (apply Exists.intro;apply And.intro;· first|exact rfl|exact cK|exact cI|exact cW|exact cY|exact gi)
       | rw[hw]
       | fail
      all_goals (conv=>whnf)
      all_goals refine VLoop.norm [0,1,5,6,15,16,17] [] ?_
      repeat' (conv=>whnf);first
       | (apply And.intro;· first|exact nd2|exact pL)
       | (apply Exists.intro;apply And.intro;· first|exact rfl)
       | fail
      all_goals try rw[hw]
      all_goals exact ih ⟨0+1,e.v,false⟩ ⟨hgo,hz1,fun _=>⟨hz2,e,hx,rfl⟩,fun h=>absurd h (Nat.succ_ne_zero _),hg2⟩ (by show l.length-(0+1)<l.length-0;omega)
   ·have hj:=hv1 (by omega)
    obtain⟨hj1,ej,hj2,hj3⟩:=hj
    have gj:=getEc hj2
    rw[decide_eq_false h0] at hg
    simp only[Bool.false_eq_true,if_false] at hg
    have hwj:IntKind.i64.wrap ((i:Int)-1)=((i-1:Nat):Int):=by rw[wrap64 (by omega) (by omega)];omega
    have hg2:(W==prev)=true→gch m (decide (i+1=0)) e.v I (l.drop (i+1))=H:=fun h=>by rw[h] at hg;exact hg
    have hg3:(W==prev)=false→H=false:=fun h=>by rw[h] at hg;exact hg.symm
    cases W<;>cases prev
    ·have hg2:=hg2 rfl
     skip
     cases I with
     | true=>
      have hz1:0≤e.v:=by omega
      have hz2:1≤e.v:=by omega
      refine VLoop.unroll hE mixed ?_
      repeat' (conv=>whnf);first
       | (refine bcase_of (fun hr=>?_) (fun hr=>?_)<;>(try simp only[sl2] at hr)<;>try(exfalso;first|omega|exact hr rfl|(simp at hr;done)|(simp_all;done)|(simp at hr;omega)))
       | (apply And.intro;· first|exact nd3|exact⟨by omega,by rw[lL];omega⟩|exact pp|exact pq)
       | (apply Exists.intro;apply And.intro;· first|exact rfl|exact cK|exact cI|exact cW|exact cY|exact gi|exact gj)
       | rw[hw]
       | rw[hwj]
       | fail
      all_goals (conv=>whnf)
      all_goals refine VLoop.norm [0,1,5,6,15,16,17] [] ?_
      all_goals exact kb13
     | false=>
      have hz1:0≤e.v:=by omega
      have hz2:1≤e.v:=by omega
      refine VLoop.unroll hE mixed ?_
      repeat' (conv=>whnf);first
       | (refine bcase_of (fun hr=>?_) (fun hr=>?_)<;>(try simp only[sl2] at hr)<;>try(exfalso;first|omega|exact hr rfl|(simp at hr;done)|(simp_all;done)|(simp at hr;omega)))
       | (apply And.intro;· first|exact nd3|exact⟨by omega,by rw[lL];omega⟩|exact pp|exact pq)
       | (apply Exists.intro;apply And.intro;· first|exact rfl|exact cK|exact cI|exact cW|exact cY|exact gi|exact gj)
       | rw[hw]
       | rw[hwj]
       | fail
      all_goals (conv=>whnf)
      all_goals refine VLoop.norm [0,1,5,6,15,16,17] [] ?_
      all_goals exact kb14
    ·obtain rfl:=hg3 rfl
     skip
     cases I with
     | true=>
      refine VLoop.unroll hE mixed ?_
      all_goals exact kb15
     | false=>
      refine VLoop.unroll hE mixed ?_
      all_goals exact kb15
    ·obtain rfl:=hg3 rfl
     skip
     cases I with
     | true=>
      refine VLoop.unroll hE mixed ?_
      all_goals exact kb15
     | false=>
      refine VLoop.unroll hE mixed ?_
      all_goals exact kb15
    ·have hg2:=hg2 rfl
     skip
     cases I with
     | true=>
      have hz1:0≤e.v:=by omega
      have hz2:1≤e.v:=by omega
      refine VLoop.unroll hE mixed ?_
      repeat' (conv=>whnf);first
       | (refine bcase_of (fun hr=>?_) (fun hr=>?_)<;>(try simp only[sl2] at hr)<;>try(exfalso;first|omega|exact hr rfl|(simp at hr;done)|(simp_all;done)|(simp at hr;omega)))
       | (apply And.intro;· first|exact nd3|exact⟨by omega,by rw[lL];omega⟩|exact pp|exact pq)
       | (apply Exists.intro;apply And.intro;· first|exact rfl|exact cK|exact cI|exact cW|exact cY|exact gi|exact gj)
       | rw[hw]
       | rw[hwj]
       | fail
      all_goals (conv=>whnf)
      all_goals refine VLoop.norm [0,1,5,6,15,16,17] [] ?_
      all_goals exact kb13
     | false=>
      have hz1:0≤e.v:=by omega
      have hz2:1≤e.v:=by omega
      refine VLoop.unroll hE mixed ?_
      repeat' (conv=>whnf);first
       | (refine bcase_of (fun hr=>?_) (fun hr=>?_)<;>(try simp only[sl2] at hr)<;>try(exfalso;first|omega|exact hr rfl|(simp at hr;done)|(simp_all;done)|(simp at hr;omega)))
       | (apply And.intro;· first|exact nd3|exact⟨by omega,by rw[lL];omega⟩|exact pp|exact pq)
       | (apply Exists.intro;apply And.intro;· first|exact rfl|exact cK|exact cI|exact cW|exact cY|exact gi|exact gj)
       | rw[hw]
       | rw[hwj]
       | fail
      all_goals (conv=>whnf)
      all_goals refine VLoop.norm [0,1,5,6,15,16,17] [] ?_
      all_goals exact kb14
end Go.Proofs.YtbppemcdphgknaaGreatDoor
namespace Go.Proofs.YtbppemcdphgknaaGreatDoor
open Go Go.Vm
end Go.Proofs.YtbppemcdphgknaaGreatDoor
