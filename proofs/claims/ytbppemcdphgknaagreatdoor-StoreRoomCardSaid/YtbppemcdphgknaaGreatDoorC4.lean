/- A part of the proofs over the seat YtbppemcdphgknaaGreatDoor. -/
import Derived.Test.YtbppemcdphgknaaGreatDoorC3
set_option linter.unusedVariables false
set_option linter.unusedSimpArgs false
set_option maxRecDepth 100000
set_option maxHeartbeats 40000000
namespace Go.Proofs.YtbppemcdphgknaaGreatDoor
open Go Go.Vm
set_option maxRecDepth 100000
set_option maxHeartbeats 40000000
set_option linter.unusedSimpArgs false
set_option linter.unusedVariables false
def RIn (p:RL):Prop:=∀r∈p,in64 r.1∧in64 r.2
def partOk (n a:Int) (p:RL):Bool:=goodB p&&decide (wsum p=a)&&decide (cntB p=n)
def goodC (m n a b:Int) (p q:RL):Bool:=decide (1≤m)&&decide (m≤2)&&decide (1≤n)&&decide (n≤1099511627776)&&partOk n a p&&(if m=1 then decide (b=0)&&decide (q=[]) else partOk n b q)
theorem nil_len {q:RL}:q=[]↔q.length=0:=by cases q<;>simp
theorem part_facts (n a:Int) (p:RL) (hl:p.length≤100000) (h6:RIn p) (ha:in64 a):∃s o k,PTriple Tryz.prog gv 178 [bagV p] (.tup [i64V s,.bool o])∧PTriple Tryz.prog gv 179 [bagV p] (i64V k)∧(partOk n a p=true↔o=true∧s=a∧k=n):=by
 have c1:=Sum_ok p (by omega) h6
 have c2:=Count_ok p (by omega)
 cases hg:goodB p with
 | false=>
  rw[hg] at c1 c2
  exact⟨0,false,0,c1,c2,by simp[partOk,hg]⟩
 | true=>
  rw[hg] at c1 c2
  refine⟨_,_,_,c1,c2,?_⟩
  simp only[partOk,hg,Bool.true_and,Bool.and_eq_true,decide_eq_true_eq]
  show _↔(fit (wsum p)).2=true∧(fit (wsum p)).1=a∧cntB p=n
  have:(fit (wsum p)).2=true∧(fit (wsum p)).1=a↔wsum p=a:=by
   unfold fit
   split
   ·simp
   ·rename_i h;unfold in64 at ha;simp;intro e;subst e;exact h ha
  rw[←this,and_assoc]
theorem meas_ok (m:Int):PTriple Tryz.prog gv 177 [i64V m] (.bool (decide (1≤m)&&decide (m≤2))):=by
 by_cases h1:1≤m
 ·by_cases h2:m≤2
  ·rw[decide_eq_true h1,decide_eq_true h2]
   refine PTriple.of_body (C:=cx) Tryz.func177 rfl (by kernel_rfl) mixed fun E hE=>?_
   all_goals exact kb4
  ·rw[decide_eq_true h1,decide_eq_false h2]
   refine PTriple.of_body (C:=cx) Tryz.func177 rfl (by kernel_rfl) mixed fun E hE=>?_
   all_goals exact kb4
 ·rw[decide_eq_false h1,Bool.false_and]
  refine PTriple.of_body (C:=cx) Tryz.func177 rfl (by kernel_rfl) mixed fun E hE=>?_
  all_goals exact kb4
theorem cellGood_ok (m n a b:Int) (p q:RL) (hp:p.length≤100000) (hq:q.length≤100000) (h6p:RIn p) (h6q:RIn q) (ha:in64 a) (hb:in64 b):PTriple Tryz.prog gv 157 [i64V m,cellV n a b p q] (.bool (goodC m n a b p q)):=by
 have pP:=pure_R p
 have pQ:=pure_R q
 have lP:=lenR p
 have lQ:=lenR q
 have hn0:=@nil_len q
 have cM:=meas_ok m
 obtain⟨s0,o0,k0,cS0,cK0,h0⟩:=part_facts n a p hp h6p ha
 obtain⟨s1,o1,k1,cS1,cK1,h1⟩:=part_facts n b q hq h6q hb
 generalize hH:goodC m n a b p q=H
 simp only[goodC] at hH
 by_cases hm:1≤m∧m≤2
 case neg=>
  have e:(decide (1≤m)&&decide (m≤2))=false:=by simp;omega
  rw[e] at hH cM
  obtain rfl:H=false:=hH.symm
  refine PTriple.of_body (C:=cx) Tryz.func157 rfl (by kernel_rfl) mixed fun E hE=>?_
  all_goals exact kb5
 case pos=>
 rw[decide_eq_true hm.1,decide_eq_true hm.2] at hH cM
 by_cases hn:1≤n∧n≤1099511627776
 case neg=>
  have e:(true&&true&&decide (1≤n)&&decide (n≤1099511627776))=false:=by simp;omega
  rw[e] at hH
  obtain rfl:H=false:=hH.symm
  refine PTriple.of_body (C:=cx) Tryz.func157 rfl (by kernel_rfl) mixed fun E hE=>?_
  all_goals exact kb5
 case pos=>
 rw[decide_eq_true hn.1,decide_eq_true hn.2] at hH
 simp only[Bool.true_and] at hH cM
 have hm12:m=1∨m=2:=by omega
 rcases hm12 with rfl|rfl
 ·rw[if_pos rfl] at hH
  cases hp0:partOk n a p with
  | false=>
   rw[hp0] at hH h0
   obtain rfl:H=false:=hH.symm
   have h0':¬(o0=true∧s0=a∧k0=n):=fun h=>by have:=h0.2 h;cases this
   cases o0 with
   | false=>
    refine PTriple.of_body (C:=cx) Tryz.func157 rfl (by kernel_rfl) mixed fun E hE=>?_
    repeat' (conv=>whnf);first
     | (refine bcase_of (fun hr=>?_) (fun hr=>?_)<;>(try simp only[smag_cells,sl2] at hr)<;>try(exfalso;first|omega|exact hr rfl|(simp at hr;done)|(simp at hr;omega)))
     | (apply And.intro;· first|exact nd3|exact pP|exact pQ)
     | (apply Exists.intro;apply And.intro;· first|exact rfl|exact cM|exact cS0|exact cS1|exact cK0|exact cK1)
     | fail
    all_goals (conv=>whnf)
    all_goals refine VLoop.unroll hE mixed ?_
    all_goals exact kb6
   | true=>
    simp only[true_and] at h0'
    refine PTriple.of_body (C:=cx) Tryz.func157 rfl (by kernel_rfl) mixed fun E hE=>?_
    repeat' (conv=>whnf);first
     | (refine bcase_of (fun hr=>?_) (fun hr=>?_)<;>(try simp only[smag_cells,sl2] at hr)<;>try(exfalso;first|omega|exact hr rfl|(simp at hr;done)|(simp at hr;omega)))
     | (apply And.intro;· first|exact nd3|exact pP|exact pQ)
     | (apply Exists.intro;apply And.intro;· first|exact rfl|exact cM|exact cS0|exact cS1|exact cK0|exact cK1)
     | fail
    all_goals (conv=>whnf)
    all_goals refine VLoop.unroll hE mixed ?_
    all_goals exact kb6
  | true=>
   rw[hp0] at hH h0
   obtain⟨rfl,rfl,rfl⟩:=h0.1 rfl
   simp only[Bool.true_and] at hH
   by_cases hz:b=0∧q.length=0
   ·rw[decide_eq_true hz.1,decide_eq_true (hn0.2 hz.2)] at hH
    obtain rfl:H=true:=hH.symm
    refine PTriple.of_body (C:=cx) Tryz.func157 rfl (by kernel_rfl) mixed fun E hE=>?_
    repeat' (conv=>whnf);first
     | (refine bcase_of (fun hr=>?_) (fun hr=>?_)<;>(try simp only[smag_cells,sl2] at hr)<;>try(exfalso;first|omega|exact hr rfl|(simp at hr;done)|(simp at hr;omega)))
     | (apply And.intro;· first|exact nd3|exact pP|exact pQ)
     | (apply Exists.intro;apply And.intro;· first|exact rfl|exact cM|exact cS0|exact cS1|exact cK0|exact cK1)
     | fail
    all_goals (conv=>whnf)
    all_goals refine VLoop.unroll hE mixed ?_
    repeat' (conv=>whnf);first
     | (refine bcase_of (fun hr=>?_) (fun hr=>?_)<;>(try simp only[smag_cells,sl2] at hr)<;>try(exfalso;first|omega|exact hr rfl|(simp at hr;done)|(simp at hr;omega)))
     | (apply And.intro;· first|exact nd3|exact pP|exact pQ)
     | (apply Exists.intro;apply And.intro;· first|exact rfl|exact cM|exact cS0|exact cS1|exact cK0|exact cK1)
     | fail
    all_goals (conv=>whnf)
    all_goals refine VLoop.unroll hE mixed ?_
    repeat' (conv=>whnf);first
     | (refine bcase_of (fun hr=>?_) (fun hr=>?_)<;>(try simp only[smag_cells,sl2] at hr)<;>try(exfalso;first|omega|exact hr rfl|(simp at hr;done)|(simp at hr;omega)))
     | (apply And.intro;· first|exact nd3|exact pP|exact pQ)
     | (apply Exists.intro;apply And.intro;· first|exact rfl|exact cM|exact cS0|exact cS1|exact cK0|exact cK1)
     | fail
    all_goals (conv=>whnf)
    all_goals refine VLoop.unroll hE mixed ?_
    all_goals exact kb6
   ·have e:(decide (b=0)&&decide (q=[]))=false:=by
     simp only[Bool.and_eq_false_iff,decide_eq_false_iff_not,hn0];omega
    rw[e] at hH
    obtain rfl:H=false:=hH.symm
    refine PTriple.of_body (C:=cx) Tryz.func157 rfl (by kernel_rfl) mixed fun E hE=>?_
    repeat' (conv=>whnf);first
     | (refine bcase_of (fun hr=>?_) (fun hr=>?_)<;>(try simp only[smag_cells,sl2] at hr)<;>try(exfalso;first|omega|exact hr rfl|(simp at hr;done)|(simp at hr;omega)))
     | (apply And.intro;· first|exact nd3|exact pP|exact pQ)
     | (apply Exists.intro;apply And.intro;· first|exact rfl|exact cM|exact cS0|exact cS1|exact cK0|exact cK1)
     | fail
    all_goals (conv=>whnf)
    all_goals refine VLoop.unroll hE mixed ?_
    repeat' (conv=>whnf);first
     | (refine bcase_of (fun hr=>?_) (fun hr=>?_)<;>(try simp only[smag_cells,sl2] at hr)<;>try(exfalso;first|omega|exact hr rfl|(simp at hr;done)|(simp at hr;omega)))
     | (apply And.intro;· first|exact nd3|exact pP|exact pQ)
     | (apply Exists.intro;apply And.intro;· first|exact rfl|exact cM|exact cS0|exact cS1|exact cK0|exact cK1)
     | fail
    all_goals (conv=>whnf)
    all_goals refine VLoop.unroll hE mixed ?_
    all_goals exact kb6
 ·rw[if_neg (by decide)] at hH
  cases hp0:partOk n a p with
  | false=>
   rw[hp0] at hH h0
   obtain rfl:H=false:=hH.symm
   have h0':¬(o0=true∧s0=a∧k0=n):=fun h=>by have:=h0.2 h;cases this
   cases o0 with
   | false=>
    refine PTriple.of_body (C:=cx) Tryz.func157 rfl (by kernel_rfl) mixed fun E hE=>?_
    repeat' (conv=>whnf);first
     | (refine bcase_of (fun hr=>?_) (fun hr=>?_)<;>(try simp only[smag_cells,sl2] at hr)<;>try(exfalso;first|omega|exact hr rfl|(simp at hr;done)|(simp at hr;omega)))
     | (apply And.intro;· first|exact nd3|exact pP|exact pQ)
     | (apply Exists.intro;apply And.intro;· first|exact rfl|exact cM|exact cS0|exact cS1|exact cK0|exact cK1)
     | fail
    all_goals (conv=>whnf)
    all_goals refine VLoop.unroll hE mixed ?_
    all_goals exact kb6
   | true=>
    simp only[true_and] at h0'
    refine PTriple.of_body (C:=cx) Tryz.func157 rfl (by kernel_rfl) mixed fun E hE=>?_
    repeat' (conv=>whnf);first
     | (refine bcase_of (fun hr=>?_) (fun hr=>?_)<;>(try simp only[smag_cells,sl2] at hr)<;>try(exfalso;first|omega|exact hr rfl|(simp at hr;done)|(simp at hr;omega)))
     | (apply And.intro;· first|exact nd3|exact pP|exact pQ)
     | (apply Exists.intro;apply And.intro;· first|exact rfl|exact cM|exact cS0|exact cS1|exact cK0|exact cK1)
     | fail
    all_goals (conv=>whnf)
    all_goals refine VLoop.unroll hE mixed ?_
    all_goals exact kb6
  | true=>
   rw[hp0] at hH h0
   obtain⟨rfl,rfl,rfl⟩:=h0.1 rfl
   simp only[Bool.true_and] at hH
   cases hp1:partOk k0 b q with
   | true=>
    rw[hp1] at hH h1
    obtain⟨rfl,rfl,rfl⟩:=h1.1 rfl
    obtain rfl:H=true:=hH.symm
    refine PTriple.of_body (C:=cx) Tryz.func157 rfl (by kernel_rfl) mixed fun E hE=>?_
    repeat' (conv=>whnf);first
     | (refine bcase_of (fun hr=>?_) (fun hr=>?_)<;>(try simp only[smag_cells,sl2] at hr)<;>try(exfalso;first|omega|exact hr rfl|(simp at hr;done)|(simp at hr;omega)))
     | (apply And.intro;· first|exact nd3|exact pP|exact pQ)
     | (apply Exists.intro;apply And.intro;· first|exact rfl|exact cM|exact cS0|exact cS1|exact cK0|exact cK1)
     | fail
    all_goals (conv=>whnf)
    all_goals refine VLoop.unroll hE mixed ?_
    repeat' (conv=>whnf);first
     | (refine bcase_of (fun hr=>?_) (fun hr=>?_)<;>(try simp only[smag_cells,sl2] at hr)<;>try(exfalso;first|omega|exact hr rfl|(simp at hr;done)|(simp at hr;omega)))
     | (apply And.intro;· first|exact nd3|exact pP|exact pQ)
     | (apply Exists.intro;apply And.intro;· first|exact rfl|exact cM|exact cS0|exact cS1|exact cK0|exact cK1)
     | fail
    all_goals (conv=>whnf)
    all_goals refine VLoop.unroll hE mixed ?_
    repeat' (conv=>whnf);first
     | (refine bcase_of (fun hr=>?_) (fun hr=>?_)<;>(try simp only[smag_cells,sl2] at hr)<;>try(exfalso;first|omega|exact hr rfl|(simp at hr;done)|(simp at hr;omega)))
     | (apply And.intro;· first|exact nd3|exact pP|exact pQ)
     | (apply Exists.intro;apply And.intro;· first|exact rfl|exact cM|exact cS0|exact cS1|exact cK0|exact cK1)
     | fail
    all_goals (conv=>whnf)
    all_goals refine VLoop.unroll hE mixed ?_
    all_goals exact kb6
   | false=>
    rw[hp1] at hH h1
    obtain rfl:H=false:=hH.symm
    have h1':¬(o1=true∧s1=b∧k1=k0):=fun h=>by have:=h1.2 h;cases this
    cases o1 with
    | false=>
     refine PTriple.of_body (C:=cx) Tryz.func157 rfl (by kernel_rfl) mixed fun E hE=>?_
     repeat' (conv=>whnf);first
      | (refine bcase_of (fun hr=>?_) (fun hr=>?_)<;>(try simp only[smag_cells,sl2] at hr)<;>try(exfalso;first|omega|exact hr rfl|(simp at hr;done)|(simp at hr;omega)))
      | (apply And.intro;· first|exact nd3|exact pP|exact pQ)
      | (apply Exists.intro;apply And.intro;· first|exact rfl|exact cM|exact cS0|exact cS1|exact cK0|exact cK1)
      | fail
     all_goals (conv=>whnf)
     all_goals refine VLoop.unroll hE mixed ?_
     repeat' (conv=>whnf);first
      | (refine bcase_of (fun hr=>?_) (fun hr=>?_)<;>(try simp only[smag_cells,sl2] at hr)<;>try(exfalso;first|omega|exact hr rfl|(simp at hr;done)|(simp at hr;omega)))
      | (apply And.intro;· first|exact nd3|exact pP|exact pQ)
      | (apply Exists.intro;apply And.intro;· first|exact rfl|exact cM|exact cS0|exact cS1|exact cK0|exact cK1)
      | fail
     all_goals (conv=>whnf)
     all_goals refine VLoop.unroll hE mixed ?_
     all_goals exact kb6
    | true=>
     simp only[true_and] at h1'
     refine PTriple.of_body (C:=cx) Tryz.func157 rfl (by kernel_rfl) mixed fun E hE=>?_
     repeat' (conv=>whnf);first
      | (refine bcase_of (fun hr=>?_) (fun hr=>?_)<;>(try simp only[smag_cells,sl2] at hr)<;>try(exfalso;first|omega|exact hr rfl|(simp at hr;done)|(simp at hr;omega)))
      | (apply And.intro;· first|exact nd3|exact pP|exact pQ)
      | (apply Exists.intro;apply And.intro;· first|exact rfl|exact cM|exact cS0|exact cS1|exact cK0|exact cK1)
      | fail
     all_goals (conv=>whnf)
     all_goals refine VLoop.unroll hE mixed ?_
     repeat' (conv=>whnf);first
      | (refine bcase_of (fun hr=>?_) (fun hr=>?_)<;>(try simp only[smag_cells,sl2] at hr)<;>try(exfalso;first|omega|exact hr rfl|(simp at hr;done)|(simp at hr;omega)))
      | (apply And.intro;· first|exact nd3|exact pP|exact pQ)
      | (apply Exists.intro;apply And.intro;· first|exact rfl|exact cM|exact cS0|exact cS1|exact cK0|exact cK1)
      | fail
     all_goals (conv=>whnf)
     all_goals refine VLoop.unroll hE mixed ?_
     all_goals exact kb6
end Go.Proofs.YtbppemcdphgknaaGreatDoor
namespace Go.Proofs.YtbppemcdphgknaaGreatDoor
open Go Go.Vm
theorem part8_facts (n a:Int) (p:RL) (hl:p.length≤100000) (h6:RIn p):(goodB p=false∧partOk n a p=false∧PTriple Tryz.prog gv 172 [bagV p] (.bool false))∨∃w k,PTriple Tryz.prog gv 172 [bagV p] (.bool true)∧PTriple Tryz.prog gv 173 [bagV p] (i64V k)∧PTriple Tryz.prog gv 168 [bagV p] (smag w)∧(partOk n a p=true↔w=a∧k=n):=by
 have c1:=goodB8_ok p (by omega)
 have c2:=Count8_ok p (by omega)
 cases hg:goodB p with
 | false=>rw[hg] at c1;exact .inl ⟨rfl,by simp[partOk,hg],c1⟩
 | true=>
  rw[hg] at c1 c2
  exact .inr ⟨_,_,c1,c2,Wide8_ok p (by omega) h6 hg,by simp[partOk,hg]⟩
theorem cellGood9_ok (m n a b:Int) (p q:RL) (hp:p.length≤100000) (hq:q.length≤100000) (h6p:RIn p) (h6q:RIn q) (ha:in64 a) (hb:in64 b):PTriple Tryz.prog gv 144 [i64V m,cellV n a b p q] (.bool (goodC m n a b p q)):=by
 have pP:=pure_R p
 have pQ:=pure_R q
 have lP:=lenR p
 have lQ:=lenR q
 have hn0:=@nil_len q
 have cM:=meas_ok m
 have cO0:=ok61 a ha
 have cO1:=ok61 b hb
 generalize hH:goodC m n a b p q=H
 simp only[goodC] at hH
 by_cases hm:1≤m∧m≤2
 case neg=>
  have e:(decide (1≤m)&&decide (m≤2))=false:=by simp;omega
  rw[e] at hH cM
  obtain rfl:H=false:=hH.symm
  refine PTriple.of_body (C:=cx) Tryz.func144 rfl (by kernel_rfl) mixed fun E hE=>?_
  all_goals exact kb5
 case pos=>
 rw[decide_eq_true hm.1,decide_eq_true hm.2] at hH cM
 by_cases hn:1≤n∧n≤1099511627776
 case neg=>
  have e:(true&&true&&decide (1≤n)&&decide (n≤1099511627776))=false:=by simp;omega
  rw[e] at hH
  obtain rfl:H=false:=hH.symm
  refine PTriple.of_body (C:=cx) Tryz.func144 rfl (by kernel_rfl) mixed fun E hE=>?_
  all_goals exact kb5
 case pos=>
 rw[decide_eq_true hn.1,decide_eq_true hn.2] at hH
 simp only[Bool.true_and] at hH cM
 have hm12:m=1∨m=2:=by omega
 rcases hm12 with rfl|rfl
 ·rw[if_pos rfl] at hH
  rcases part8_facts n a p hp h6p with⟨_,hp0,cG0⟩|⟨w0,k0,cG0,cK0,cW0,h0⟩
  ·rw[hp0] at hH
   obtain rfl:H=false:=hH.symm
   refine PTriple.of_body (C:=cx) Tryz.func144 rfl (by kernel_rfl) mixed fun E hE=>?_
   repeat' (conv=>whnf);first
    | (refine bcase_of (fun hr=>?_) (fun hr=>?_)<;>(try simp only[smag_cells,sl2] at hr)<;>try(exfalso;first|omega|exact hr rfl|(simp at hr;done)|(simp at hr;omega)))
    | (apply And.intro;· first|exact nd3|exact pP|exact pQ)
    | (apply Exists.intro;apply And.intro;· first|exact rfl|exact cG0)
    | fail
   all_goals (conv=>whnf)
   all_goals refine VLoop.unroll hE mixed ?_
   all_goals exact kb7
  ·cases hp0:partOk n a p with
   | false=>
    rw[hp0] at hH h0
    obtain rfl:H=false:=hH.symm
    have h0':¬(w0=a∧k0=n):=fun h=>by have:=h0.2 h;cases this
    refine PTriple.of_body (C:=cx) Tryz.func144 rfl (by kernel_rfl) mixed fun E hE=>?_
    repeat' (conv=>whnf);first
     | (refine bcase_of (fun hr=>?_) (fun hr=>?_)<;>(try simp only[smag_cells,sl2] at hr)<;>try(exfalso;first|omega|exact hr rfl|(simp at hr;done)|(simp at hr;omega)))
     | (apply And.intro;· first|exact nd3|exact pP|exact pQ)
     | (apply Exists.intro;apply And.intro;· first|exact rfl|exact cG0|exact cK0|exact cW0|exact cO0)
     | fail
    all_goals (conv=>whnf)
    all_goals refine VLoop.unroll hE mixed ?_
    all_goals exact kb8
   | true=>
    rw[hp0] at hH h0
    obtain⟨rfl,rfl⟩:=h0.1 rfl
    simp only[Bool.true_and] at hH
    by_cases hz:b=0∧q.length=0
    ·rw[decide_eq_true hz.1,decide_eq_true (hn0.2 hz.2)] at hH
     obtain rfl:H=true:=hH.symm
     refine PTriple.of_body (C:=cx) Tryz.func144 rfl (by kernel_rfl) mixed fun E hE=>?_
     repeat' (conv=>whnf);first
      | (refine bcase_of (fun hr=>?_) (fun hr=>?_)<;>(try simp only[smag_cells,sl2] at hr)<;>try(exfalso;first|omega|exact hr rfl|(simp at hr;done)|(simp at hr;omega)))
      | (apply And.intro;· first|exact nd3|exact pP|exact pQ)
      | (apply Exists.intro;apply And.intro;· first|exact rfl|exact cG0|exact cK0|exact cW0|exact cO0)
      | fail
     all_goals (conv=>whnf)
     all_goals refine VLoop.unroll hE mixed ?_
     repeat' (conv=>whnf);first
      | (refine bcase_of (fun hr=>?_) (fun hr=>?_)<;>(try simp only[smag_cells,sl2] at hr)<;>try(exfalso;first|omega|exact hr rfl|(simp at hr;done)|(simp at hr;omega)))
      | (apply And.intro;· first|exact nd3|exact pP|exact pQ)
      | (apply Exists.intro;apply And.intro;· first|exact rfl|exact cG0|exact cK0|exact cW0|exact cO0)
      | fail
     all_goals (conv=>whnf)
     all_goals refine VLoop.unroll hE mixed ?_
     repeat' (conv=>whnf);first
      | (refine bcase_of (fun hr=>?_) (fun hr=>?_)<;>(try simp only[smag_cells,sl2] at hr)<;>try(exfalso;first|omega|exact hr rfl|(simp at hr;done)|(simp at hr;omega)))
      | (apply And.intro;· first|exact nd3|exact pP|exact pQ)
      | (apply Exists.intro;apply And.intro;· first|exact rfl|exact cG0|exact cK0|exact cW0|exact cO0)
      | fail
     all_goals (conv=>whnf)
     all_goals refine VLoop.unroll hE mixed ?_
     all_goals exact kb8
    ·have e:(decide (b=0)&&decide (q=[]))=false:=by
      simp only[Bool.and_eq_false_iff,decide_eq_false_iff_not,hn0];omega
     rw[e] at hH
     obtain rfl:H=false:=hH.symm
     refine PTriple.of_body (C:=cx) Tryz.func144 rfl (by kernel_rfl) mixed fun E hE=>?_
     repeat' (conv=>whnf);first
      | (refine bcase_of (fun hr=>?_) (fun hr=>?_)<;>(try simp only[smag_cells,sl2] at hr)<;>try(exfalso;first|omega|exact hr rfl|(simp at hr;done)|(simp at hr;omega)))
      | (apply And.intro;· first|exact nd3|exact pP|exact pQ)
      | (apply Exists.intro;apply And.intro;· first|exact rfl|exact cG0|exact cK0|exact cW0|exact cO0)
      | fail
     all_goals (conv=>whnf)
     all_goals refine VLoop.unroll hE mixed ?_
     repeat' (conv=>whnf);first
      | (refine bcase_of (fun hr=>?_) (fun hr=>?_)<;>(try simp only[smag_cells,sl2] at hr)<;>try(exfalso;first|omega|exact hr rfl|(simp at hr;done)|(simp at hr;omega)))
      | (apply And.intro;· first|exact nd3|exact pP|exact pQ)
      | (apply Exists.intro;apply And.intro;· first|exact rfl|exact cG0|exact cK0|exact cW0|exact cO0)
      | fail
     all_goals (conv=>whnf)
     all_goals refine VLoop.unroll hE mixed ?_
     all_goals exact kb8
 ·rw[if_neg (by decide)] at hH
  rcases part8_facts n a p hp h6p with⟨_,hp0,cG0⟩|⟨w0,k0,cG0,cK0,cW0,h0⟩
  ·rw[hp0] at hH
   obtain rfl:H=false:=hH.symm
   refine PTriple.of_body (C:=cx) Tryz.func144 rfl (by kernel_rfl) mixed fun E hE=>?_
   repeat' (conv=>whnf);first
    | (refine bcase_of (fun hr=>?_) (fun hr=>?_)<;>(try simp only[smag_cells,sl2] at hr)<;>try(exfalso;first|omega|exact hr rfl|(simp at hr;done)|(simp at hr;omega)))
    | (apply And.intro;· first|exact nd3|exact pP|exact pQ)
    | (apply Exists.intro;apply And.intro;· first|exact rfl|exact cG0)
    | fail
   all_goals (conv=>whnf)
   all_goals refine VLoop.unroll hE mixed ?_
   all_goals exact kb7
  ·cases hp0:partOk n a p with
   | false=>
    rw[hp0] at hH h0
    obtain rfl:H=false:=hH.symm
    have h0':¬(w0=a∧k0=n):=fun h=>by have:=h0.2 h;cases this
    refine PTriple.of_body (C:=cx) Tryz.func144 rfl (by kernel_rfl) mixed fun E hE=>?_
    repeat' (conv=>whnf);first
     | (refine bcase_of (fun hr=>?_) (fun hr=>?_)<;>(try simp only[smag_cells,sl2] at hr)<;>try(exfalso;first|omega|exact hr rfl|(simp at hr;done)|(simp at hr;omega)))
     | (apply And.intro;· first|exact nd3|exact pP|exact pQ)
     | (apply Exists.intro;apply And.intro;· first|exact rfl|exact cG0|exact cK0|exact cW0|exact cO0)
     | fail
    all_goals (conv=>whnf)
    all_goals refine VLoop.unroll hE mixed ?_
    all_goals exact kb8
   | true=>
    rw[hp0] at hH h0
    obtain⟨rfl,rfl⟩:=h0.1 rfl
    simp only[Bool.true_and] at hH
    rcases part8_facts k0 b q hq h6q with⟨_,hp1,cG1⟩|⟨w1,k1,cG1,cK1,cW1,h1⟩
    ·rw[hp1] at hH
     obtain rfl:H=false:=hH.symm
     refine PTriple.of_body (C:=cx) Tryz.func144 rfl (by kernel_rfl) mixed fun E hE=>?_
     repeat' (conv=>whnf);first
      | (refine bcase_of (fun hr=>?_) (fun hr=>?_)<;>(try simp only[smag_cells,sl2] at hr)<;>try(exfalso;first|omega|exact hr rfl|(simp at hr;done)|(simp at hr;omega)))
      | (apply And.intro;· first|exact nd3|exact pP|exact pQ)
      | (apply Exists.intro;apply And.intro;· first|exact rfl|exact cG0|exact cK0|exact cW0|exact cO0|exact cG1)
      | fail
     all_goals (conv=>whnf)
     all_goals refine VLoop.unroll hE mixed ?_
     repeat' (conv=>whnf);first
      | (refine bcase_of (fun hr=>?_) (fun hr=>?_)<;>(try simp only[smag_cells,sl2] at hr)<;>try(exfalso;first|omega|exact hr rfl|(simp at hr;done)|(simp at hr;omega)))
      | (apply And.intro;· first|exact nd3|exact pP|exact pQ)
      | (apply Exists.intro;apply And.intro;· first|exact rfl|exact cG0|exact cK0|exact cW0|exact cO0|exact cG1)
      | fail
     all_goals (conv=>whnf)
     all_goals refine VLoop.unroll hE mixed ?_
     repeat' (conv=>whnf);first
      | (refine bcase_of (fun hr=>?_) (fun hr=>?_)<;>(try simp only[smag_cells,sl2] at hr)<;>try(exfalso;first|omega|exact hr rfl|(simp at hr;done)|(simp at hr;omega)))
      | (apply And.intro;· first|exact nd3|exact pP|exact pQ)
      | (apply Exists.intro;apply And.intro;· first|exact rfl|exact cG0|exact cK0|exact cW0|exact cO0|exact cG1)
      | fail
     all_goals (conv=>whnf)
     all_goals first|rfl|(exfalso;omega)
    ·cases hp1:partOk k0 b q with
     | false=>
      rw[hp1] at hH h1
      obtain rfl:H=false:=hH.symm
      have h1':¬(w1=b∧k1=k0):=fun h=>by have:=h1.2 h;cases this
      refine PTriple.of_body (C:=cx) Tryz.func144 rfl (by kernel_rfl) mixed fun E hE=>?_
      repeat' (conv=>whnf);first
       | (refine bcase_of (fun hr=>?_) (fun hr=>?_)<;>(try simp only[smag_cells,sl2] at hr)<;>try(exfalso;first|omega|exact hr rfl|(simp at hr;done)|(simp at hr;omega)))
       | (apply And.intro;· first|exact nd3|exact pP|exact pQ)
       | (apply Exists.intro;apply And.intro;· first|exact rfl|exact cG0|exact cK0|exact cW0|exact cO0|exact cG1|exact cK1|exact cW1|exact cO1)
       | fail
      all_goals (conv=>whnf)
      all_goals refine VLoop.unroll hE mixed ?_
      repeat' (conv=>whnf);first
       | (refine bcase_of (fun hr=>?_) (fun hr=>?_)<;>(try simp only[smag_cells,sl2] at hr)<;>try(exfalso;first|omega|exact hr rfl|(simp at hr;done)|(simp at hr;omega)))
       | (apply And.intro;· first|exact nd3|exact pP|exact pQ)
       | (apply Exists.intro;apply And.intro;· first|exact rfl|exact cG0|exact cK0|exact cW0|exact cO0|exact cG1|exact cK1|exact cW1|exact cO1)
       | fail
      all_goals (conv=>whnf)
      all_goals refine VLoop.unroll hE mixed ?_
      all_goals exact kb9
     | true=>
      rw[hp1] at hH h1
      obtain⟨rfl,rfl⟩:=h1.1 rfl
      obtain rfl:H=true:=hH.symm
      refine PTriple.of_body (C:=cx) Tryz.func144 rfl (by kernel_rfl) mixed fun E hE=>?_
      repeat' (conv=>whnf);first
       | (refine bcase_of (fun hr=>?_) (fun hr=>?_)<;>(try simp only[smag_cells,sl2] at hr)<;>try(exfalso;first|omega|exact hr rfl|(simp at hr;done)|(simp at hr;omega)))
       | (apply And.intro;· first|exact nd3|exact pP|exact pQ)
       | (apply Exists.intro;apply And.intro;· first|exact rfl|exact cG0|exact cK0|exact cW0|exact cO0|exact cG1|exact cK1|exact cW1|exact cO1)
       | fail
      all_goals (conv=>whnf)
      all_goals refine VLoop.unroll hE mixed ?_
      repeat' (conv=>whnf);first
       | (refine bcase_of (fun hr=>?_) (fun hr=>?_)<;>(try simp only[smag_cells,sl2] at hr)<;>try(exfalso;first|omega|exact hr rfl|(simp at hr;done)|(simp at hr;omega)))
       | (apply And.intro;· first|exact nd3|exact pP|exact pQ)
       | (apply Exists.intro;apply And.intro;· first|exact rfl|exact cG0|exact cK0|exact cW0|exact cO0|exact cG1|exact cK1|exact cW1|exact cO1)
       | fail
      all_goals (conv=>whnf)
      all_goals refine VLoop.unroll hE mixed ?_
      repeat' (conv=>whnf);first
       | (refine bcase_of (fun hr=>?_) (fun hr=>?_)<;>(try simp only[smag_cells,sl2] at hr)<;>try(exfalso;first|omega|exact hr rfl|(simp at hr;done)|(simp at hr;omega)))
       | (apply And.intro;· first|exact nd3|exact pP|exact pQ)
       | (apply Exists.intro;apply And.intro;· first|exact rfl|exact cG0|exact cK0|exact cW0|exact cO0|exact cG1|exact cK1|exact cW1|exact cO1)
       | fail
      all_goals (conv=>whnf)
      all_goals refine VLoop.unroll hE mixed ?_
      all_goals exact kb9
end Go.Proofs.YtbppemcdphgknaaGreatDoor
namespace Go.Proofs.YtbppemcdphgknaaGreatDoor
open Go Go.Vm
abbrev zV:V:=.agg [i64V 0,i64V 0,i64V 0,.nils,.nils]
theorem zV_rel {ρ:Rho} {M:Mem} {v:Value} (h:VRel ρ M zV v):VRel ρ M (cellV 0 0 0 [] []) v:=by
 cases h with
 | agg h1 h2=>
  have:VsRel ρ M [i64V 0,i64V 0,i64V 0,.nils,.nils] _:=⟨h1,h2⟩
  have h3:=(Nilled.same (v:=i64V 0) (.same (v:=i64V 0) (.same (v:=i64V 0) (.nils (sz:=2) (.nils (sz:=2) .nil))))).rel this
  exact .agg h3.1 h3.2
inductive ZNil:List V→List V→Prop
 | nil:ZNil [] []
 | same {v:V} {l l':List V}:ZNil l l'→ZNil (v::l) (v::l')
 | zero {l l':List V}:ZNil l l'→ZNil (zV::l) (cellV 0 0 0 [] []::l')
theorem ZNil.rel {l l':List V} (h:ZNil l l') {ρ:Rho} {M:Mem}:∀{vs:List Value},VsRel ρ M l vs→VsRel ρ M l' vs:=by
 induction h with
 | nil=>exact fun h=>h
 | same _ ih=>intro vs h;obtain⟨v',r,rfl,h1,h2⟩:=h.uncons;exact .cons h1 (ih h2)
 | zero _ ih=>intro vs h;obtain⟨v',r,rfl,h1,h2⟩:=h.uncons;exact .cons (zV_rel h1) (ih h2)
theorem _root_.Go.Vm.PTriple.zarg {P:Program} {G:Nat→V} {f:FuncId} {args args':List V} {r:V} (h:PTriple P G f args r) (ha:ZNil args' args):PTriple P G f args' r:=
 h.weak (fun _ _ h=>ha.rel h) fun _ _ h=>h
theorem _root_.Go.Vm.PTriple.zres {P:Program} {G:Nat→V} {f:FuncId} {args:List V} {b:V} (h:PTriple P G f args (.tup [zV,b])):PTriple P G f args (.tup [cellV 0 0 0 [] [],b]):=
 h.weak (fun _ _ h=>h) fun M v h=>by
  cases h with
  | tup h1 h2=>
   have:VsRel (fun _=>none) M [zV,b] _:=⟨h1,h2⟩
   have h3:=(ZNil.zero (.same (v:=b) .nil)).rel this
   exact .tup h3.1 h3.2
def stEq (p q:RL) (i:Nat):St DV:=mkSt 26 [(0,bagV p),(1,bagV q),(12,i64V p.length),(13,i64V i)] [] []
theorem pair_ne {x y:Int×Int}:(x.1==y.1&&(x.2==y.2&&true))=decide (x=y):=by
 rw[Bool.eq_iff_iff];simp[Prod.ext_iff]
theorem equal_ok (p q:RL) (hp:p.length≤100000) (hq:q.length≤100000):PTriple Tryz.prog gv 192 [bagV p,bagV q] (.bool (decide (p=q))):=by
 have pP:=pure_R p
 have pQ:=pure_R q
 have lP:=lenR p
 have lQ:=lenR q
 by_cases hlen:p.length=q.length
 case neg=>
  have hd:decide (p=q)=false:=by simp;intro e;exact hlen (by rw[e])
  rw[hd]
  refine PTriple.of_body (C:=cx) Tryz.func192 rfl (by kernel_rfl) mixed fun E hE=>?_
  all_goals exact kb4
 case pos=>
  refine PTriple.of_body (C:=cx) Tryz.func192 rfl (by kernel_rfl) mixed fun E hE=>?_
  repeat' (conv=>whnf);first
   | (refine bcase_of (fun hr=>?_) (fun hr=>?_)<;>(try simp only[sl2] at hr)<;>try(exfalso;first|omega|exact hr rfl|(simp at hr;done)|(simp at hr;omega)))
   | (apply And.intro;· first|exact nd3)
   | (apply Exists.intro;apply And.intro;· first|exact rfl)
   | fail
  all_goals (conv=>whnf)
  refine VLoop.norm [0,1,12,13] [] ?_
  repeat' (conv=>whnf);first
   | (apply And.intro;· first|exact nd2|exact pP|exact pQ)
   | (apply Exists.intro;apply And.intro;· first|exact rfl)
   | fail
  refine VLoop.inv (fun i:Nat=>stEq p q i) (fun i=>i≤p.length∧p.take i=q.take i) (fun i=>p.length-i) 0 ⟨Nat.zero_le _,by simp⟩ (by unfold stEq;rw[←lP];rfl) ?_
  intro i ⟨hi,heq⟩ ih
  by_cases hgo:i<p.length
  case neg=>
   have he:p=q:=by rwa [List.take_of_length_le (by omega),List.take_of_length_le (by omega)] at heq
   rw[decide_eq_true he]
   refine VLoop.unroll hE mixed ?_
   all_goals exact kb4
  case pos=>
   have hw:IntKind.i64.wrap ((i:Int)+1)=((i+1:Nat):Int):=wrap64 (by omega) (by omega)
   obtain⟨x,hx⟩:∃x,p[i]?=some x:=⟨_,List.getElem?_eq_getElem hgo⟩
   obtain⟨y,hy⟩:∃y,q[i]?=some y:=⟨_,List.getElem?_eq_getElem (by omega)⟩
   have gx:=getR hx
   have gy:=getR hy
   have hne:=@pair_ne x y
   by_cases hxy:x=y
   case pos=>
    subst hxy
    refine VLoop.unroll hE mixed ?_
    repeat' (conv=>whnf);first
     | (refine bcase_of (fun hr=>?_) (fun hr=>?_)<;>(try simp only[sl2] at hr)<;>try(exfalso;first|omega|exact hr rfl|(simp at hr;done)|(simp at hr;omega)|(simp[hne] at hr;done)|(simp at hr;exact hxy (Prod.ext hr.1 hr.2))|(simp at hr;exact h2 hr)|(simp_all;done)))
     | (apply And.intro;· first|exact nd3|exact⟨by omega,by rw[lP];omega⟩|exact⟨by omega,by rw[lQ];omega⟩)
     | (apply Exists.intro;apply And.intro;· first|exact rfl|exact gx|exact gy)
     | rw[hw]
     | fail
    all_goals (conv=>whnf)
    refine VLoop.norm [0,1,12,13] [] ?_
    repeat' (conv=>whnf);first
     | (apply And.intro;· first|exact nd2|exact pP|exact pQ)
     | (apply Exists.intro;apply And.intro;· first|exact rfl)
     | fail
    try rw[hw]
    exact ih (i+1) ⟨hgo,by rw[take_get hx,take_get hy,heq]⟩ (by omega)
   case neg=>
    have hd:decide (p=q)=false:=by
     simp;intro e;rw[e,hy] at hx;cases hx;exact hxy rfl
    rw[hd]
    refine VLoop.unroll hE mixed ?_
    repeat' (conv=>whnf);first
     | (refine bcase_of (fun hr=>?_) (fun hr=>?_)<;>(try simp only[sl2] at hr)<;>try(exfalso;first|omega|exact hr rfl|(simp at hr;done)|(simp at hr;omega)|(simp[hne] at hr;done)|(simp at hr;exact hxy (Prod.ext hr.1 hr.2))|(simp at hr;exact h2 hr)|(simp_all;done)))
     | (apply And.intro;· first|exact nd3|exact⟨by omega,by rw[lP];omega⟩|exact⟨by omega,by rw[lQ];omega⟩)
     | (apply Exists.intro;apply And.intro;· first|exact rfl|exact gx|exact gy)
     | rw[hw]
     | fail
    all_goals (conv=>whnf)
    all_goals rfl
theorem bagSame_ok (p q:RL) (hp:p.length≤100000) (hq:q.length≤100000):PTriple Tryz.prog gv 180 [bagV p,bagV q] (.bool (decide (p=q))):=by
 have pP:=pure_R p
 have pQ:=pure_R q
 have c:=equal_ok p q hp hq
 generalize decide (p=q)=u at c
 cases u
 all_goals refine PTriple.of_body (C:=cx) Tryz.func180 rfl (by kernel_rfl) mixed fun E hE=>?_
 repeat' (conv=>whnf);first
  | (refine bcase_of (fun hr=>?_) (fun hr=>?_)<;>(try simp only[sl2] at hr)<;>try(exfalso;first|omega|exact hr rfl|(simp at hr;done)|(simp at hr;omega)))
  | (apply And.intro;· first|exact nd3|exact pP|exact pQ)
  | (apply Exists.intro;apply And.intro;· first|exact rfl|exact c)
  | fail
 all_goals (conv=>whnf)
 all_goals rfl
theorem cellSame_ok (n a b m c d:Int) (p q r s:RL) (hp:p.length≤100000) (hq:q.length≤100000) (hr:r.length≤100000) (hs:s.length≤100000) :
  PTriple Tryz.prog gv 158 [cellV n a b p q,cellV m c d r s] (.bool (decide (n=m∧a=c∧b=d∧p=r∧q=s))):=by
 have pP:=pure_R p
 have pQ:=pure_R q
 have pR:=pure_R r
 have pS:=pure_R s
 have c1:=bagSame_ok p r hp hr
 have c2:=bagSame_ok q s hq hs
 clear hp hq hr hs
 have hne:(a==c&&(b==d&&true))=decide (a=c∧b=d):=by rw[Bool.eq_iff_iff];simp
 by_cases h0:n=m∧a=c∧b=d
 case neg=>
  have e:decide (n=m∧a=c∧b=d∧p=r∧q=s)=false:=by
   rw[decide_eq_false_iff_not];rintro⟨h1,h2,h3,_⟩;exact h0 ⟨h1,h2,h3⟩
  rw[e]
  by_cases h1:n=m
  ·have h2:¬(a=c∧b=d):=fun h=>h0 ⟨h1,h.1,h.2⟩
   rw[decide_eq_false h2] at hne
   refine PTriple.of_body (C:=cx) Tryz.func158 rfl (by kernel_rfl) mixed fun E hE=>?_
   all_goals exact kb10
  ·refine PTriple.of_body (C:=cx) Tryz.func158 rfl (by kernel_rfl) mixed fun E hE=>?_
   all_goals exact kb10
 case pos=>
  obtain⟨rfl,rfl,rfl⟩:=h0
  have e:decide (n=n∧a=a∧b=b∧p=r∧q=s)=(decide (p=r)&&decide (q=s)):=by rw[Bool.eq_iff_iff];simp
  rw[e]
  rw[decide_eq_true ⟨rfl,rfl⟩] at hne
  generalize decide (p=r)=u at c1 ⊢
  generalize decide (q=s)=v at c2 ⊢
  refine PTriple.of_body (C:=cx) Tryz.func158 rfl (by kernel_rfl) mixed fun E hE=>?_
  repeat' (conv=>whnf);first
   | (refine bcase_of (fun hr=>?_) (fun hr=>?_)<;>(try simp only[sl2] at hr)<;>try(exfalso;first|omega|exact hr rfl|(simp at hr;done)|(simp at hr;omega)|(simp[hne] at hr;done)|(simp at hr;exact hxy (Prod.ext hr.1 hr.2))|(simp at hr;exact h2 hr)|(simp_all;done)))
   | (apply And.intro;· first|exact nd3)
   | (apply Exists.intro;apply And.intro;· first|exact rfl)
   | fail
  all_goals (conv=>whnf)
  all_goals refine VLoop.unroll hE mixed ?_
  cases u with
  | false=>
   repeat' (conv=>whnf);first
    | (refine bcase_of (fun hr=>?_) (fun hr=>?_)<;>(try simp only[sl2] at hr)<;>try(exfalso;first|omega|exact hr rfl|(simp at hr;done)|(simp at hr;omega)|(simp[hne] at hr;done)|(simp at hr;exact hxy (Prod.ext hr.1 hr.2))|(simp at hr;exact h2 hr)|(simp_all;done)))
    | (apply And.intro;· first|exact nd3|exact pP|exact pR)
    | (apply Exists.intro;apply And.intro;· first|exact rfl|exact c1)
    | fail
   all_goals (conv=>whnf)
   all_goals rfl
  | true=>
   repeat' (conv=>whnf);first
    | (refine bcase_of (fun hr=>?_) (fun hr=>?_)<;>(try simp only[sl2] at hr)<;>try(exfalso;first|omega|exact hr rfl|(simp at hr;done)|(simp at hr;omega)|(simp[hne] at hr;done)|(simp at hr;exact hxy (Prod.ext hr.1 hr.2))|(simp at hr;exact h2 hr)|(simp_all;done)))
    | (apply And.intro;· first|exact nd3|exact pP|exact pR)
    | (apply Exists.intro;apply And.intro;· first|exact rfl|exact c1)
    | fail
   all_goals (conv=>whnf)
   all_goals refine VLoop.unroll hE mixed ?_
   cases v with
   | false=>
    repeat' (conv=>whnf);first
     | (refine bcase_of (fun hr=>?_) (fun hr=>?_)<;>(try simp only[sl2] at hr)<;>try(exfalso;first|omega|exact hr rfl|(simp at hr;done)|(simp at hr;omega)|(simp[hne] at hr;done)|(simp at hr;exact hxy (Prod.ext hr.1 hr.2))|(simp at hr;exact h2 hr)|(simp_all;done)))
     | (apply And.intro;· first|exact nd3|exact pQ|exact pS)
     | (apply Exists.intro;apply And.intro;· first|exact rfl|exact c2)
     | fail
    all_goals (conv=>whnf)
    all_goals rfl
   | true=>
    repeat' (conv=>whnf);first
     | (refine bcase_of (fun hr=>?_) (fun hr=>?_)<;>(try simp only[sl2] at hr)<;>try(exfalso;first|omega|exact hr rfl|(simp at hr;done)|(simp at hr;omega)|(simp[hne] at hr;done)|(simp at hr;exact hxy (Prod.ext hr.1 hr.2))|(simp at hr;exact h2 hr)|(simp_all;done)))
     | (apply And.intro;· first|exact nd3|exact pQ|exact pS)
     | (apply Exists.intro;apply And.intro;· first|exact rfl|exact c2)
     | fail
    all_goals (conv=>whnf)
    all_goals refine VLoop.unroll hE mixed ?_
    all_goals exact kb10
end Go.Proofs.YtbppemcdphgknaaGreatDoor
namespace Go.Proofs.YtbppemcdphgknaaGreatDoor
open Go Go.Vm
def zeroC (n a b:Int) (p q:RL):Bool:=decide (n=0∧a=0∧b=0∧p=[]∧q=[])
def mayC (m:Int) (i:Bool) (n a b:Int) (p q:RL):Bool:=if i then goodC m n a b p q else zeroC n a b p q
theorem may_ok (m n a b:Int) (p q:RL) (i:Bool) (hp:p.length≤100000) (hq:q.length≤100000) (h6p:RIn p) (h6q:RIn q) (ha:in64 a) (hb:in64 b):PTriple Tryz.prog gv 122 [i64V m,cellV n a b p q,.bool i] (.bool (mayC m i n a b p q)):=by
 have pP:=pure_R p
 have pQ:=pure_R q
 cases i with
 | true=>
  have c:=cellGood_ok m n a b p q hp hq h6p h6q ha hb
  show PTriple Tryz.prog gv 122 _ (.bool (goodC m n a b p q))
  generalize goodC m n a b p q=H at c
  refine PTriple.of_body (C:=cx) Tryz.func122 rfl (by kernel_rfl) mixed fun E hE=>?_
  all_goals exact kb11
 | false=>
  have c:=(cellSame_ok n a b 0 0 0 p q [] [] hp hq (by simp) (by simp)).zarg (.same (v:=cellV n a b p q) (.zero .nil))
  show PTriple Tryz.prog gv 122 _ (.bool (zeroC n a b p q))
  have e:decide (n=0∧a=0∧b=0∧p=[]∧q=[])=zeroC n a b p q:=rfl
  rw[e] at c
  generalize zeroC n a b p q=H at c
  refine PTriple.of_body (C:=cx) Tryz.func122 rfl (by kernel_rfl) mixed fun E hE=>?_
  all_goals exact kb11
end Go.Proofs.YtbppemcdphgknaaGreatDoor
