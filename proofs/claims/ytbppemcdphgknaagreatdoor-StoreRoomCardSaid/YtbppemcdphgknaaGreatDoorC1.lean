/- A part of the proofs over the seat YtbppemcdphgknaaGreatDoor. -/
import Derived.Test.YtbppemcdphgknaaGreatDoorZCx
set_option linter.unusedVariables false
set_option linter.unusedSimpArgs false
set_option maxRecDepth 100000
set_option maxHeartbeats 40000000
namespace Go.Proofs.YtbppemcdphgknaaGreatDoor
open Go Go.Vm
set_option maxRecDepth 100000
set_option maxHeartbeats 40000000
set_option linter.unusedSimpArgs false
set_option linter.unusedVariables false
def known (n:Int):Bool:=decide (n=1∨n=2∨n=3)
def was (n:Int):Bool:=decide (n=2∨n=3)
def is (n:Int):Bool:=decide (n=1∨n=2)
def rowOp (n:Int):Int:=if n=1∨n=2∨n=3 then n else 0
def ofV (w i:Bool):Int:=match w,i with
 | false,false=>0
 | false,true=>1
 | true,true=>2
 | true,false=>3
def thenV (a b:Int):Int×Bool:=
 if(a≠0∧known a=false)∨(b≠0∧known b=false) then(0,false)
 else if a=0 then(b,true)
 else if b=0 then(a,true)
 else if is a=was b then(ofV (was a) (is b),true)
 else(0,false)
abbrev int1 (n:Int):V:=.int .i64 n
abbrev pair (x:Int×Bool):V:=.tup [.int .i64 x.1,.bool x.2]
abbrev pairA (x:Int×Bool):V:=.agg [.int .i64 x.1,.bool x.2]
theorem ok76 (n:Int):PTriple Tryz.prog gv 156 [int1 n] (.tup [.agg [.int .i64 (rowOp n),.bool (was n),.bool (is n)],.bool (known n)]):=by
 refine PTriple.of_body (C:=cx) Tryz.func156 rfl (by kernel_rfl) mixed fun E hE=>?_
 repeat' (conv=>whnf);first
  | refine⟨_,rfl,?_⟩
  | refine⟨by first|decide|exact nbz rfl|omega,?_⟩
  | refine VLoop.unroll hE mixed ?_
  | (refine bcase_of (fun h=>?_) (fun h=>?_)<;>have hr:=h<;>(try simp only[known,was,is,beq_iff_eq,beq_eq_false_iff_ne,bne_iff_ne,bne_eq_false_iff_eq,decide_eq_true_eq,decide_eq_false_iff_not,ne_eq] at h)<;>try(exfalso;first|omega|contradiction))
 all_goals (conv=>whnf)
 all_goals (try simp only[retOf,pair,pairA,V.tup.injEq,V.agg.injEq,List.cons.injEq,V.int.injEq,V.bool.injEq,true_and,and_true])
 all_goals first
  | rfl
  | omega
  | ((repeat' apply And.intro)<;>first|rfl|omega|(simp only[rowOp];split<;>omega)|(simp[known,was,is];done)|(simp[known,was,is];omega))
theorem ok41 (n:Int):PTriple Tryz.prog gv 154 [int1 n] (.bool (known n)):=by
 refine PTriple.of_body (C:=cx) Tryz.func154 rfl (by kernel_rfl) mixed fun E hE=>?_
 repeat' (conv=>whnf);first
  | refine⟨_,rfl,?_⟩
  | refine⟨by first|decide|exact nbz rfl|omega,?_⟩
  | refine⟨_,ok76 _,?_⟩
  | refine VLoop.unroll hE mixed ?_
  | (refine bcase_of (fun h=>?_) (fun h=>?_)<;>have hr:=h<;>(try simp only[known,was,is,beq_iff_eq,beq_eq_false_iff_ne,bne_iff_ne,bne_eq_false_iff_eq,decide_eq_true_eq,decide_eq_false_iff_not,ne_eq] at h)<;>try(exfalso;first|omega|contradiction))
 all_goals (conv=>whnf)
 all_goals (try simp only[retOf,pair,pairA,V.tup.injEq,V.agg.injEq,List.cons.injEq,V.int.injEq,V.bool.injEq,true_and,and_true])
 all_goals first
  | rfl
  | omega
  | ((repeat' apply And.intro)<;>first|rfl|omega|(simp only[rowOp];split<;>omega)|(simp[known,was,is];done)|(simp[known,was,is];omega))
theorem ok44 (n:Int):PTriple Tryz.prog gv 155 [int1 n] (.bool (was n)):=by
 refine PTriple.of_body (C:=cx) Tryz.func155 rfl (by kernel_rfl) mixed fun E hE=>?_
 repeat' (conv=>whnf);first
  | refine⟨_,rfl,?_⟩
  | refine⟨by first|decide|exact nbz rfl|omega,?_⟩
  | refine⟨_,ok76 _,?_⟩
  | refine VLoop.unroll hE mixed ?_
  | (refine bcase_of (fun h=>?_) (fun h=>?_)<;>have hr:=h<;>(try simp only[known,was,is,beq_iff_eq,beq_eq_false_iff_ne,bne_iff_ne,bne_eq_false_iff_eq,decide_eq_true_eq,decide_eq_false_iff_not,ne_eq] at h)<;>try(exfalso;first|omega|contradiction))
 all_goals (conv=>whnf)
 all_goals (try simp only[retOf,pair,pairA,V.tup.injEq,V.agg.injEq,List.cons.injEq,V.int.injEq,V.bool.injEq,true_and,and_true])
 all_goals first
  | rfl
  | omega
  | ((repeat' apply And.intro)<;>first|rfl|omega|(simp only[rowOp];split<;>omega)|(simp[known,was,is];done)|(simp[known,was,is];omega))
theorem ok43 (n:Int):PTriple Tryz.prog gv 120 [int1 n] (.bool (is n)):=by
 refine PTriple.of_body (C:=cx) Tryz.func120 rfl (by kernel_rfl) mixed fun E hE=>?_
 repeat' (conv=>whnf);first
  | refine⟨_,rfl,?_⟩
  | refine⟨by first|decide|exact nbz rfl|omega,?_⟩
  | refine⟨_,ok76 _,?_⟩
  | refine VLoop.unroll hE mixed ?_
  | (refine bcase_of (fun h=>?_) (fun h=>?_)<;>have hr:=h<;>(try simp only[known,was,is,beq_iff_eq,beq_eq_false_iff_ne,bne_iff_ne,bne_eq_false_iff_eq,decide_eq_true_eq,decide_eq_false_iff_not,ne_eq] at h)<;>try(exfalso;first|omega|contradiction))
 all_goals (conv=>whnf)
 all_goals (try simp only[retOf,pair,pairA,V.tup.injEq,V.agg.injEq,List.cons.injEq,V.int.injEq,V.bool.injEq,true_and,and_true])
 all_goals first
  | rfl
  | omega
  | ((repeat' apply And.intro)<;>first|rfl|omega|(simp only[rowOp];split<;>omega)|(simp[known,was,is];done)|(simp[known,was,is];omega))
theorem ok78ff:PTriple Tryz.prog gv 159 [.bool false,.bool false] (.int .i64 (ofV false false)):=by
 refine PTriple.of_body (C:=cx) Tryz.func159 rfl (by kernel_rfl) mixed fun E hE=>?_
 repeat' (conv=>whnf);first
  | refine⟨_,rfl,?_⟩
  | refine⟨by first|decide|exact nbz rfl|omega,?_⟩
  | refine VLoop.unroll hE mixed ?_
  | (refine bcase_of (fun h=>?_) (fun h=>?_)<;>have hr:=h<;>(try simp only[known,was,is,beq_iff_eq,beq_eq_false_iff_ne,bne_iff_ne,bne_eq_false_iff_eq,decide_eq_true_eq,decide_eq_false_iff_not,ne_eq] at h)<;>try(exfalso;first|omega|contradiction))
 all_goals (conv=>whnf)
 all_goals (try simp only[retOf,pair,pairA,V.tup.injEq,V.agg.injEq,List.cons.injEq,V.int.injEq,V.bool.injEq,true_and,and_true])
 all_goals first
  | rfl
  | omega
  | ((repeat' apply And.intro)<;>first|rfl|omega|(simp only[rowOp];split<;>omega)|(simp[known,was,is];done)|(simp[known,was,is];omega))
theorem ok78ft:PTriple Tryz.prog gv 159 [.bool false,.bool true] (.int .i64 (ofV false true)):=by
 refine PTriple.of_body (C:=cx) Tryz.func159 rfl (by kernel_rfl) mixed fun E hE=>?_
 repeat' (conv=>whnf);first
  | refine⟨_,rfl,?_⟩
  | refine⟨by first|decide|exact nbz rfl|omega,?_⟩
  | refine VLoop.unroll hE mixed ?_
  | (refine bcase_of (fun h=>?_) (fun h=>?_)<;>have hr:=h<;>(try simp only[known,was,is,beq_iff_eq,beq_eq_false_iff_ne,bne_iff_ne,bne_eq_false_iff_eq,decide_eq_true_eq,decide_eq_false_iff_not,ne_eq] at h)<;>try(exfalso;first|omega|contradiction))
 all_goals (conv=>whnf)
 all_goals (try simp only[retOf,pair,pairA,V.tup.injEq,V.agg.injEq,List.cons.injEq,V.int.injEq,V.bool.injEq,true_and,and_true])
 all_goals first
  | rfl
  | omega
  | ((repeat' apply And.intro)<;>first|rfl|omega|(simp only[rowOp];split<;>omega)|(simp[known,was,is];done)|(simp[known,was,is];omega))
theorem ok78tf:PTriple Tryz.prog gv 159 [.bool true,.bool false] (.int .i64 (ofV true false)):=by
 refine PTriple.of_body (C:=cx) Tryz.func159 rfl (by kernel_rfl) mixed fun E hE=>?_
 repeat' (conv=>whnf);first
  | refine⟨_,rfl,?_⟩
  | refine⟨by first|decide|exact nbz rfl|omega,?_⟩
  | refine VLoop.unroll hE mixed ?_
  | (refine bcase_of (fun h=>?_) (fun h=>?_)<;>have hr:=h<;>(try simp only[known,was,is,beq_iff_eq,beq_eq_false_iff_ne,bne_iff_ne,bne_eq_false_iff_eq,decide_eq_true_eq,decide_eq_false_iff_not,ne_eq] at h)<;>try(exfalso;first|omega|contradiction))
 all_goals (conv=>whnf)
 all_goals (try simp only[retOf,pair,pairA,V.tup.injEq,V.agg.injEq,List.cons.injEq,V.int.injEq,V.bool.injEq,true_and,and_true])
 all_goals first
  | rfl
  | omega
  | ((repeat' apply And.intro)<;>first|rfl|omega|(simp only[rowOp];split<;>omega)|(simp[known,was,is];done)|(simp[known,was,is];omega))
theorem ok78tt:PTriple Tryz.prog gv 159 [.bool true,.bool true] (.int .i64 (ofV true true)):=by
 refine PTriple.of_body (C:=cx) Tryz.func159 rfl (by kernel_rfl) mixed fun E hE=>?_
 repeat' (conv=>whnf);first
  | refine⟨_,rfl,?_⟩
  | refine⟨by first|decide|exact nbz rfl|omega,?_⟩
  | refine VLoop.unroll hE mixed ?_
  | (refine bcase_of (fun h=>?_) (fun h=>?_)<;>have hr:=h<;>(try simp only[known,was,is,beq_iff_eq,beq_eq_false_iff_ne,bne_iff_ne,bne_eq_false_iff_eq,decide_eq_true_eq,decide_eq_false_iff_not,ne_eq] at h)<;>try(exfalso;first|omega|contradiction))
 all_goals (conv=>whnf)
 all_goals (try simp only[retOf,pair,pairA,V.tup.injEq,V.agg.injEq,List.cons.injEq,V.int.injEq,V.bool.injEq,true_and,and_true])
 all_goals first
  | rfl
  | omega
  | ((repeat' apply And.intro)<;>first|rfl|omega|(simp only[rowOp];split<;>omega)|(simp[known,was,is];done)|(simp[known,was,is];omega))
theorem ok78:∀w i:Bool,PTriple Tryz.prog gv 159 [.bool w,.bool i] (.int .i64 (ofV w i))
 | false,false=>ok78ff
 | false,true=>ok78ft
 | true,false=>ok78tf
 | true,true=>ok78tt
theorem ok79 (a b:Int):PTriple Tryz.prog gv 160 [int1 a,int1 b] (pair (thenV a b)):=by
 refine PTriple.of_body (C:=cx) Tryz.func160 rfl (by kernel_rfl) mixed fun E hE=>?_
 repeat' (conv=>whnf);first
  | refine⟨_,rfl,?_⟩
  | refine⟨by first|decide|exact nbz rfl|omega,?_⟩
  | refine⟨_,ok41 _,?_⟩
  | refine⟨_,ok44 _,?_⟩
  | refine⟨_,ok43 _,?_⟩
  | refine⟨_,ok78 _ _,?_⟩
  | refine VLoop.unroll hE mixed ?_
  | (refine bcase_of (fun h=>?_) (fun h=>?_)<;>have hr:=h<;>(try simp only[known,was,is,beq_iff_eq,beq_eq_false_iff_ne,bne_iff_ne,bne_eq_false_iff_eq,decide_eq_true_eq,decide_eq_false_iff_not,ne_eq] at h)<;>try(exfalso;first|omega|contradiction))
 all_goals (conv=>whnf)
 all_goals (try simp only[retOf,pair,pairA,V.tup.injEq,V.agg.injEq,List.cons.injEq,V.int.injEq,V.bool.injEq,true_and,and_true])
 all_goals (simp only[thenV,known,was,is,ne_eq,decide_eq_false_iff_not,decide_eq_decide])
 all_goals ((repeat' split)<;>first|omega|(refine⟨?_,?_⟩<;>first|rfl|omega)|(simp_all [ofV];done))
end Go.Proofs.YtbppemcdphgknaaGreatDoor
