/- A part of the proofs over the seat YtbppemcdphgknaaGreatDoor. -/
import Derived.Test.YtbppemcdphgknaaGreatDoorC7
set_option linter.unusedVariables false
set_option linter.unusedSimpArgs false
set_option maxRecDepth 100000
set_option maxHeartbeats 40000000
namespace Go.Proofs.YtbppemcdphgknaaGreatDoor
open Go Go.Vm
set_option maxRecDepth 100000
set_option maxHeartbeats 40000000
set_option linter.unusedSimpArgs false
set_option linter.unusedVariables false
theorem ra8 (es xs:List (List V)) (k:Nat) (hk:k≤es.length) (h:k+xs.length≤20000000):0+0+k≤es.length∧(false=true→0+0+k=es.length)∧(k+xs.length)*88≤roomBound∧k+xs.length≤roomBound:=
 ⟨by omega,(by intro h;cases h),by unfold roomBound;omega,by unfold roomBound;omega⟩
theorem fW (l:List En):(((([]:List (List V)).drop 0).take 0++l.map encE).drop 0).take (0+(l.map encE).length)=l.map encE:=by
 simp[List.take_of_length_le]
theorem fCut (l:List En):(((([]:List (List V)).drop 0).take 0++l.map encE).drop (0+0)).take (((l.length:Int)-1).toNat-0)=(l.take (l.length-1)).map encE:=by
 rw[show((l.length:Int)-1).toNat-0=l.length-1 by omega]
 simp[List.map_take]
theorem fA (l:List En) (ver op:Int) (c:En):(((((([]:List (List V)).drop 0).take 0++l.map encE).drop 0).take (0+(l.map encE).length)++([[V.int .i64 ver,V.int .i64 op,V.int .i64 c.n,V.int .i64 c.a,V.int .i64 c.b,V.lst 2 (c.p.map encR),V.lst 2 (c.q.map encR)]].drop 0).take 1).drop 0).take ((0+(l.map encE).length)+(([[V.int .i64 ver,V.int .i64 op,V.int .i64 c.n,V.int .i64 c.a,V.int .i64 c.b,V.lst 2 (c.p.map encR),V.lst 2 (c.q.map encR)]].drop 0).take 1).length)=(l++[newE ver op c]).map encE:=by
 rw[fW,List.drop_zero,List.take_of_length_le (by simp)]
 simp[encE,newE]
theorem fD (l:List En) (ver op:Int) (c:En) (h:0<l.length):(((((([]:List (List V)).drop 0).take 0++l.map encE).drop (0+0)).take (((l.length:Int)-1).toNat-0)++([[V.int .i64 ver,V.int .i64 op,V.int .i64 c.n,V.int .i64 c.a,V.int .i64 c.b,V.lst 2 (c.p.map encR),V.lst 2 (c.q.map encR)]].drop 0).take 1).drop 0).take ((((l.length:Int)-1).toNat-0)+(([[V.int .i64 ver,V.int .i64 op,V.int .i64 c.n,V.int .i64 c.a,V.int .i64 c.b,V.lst 2 (c.p.map encR),V.lst 2 (c.q.map encR)]].drop 0).take 1).length)=(l.take (l.length-1)++[newE ver op c]).map encE:=by
 rw[fCut,show((l.length:Int)-1).toNat-0=l.length-1 by omega,List.drop_zero,List.take_of_length_le (by simp<;>omega)]
 try simp[encE,newE]
theorem Put13_ok (m keep ver floor:Int) (l:List En) (c:En) (i:Bool) (h:ChIn l) (hl:l.length≤800) (hc:EnIn c):PTriple Tryz.prog gv 130 [i64V m,i64V keep,chV l,i64V ver,cellE c,.bool i,i64V floor] (resP13 (putA m keep l ver c i floor)):=by
 have pL:=pure_E l
 have lL:=lenE l
 have pcp:=pure_R c.p
 have pcq:=pure_R c.q
 have cG:=goodL13_ok m l (by omega) h.2
 have cG9:=cellGood9_ok m c.n c.a c.b c.p c.q hc.lp hc.lq hc.rp hc.rq hc.a64 hc.b64
 have cZ:=zero9_ok c.n c.a c.b c.p c.q
 have hYt:i=true→PTriple Tryz.prog gv 144 [i64V m,cellE c] (.bool (mayC m i c.n c.a c.b c.p c.q)):=fun h=>by unfold mayC;rw[h];exact cG9
 have hYf:i=false→PTriple Tryz.prog gv 145 [cellE c] (.bool (mayC m i c.n c.a c.b c.p c.q)):=fun h=>by unfold mayC;rw[h];exact cZ
 clear cG9 cZ
 have hO:=putS_ch h hl hc ver i
 have pO:=pure_E (putS l ver c i)
 have lO:=lenE (putS l ver c i)
 have hO9:=hO.1
 have hw0:IntKind.i64.wrap (((l.map encE).length:Int)-1)=((l.length:Nat):Int)-1:=by rw[lL];exact wrap64 (by omega) (by omega)
 unfold putA okP lastLe
 generalize mayC m i c.n c.a c.b c.p c.q=Y at hYt hYf ⊢
 cases hg:goodL m l with
 | false=>
  rw[hg] at cG
  simp only[Bool.false_and]
  refine PTriple.agg_nils ?_
  cases i
  all_goals refine PTriple.of_body (C:=cx) Tryz.func130 rfl (by kernel_rfl) mixed fun E hE=>?_
  all_goals exact kb31
 | true=>
 rw[hg] at cG
 by_cases hk:(2≤keep∧keep≤8)∧1≤ver
 case neg=>
  have e:(true&&decide (2≤keep)&&decide (keep≤8)&&decide (1≤ver))=false:=by simp;omega
  rw[e]
  simp only[Bool.false_and]
  refine PTriple.agg_nils ?_
  cases i
  all_goals refine PTriple.of_body (C:=cx) Tryz.func130 rfl (by kernel_rfl) mixed fun E hE=>?_
  all_goals exact kb31
 case pos=>
 have e:(true&&decide (2≤keep)&&decide (keep≤8)&&decide (1≤ver))=true:=by simp;omega
 rw[e]
 have hwk:IntKind.i64.wrap (keep+1)=keep+1:=wrap64 (by omega) (by omega)
 simp only[Bool.true_and]
 cases Y with
 | false=>
  rw[Bool.and_false]
  refine PTriple.agg_nils ?_
  cases i
  all_goals refine PTriple.of_body (C:=cx) Tryz.func130 rfl (by kernel_rfl) mixed fun E hE=>?_
  repeat' (conv=>whnf);first
   | (refine bcase_of (fun hr=>?_) (fun hr=>?_)<;>(try simp only[sl2] at hr)<;>try(exfalso;first|omega|exact hr rfl|(simp at hr;done)|(simp at hr;omega)))
   | (apply And.intro;· first|exact nd4|exact⟨by omega,by rw[lL];omega⟩|exact pL|exact pp|exact pq|exact pcp|exact pcq)
   | (apply Exists.intro;apply And.intro;· first|exact rfl|exact cG|exact hYt rfl|exact hYf rfl)
   | fail
  all_goals (conv=>whnf)
  all_goals rfl
 | true=>
 rw[Bool.and_true]
 obtain⟨out,hout⟩:∃out,out=putS l ver c i:=⟨_,rfl⟩
 rw[←hout] at hO pO lO hO9 ⊢
 have cPr:=Prune13_ok m out floor hO
 have pPr:=pure_E (pruneS m out floor)
 have lPr:=lenE (pruneS m out floor)
 unfold putS at hout
 cases hx:l[l.length-1]? with
 | none=>
  have hn:l.length=0:=by
   rcases Nat.eq_zero_or_pos l.length with h0|h0
   ·exact h0
   ·rw[List.getElem?_eq_getElem (by omega)] at hx;cases hx
  have hnil:l=[]:=by simpa using hn
  rw[hx] at hout
  simp only at hout ⊢
  have cO:=ok55 false i
  by_cases hi:i=true
  ·rw[if_pos hi] at hout
   rw[hi] at cO
   have hout:out=l++[newE ver (ofV false true) c]:=by rw[hout,hnil];rfl
   subst hi
   have eF:(((((([]:List (List V)).drop 0).take 0++l.map encE).drop 0).take (0+(l.map encE).length)++([[V.int .i64 ver,V.int .i64 (ofV false true),V.int .i64 c.n,V.int .i64 c.a,V.int .i64 c.b,V.lst 2 (c.p.map encR),V.lst 2 (c.q.map encR)]].drop 0).take 1).drop 0).take ((0+(l.map encE).length)+(([[V.int .i64 ver,V.int .i64 (ofV false true),V.int .i64 c.n,V.int .i64 c.a,V.int .i64 c.b,V.lst 2 (c.p.map encR),V.lst 2 (c.q.map encR)]].drop 0).take 1).length)=out.map encE:=by rw[hout];exact fA l ver (ofV false true) c
   have pF:PureEs ((((((([]:List (List V)).drop 0).take 0++l.map encE).drop 0).take (0+(l.map encE).length)++([[V.int .i64 ver,V.int .i64 (ofV false true),V.int .i64 c.n,V.int .i64 c.a,V.int .i64 c.b,V.lst 2 (c.p.map encR),V.lst 2 (c.q.map encR)]].drop 0).take 1).drop 0).take ((0+(l.map encE).length)+(([[V.int .i64 ver,V.int .i64 (ofV false true),V.int .i64 c.n,V.int .i64 c.a,V.int .i64 c.b,V.lst 2 (c.p.map encR),V.lst 2 (c.q.map encR)]].drop 0).take 1).length)):=by rw[eF];exact pO
   have cPrF:PTriple Tryz.prog gv 56 [i64V m,.lst 7 ((((((([]:List (List V)).drop 0).take 0++l.map encE).drop 0).take (0+(l.map encE).length)++([[V.int .i64 ver,V.int .i64 (ofV false true),V.int .i64 c.n,V.int .i64 c.a,V.int .i64 c.b,V.lst 2 (c.p.map encR),V.lst 2 (c.q.map encR)]].drop 0).take 1).drop 0).take ((0+(l.map encE).length)+(([[V.int .i64 ver,V.int .i64 (ofV false true),V.int .i64 c.n,V.int .i64 c.a,V.int .i64 c.b,V.lst 2 (c.p.map encR),V.lst 2 (c.q.map encR)]].drop 0).take 1).length)),i64V floor] (chV (pruneS m out floor)):=by rw[eF];exact cPr
   have lR:0+((0+(l.map encE).length)+(([[V.int .i64 ver,V.int .i64 (ofV false true),V.int .i64 c.n,V.int .i64 c.a,V.int .i64 c.b,V.lst 2 (c.p.map encR),V.lst 2 (c.q.map encR)]].drop 0).take 1).length)≤((((([]:List (List V)).drop 0).take 0++l.map encE).drop 0).take (0+(l.map encE).length)++([[V.int .i64 ver,V.int .i64 (ofV false true),V.int .i64 c.n,V.int .i64 c.a,V.int .i64 c.b,V.lst 2 (c.p.map encR),V.lst 2 (c.q.map encR)]].drop 0).take 1).length:=by simp<;>omega
   have lF:((0+(l.map encE).length)+(([[V.int .i64 ver,V.int .i64 (ofV false true),V.int .i64 c.n,V.int .i64 c.a,V.int .i64 c.b,V.lst 2 (c.p.map encR),V.lst 2 (c.q.map encR)]].drop 0).take 1).length)=out.length:=by rw[hout];simp<;>omega
   have n1:=ra7 [] (l.map encE) 0 rfl (by simp;omega)
   have n2:=ra7 ((([]:List (List V)).drop 0).take 0++l.map encE) (([[V.int .i64 ver,V.int .i64 (ofV false true),V.int .i64 c.n,V.int .i64 c.a,V.int .i64 c.b,V.lst 2 (c.p.map encR),V.lst 2 (c.q.map encR)]].drop 0).take 1) (0+(l.map encE).length) (by simp) (by simp;omega)
   unfold afterP
   by_cases h1:keep+1<(out.length:Int)
   ·rw[if_pos h1]
    by_cases h2:keep+1<((pruneS m out floor).length:Int)
    ·rw[if_pos h2]
     refine PTriple.agg_nils ?_
     skip
     all_goals refine PTriple.of_body (C:=cx) Tryz.func130 rfl (by kernel_rfl) mixed fun E hE=>?_
     all_goals exact kb32
    ·rw[if_neg h2]
     skip
     all_goals refine PTriple.of_body (C:=cx) Tryz.func130 rfl (by kernel_rfl) mixed fun E hE=>?_
     all_goals exact kb32
   ·rw[if_neg h1,if_neg h1]
    skip
    all_goals refine PTriple.of_body (C:=cx) Tryz.func130 rfl (by kernel_rfl) mixed fun E hE=>?_
    repeat' (conv=>whnf);first
     | (refine bcase_of (fun hr=>?_) (fun hr=>?_)<;>(try simp only[sl2] at hr)<;>try(exfalso;first|omega|exact hr rfl|(simp at hr;done)|(simp at hr;omega)))
     | (apply And.intro;· first|exact nd4|exact⟨by omega,by rw[lL];omega⟩|exact pL|exact pp|exact pq|exact pcp|exact pcq|exact pF|exact pPr|exact lR|exact n1|exact n2|exact⟨by simp,one_E _⟩|exact one_E _)
     | (apply Exists.intro;apply And.intro;· first|exact rfl|exact cG|exact hYt rfl|exact hYf rfl|exact cO|exact cI|exact cT|exact cPrF)
     | rw[hw0]
     | rw[hwk]
     | fail
    all_goals (conv=>whnf)
    all_goals (show V.agg [V.lst 7 _,_]=V.agg [V.lst 7 _,_];rw[eF])
  ·have hi:i=false:=by simpa using hi
   subst hi
   have hout:out=l:=by rw[hout,hnil];rfl
   have eF:(((([]:List (List V)).drop 0).take 0++l.map encE).drop 0).take (0+(l.map encE).length)=out.map encE:=by rw[hout];exact fW l
   have pF:PureEs ((((([]:List (List V)).drop 0).take 0++l.map encE).drop 0).take (0+(l.map encE).length)):=by rw[eF];exact pO
   have cPrF:PTriple Tryz.prog gv 56 [i64V m,.lst 7 ((((([]:List (List V)).drop 0).take 0++l.map encE).drop 0).take (0+(l.map encE).length)),i64V floor] (chV (pruneS m out floor)):=by rw[eF];exact cPr
   have lR:0+(0+(l.map encE).length)≤((([]:List (List V)).drop 0).take 0++l.map encE).length:=by simp
   have lF:(0+(l.map encE).length)=out.length:=by rw[hout];simp
   have n1:=ra7 [] (l.map encE) 0 rfl (by simp;omega)
   unfold afterP
   by_cases h1:keep+1<(out.length:Int)
   ·rw[if_pos h1]
    by_cases h2:keep+1<((pruneS m out floor).length:Int)
    ·rw[if_pos h2]
     refine PTriple.agg_nils ?_
     skip
     all_goals refine PTriple.of_body (C:=cx) Tryz.func130 rfl (by kernel_rfl) mixed fun E hE=>?_
     all_goals exact kb33
    ·rw[if_neg h2]
     skip
     all_goals refine PTriple.of_body (C:=cx) Tryz.func130 rfl (by kernel_rfl) mixed fun E hE=>?_
     all_goals exact kb33
   ·rw[if_neg h1,if_neg h1]
    skip
    all_goals refine PTriple.of_body (C:=cx) Tryz.func130 rfl (by kernel_rfl) mixed fun E hE=>?_
    repeat' (conv=>whnf);first
     | (refine bcase_of (fun hr=>?_) (fun hr=>?_)<;>(try simp only[sl2] at hr)<;>try(exfalso;first|omega|exact hr rfl|(simp at hr;done)|(simp at hr;omega)))
     | (apply And.intro;· first|exact nd4|exact⟨by omega,by rw[lL];omega⟩|exact pL|exact pp|exact pq|exact pcp|exact pcq|exact pF|exact pPr|exact lR|exact n1|exact⟨by simp,one_E _⟩|exact one_E _)
     | (apply Exists.intro;apply And.intro;· first|exact rfl|exact cG|exact hYt rfl|exact hYf rfl|exact cO|exact cI|exact cT|exact cPrF)
     | rw[hw0]
     | rw[hwk]
     | fail
    all_goals (conv=>whnf)
    all_goals (show V.agg [V.lst 7 _,_]=V.agg [V.lst 7 _,_];rw[eF])
 | some e=>
  have hlt:=(List.getElem?_eq_some_iff.1 hx).1
  have hlt0:0<l.length:=by omega
  have gi:=getEc hx
  rw[show((l.length-1:Nat):Int)=(l.length:Int)-1 by omega] at gi
  have pp:=pure_R e.p
  have pq:=pure_R e.q
  rw[hx] at hout
  simp only at hout ⊢
  have cI:=ok46 e.o
  have cO:=ok55 (is e.o) i
  have cT:=ok56 e.o (ofV (is e.o) i)
  generalize is e.o=I at cI cO cT hout
  generalize ofV I i=op at cO cT hout
  obtain⟨both,ok,hb⟩:∃b o,thenV e.o op=(b,o):=⟨_,_,rfl⟩
  rw[hb] at cT hout
  simp only at hout
  by_cases hle:e.v≤ver
  case neg=>
   rw[decide_eq_false hle]
   refine PTriple.agg_nils ?_
   cases i
   all_goals refine PTriple.of_body (C:=cx) Tryz.func130 rfl (by kernel_rfl) mixed fun E hE=>?_
   repeat' (conv=>whnf);first
    | (refine bcase_of (fun hr=>?_) (fun hr=>?_)<;>(try simp only[sl2] at hr)<;>try(exfalso;first|omega|exact hr rfl|(simp at hr;done)|(simp at hr;omega)))
    | (apply And.intro;· first|exact nd4|exact⟨by omega,by rw[lL];omega⟩|exact pL|exact pp|exact pq|exact pcp|exact pcq)
    | (apply Exists.intro;apply And.intro;· first|exact rfl|exact cG|exact hYt rfl|exact hYf rfl|exact cO|exact cI|exact cT|exact gi)
    | rw[hw0]
    | fail
   all_goals (conv=>whnf)
   all_goals rfl
  case pos=>
  rw[decide_eq_true hle]
  by_cases hv:e.v=ver
  ·rw[if_pos hv] at hout
   by_cases hq:both=0∨(both=3∧l.length=1)
   ·rw[if_pos hq] at hout
    cases I
    ·skip
     have eF:(((([]:List (List V)).drop 0).take 0++l.map encE).drop (0+0)).take (((l.length:Int)-1).toNat-0)=out.map encE:=by rw[hout];exact fCut l
     have pF:PureEs ((((([]:List (List V)).drop 0).take 0++l.map encE).drop (0+0)).take (((l.length:Int)-1).toNat-0)):=by rw[eF];exact pO
     have cPrF:PTriple Tryz.prog gv 56 [i64V m,.lst 7 ((((([]:List (List V)).drop 0).take 0++l.map encE).drop (0+0)).take (((l.length:Int)-1).toNat-0)),i64V floor] (chV (pruneS m out floor)):=by rw[eF];exact cPr
     have lR:0+0+(((l.length:Int)-1).toNat-0)≤((([]:List (List V)).drop 0).take 0++l.map encE).length:=by simp<;>omega
     have lF:(((l.length:Int)-1).toNat-0)=out.length:=by rw[hout];simp<;>omega
     have n1:=ra7 [] (l.map encE) 0 rfl (by simp;omega)
     unfold afterP
     by_cases h1:keep+1<(out.length:Int)
     ·rw[if_pos h1]
      by_cases h2:keep+1<((pruneS m out floor).length:Int)
      ·rw[if_pos h2]
       refine PTriple.agg_nils ?_
       cases i
       all_goals refine PTriple.of_body (C:=cx) Tryz.func130 rfl (by kernel_rfl) mixed fun E hE=>?_
       all_goals exact kb34
      ·rw[if_neg h2]
       cases i
       all_goals refine PTriple.of_body (C:=cx) Tryz.func130 rfl (by kernel_rfl) mixed fun E hE=>?_
       all_goals exact kb34
     ·rw[if_neg h1,if_neg h1]
      cases i
      all_goals refine PTriple.of_body (C:=cx) Tryz.func130 rfl (by kernel_rfl) mixed fun E hE=>?_
      all_goals exact kb35
    ·skip
     have eF:(((([]:List (List V)).drop 0).take 0++l.map encE).drop (0+0)).take (((l.length:Int)-1).toNat-0)=out.map encE:=by rw[hout];exact fCut l
     have pF:PureEs ((((([]:List (List V)).drop 0).take 0++l.map encE).drop (0+0)).take (((l.length:Int)-1).toNat-0)):=by rw[eF];exact pO
     have cPrF:PTriple Tryz.prog gv 56 [i64V m,.lst 7 ((((([]:List (List V)).drop 0).take 0++l.map encE).drop (0+0)).take (((l.length:Int)-1).toNat-0)),i64V floor] (chV (pruneS m out floor)):=by rw[eF];exact cPr
     have lR:0+0+(((l.length:Int)-1).toNat-0)≤((([]:List (List V)).drop 0).take 0++l.map encE).length:=by simp<;>omega
     have lF:(((l.length:Int)-1).toNat-0)=out.length:=by rw[hout];simp<;>omega
     have n1:=ra7 [] (l.map encE) 0 rfl (by simp;omega)
     unfold afterP
     by_cases h1:keep+1<(out.length:Int)
     ·rw[if_pos h1]
      by_cases h2:keep+1<((pruneS m out floor).length:Int)
      ·rw[if_pos h2]
       refine PTriple.agg_nils ?_
       cases i
       all_goals refine PTriple.of_body (C:=cx) Tryz.func130 rfl (by kernel_rfl) mixed fun E hE=>?_
       all_goals exact kb34
      ·rw[if_neg h2]
       cases i
       all_goals refine PTriple.of_body (C:=cx) Tryz.func130 rfl (by kernel_rfl) mixed fun E hE=>?_
       all_goals exact kb34
     ·rw[if_neg h1,if_neg h1]
      cases i
      all_goals refine PTriple.of_body (C:=cx) Tryz.func130 rfl (by kernel_rfl) mixed fun E hE=>?_
      all_goals exact kb35
   ·rw[if_neg hq] at hout
    cases I
    ·skip
     have eF:(((((([]:List (List V)).drop 0).take 0++l.map encE).drop (0+0)).take (((l.length:Int)-1).toNat-0)++([[V.int .i64 ver,V.int .i64 both,V.int .i64 c.n,V.int .i64 c.a,V.int .i64 c.b,V.lst 2 (c.p.map encR),V.lst 2 (c.q.map encR)]].drop 0).take 1).drop 0).take ((((l.length:Int)-1).toNat-0)+(([[V.int .i64 ver,V.int .i64 both,V.int .i64 c.n,V.int .i64 c.a,V.int .i64 c.b,V.lst 2 (c.p.map encR),V.lst 2 (c.q.map encR)]].drop 0).take 1).length)=out.map encE:=by rw[hout];exact fD l ver both c hlt0
     have pF:PureEs ((((((([]:List (List V)).drop 0).take 0++l.map encE).drop (0+0)).take (((l.length:Int)-1).toNat-0)++([[V.int .i64 ver,V.int .i64 both,V.int .i64 c.n,V.int .i64 c.a,V.int .i64 c.b,V.lst 2 (c.p.map encR),V.lst 2 (c.q.map encR)]].drop 0).take 1).drop 0).take ((((l.length:Int)-1).toNat-0)+(([[V.int .i64 ver,V.int .i64 both,V.int .i64 c.n,V.int .i64 c.a,V.int .i64 c.b,V.lst 2 (c.p.map encR),V.lst 2 (c.q.map encR)]].drop 0).take 1).length)):=by rw[eF];exact pO
     have cPrF:PTriple Tryz.prog gv 56 [i64V m,.lst 7 ((((((([]:List (List V)).drop 0).take 0++l.map encE).drop (0+0)).take (((l.length:Int)-1).toNat-0)++([[V.int .i64 ver,V.int .i64 both,V.int .i64 c.n,V.int .i64 c.a,V.int .i64 c.b,V.lst 2 (c.p.map encR),V.lst 2 (c.q.map encR)]].drop 0).take 1).drop 0).take ((((l.length:Int)-1).toNat-0)+(([[V.int .i64 ver,V.int .i64 both,V.int .i64 c.n,V.int .i64 c.a,V.int .i64 c.b,V.lst 2 (c.p.map encR),V.lst 2 (c.q.map encR)]].drop 0).take 1).length)),i64V floor] (chV (pruneS m out floor)):=by rw[eF];exact cPr
     have lR:0+((((l.length:Int)-1).toNat-0)+(([[V.int .i64 ver,V.int .i64 both,V.int .i64 c.n,V.int .i64 c.a,V.int .i64 c.b,V.lst 2 (c.p.map encR),V.lst 2 (c.q.map encR)]].drop 0).take 1).length)≤((((([]:List (List V)).drop 0).take 0++l.map encE).drop (0+0)).take (((l.length:Int)-1).toNat-0)++([[V.int .i64 ver,V.int .i64 both,V.int .i64 c.n,V.int .i64 c.a,V.int .i64 c.b,V.lst 2 (c.p.map encR),V.lst 2 (c.q.map encR)]].drop 0).take 1).length:=by simp<;>omega
     have lF:((((l.length:Int)-1).toNat-0)+(([[V.int .i64 ver,V.int .i64 both,V.int .i64 c.n,V.int .i64 c.a,V.int .i64 c.b,V.lst 2 (c.p.map encR),V.lst 2 (c.q.map encR)]].drop 0).take 1).length)=out.length:=by rw[hout];simp<;>omega
     have n1:=ra7 [] (l.map encE) 0 rfl (by simp;omega)
     have n2:=ra8 ((([]:List (List V)).drop 0).take 0++l.map encE) (([[V.int .i64 ver,V.int .i64 both,V.int .i64 c.n,V.int .i64 c.a,V.int .i64 c.b,V.lst 2 (c.p.map encR),V.lst 2 (c.q.map encR)]].drop 0).take 1) (((l.length:Int)-1).toNat-0) (by simp<;>omega) (by simp<;>omega)
     unfold afterP
     by_cases h1:keep+1<(out.length:Int)
     ·rw[if_pos h1]
      by_cases h2:keep+1<((pruneS m out floor).length:Int)
      ·rw[if_pos h2]
       refine PTriple.agg_nils ?_
       cases i
       all_goals refine PTriple.of_body (C:=cx) Tryz.func130 rfl (by kernel_rfl) mixed fun E hE=>?_
       all_goals exact kb36
      ·rw[if_neg h2]
       cases i
       all_goals refine PTriple.of_body (C:=cx) Tryz.func130 rfl (by kernel_rfl) mixed fun E hE=>?_
       all_goals exact kb36
     ·rw[if_neg h1,if_neg h1]
      cases i
      all_goals refine PTriple.of_body (C:=cx) Tryz.func130 rfl (by kernel_rfl) mixed fun E hE=>?_
      all_goals exact kb37
    ·skip
     have eF:(((((([]:List (List V)).drop 0).take 0++l.map encE).drop (0+0)).take (((l.length:Int)-1).toNat-0)++([[V.int .i64 ver,V.int .i64 both,V.int .i64 c.n,V.int .i64 c.a,V.int .i64 c.b,V.lst 2 (c.p.map encR),V.lst 2 (c.q.map encR)]].drop 0).take 1).drop 0).take ((((l.length:Int)-1).toNat-0)+(([[V.int .i64 ver,V.int .i64 both,V.int .i64 c.n,V.int .i64 c.a,V.int .i64 c.b,V.lst 2 (c.p.map encR),V.lst 2 (c.q.map encR)]].drop 0).take 1).length)=out.map encE:=by rw[hout];exact fD l ver both c hlt0
     have pF:PureEs ((((((([]:List (List V)).drop 0).take 0++l.map encE).drop (0+0)).take (((l.length:Int)-1).toNat-0)++([[V.int .i64 ver,V.int .i64 both,V.int .i64 c.n,V.int .i64 c.a,V.int .i64 c.b,V.lst 2 (c.p.map encR),V.lst 2 (c.q.map encR)]].drop 0).take 1).drop 0).take ((((l.length:Int)-1).toNat-0)+(([[V.int .i64 ver,V.int .i64 both,V.int .i64 c.n,V.int .i64 c.a,V.int .i64 c.b,V.lst 2 (c.p.map encR),V.lst 2 (c.q.map encR)]].drop 0).take 1).length)):=by rw[eF];exact pO
     have cPrF:PTriple Tryz.prog gv 56 [i64V m,.lst 7 ((((((([]:List (List V)).drop 0).take 0++l.map encE).drop (0+0)).take (((l.length:Int)-1).toNat-0)++([[V.int .i64 ver,V.int .i64 both,V.int .i64 c.n,V.int .i64 c.a,V.int .i64 c.b,V.lst 2 (c.p.map encR),V.lst 2 (c.q.map encR)]].drop 0).take 1).drop 0).take ((((l.length:Int)-1).toNat-0)+(([[V.int .i64 ver,V.int .i64 both,V.int .i64 c.n,V.int .i64 c.a,V.int .i64 c.b,V.lst 2 (c.p.map encR),V.lst 2 (c.q.map encR)]].drop 0).take 1).length)),i64V floor] (chV (pruneS m out floor)):=by rw[eF];exact cPr
     have lR:0+((((l.length:Int)-1).toNat-0)+(([[V.int .i64 ver,V.int .i64 both,V.int .i64 c.n,V.int .i64 c.a,V.int .i64 c.b,V.lst 2 (c.p.map encR),V.lst 2 (c.q.map encR)]].drop 0).take 1).length)≤((((([]:List (List V)).drop 0).take 0++l.map encE).drop (0+0)).take (((l.length:Int)-1).toNat-0)++([[V.int .i64 ver,V.int .i64 both,V.int .i64 c.n,V.int .i64 c.a,V.int .i64 c.b,V.lst 2 (c.p.map encR),V.lst 2 (c.q.map encR)]].drop 0).take 1).length:=by simp<;>omega
     have lF:((((l.length:Int)-1).toNat-0)+(([[V.int .i64 ver,V.int .i64 both,V.int .i64 c.n,V.int .i64 c.a,V.int .i64 c.b,V.lst 2 (c.p.map encR),V.lst 2 (c.q.map encR)]].drop 0).take 1).length)=out.length:=by rw[hout];simp<;>omega
     have n1:=ra7 [] (l.map encE) 0 rfl (by simp;omega)
     have n2:=ra8 ((([]:List (List V)).drop 0).take 0++l.map encE) (([[V.int .i64 ver,V.int .i64 both,V.int .i64 c.n,V.int .i64 c.a,V.int .i64 c.b,V.lst 2 (c.p.map encR),V.lst 2 (c.q.map encR)]].drop 0).take 1) (((l.length:Int)-1).toNat-0) (by simp<;>omega) (by simp<;>omega)
     unfold afterP
     by_cases h1:keep+1<(out.length:Int)
     ·rw[if_pos h1]
      by_cases h2:keep+1<((pruneS m out floor).length:Int)
      ·rw[if_pos h2]
       refine PTriple.agg_nils ?_
       cases i
       all_goals refine PTriple.of_body (C:=cx) Tryz.func130 rfl (by kernel_rfl) mixed fun E hE=>?_
       all_goals exact kb36
      ·rw[if_neg h2]
       cases i
       all_goals refine PTriple.of_body (C:=cx) Tryz.func130 rfl (by kernel_rfl) mixed fun E hE=>?_
       all_goals exact kb36
     ·rw[if_neg h1,if_neg h1]
      cases i
      all_goals refine PTriple.of_body (C:=cx) Tryz.func130 rfl (by kernel_rfl) mixed fun E hE=>?_
      all_goals exact kb37
  ·rw[if_neg hv] at hout
   by_cases ho:op=0
   ·rw[if_pos ho] at hout
    cases I
    ·skip
     have eF:(((([]:List (List V)).drop 0).take 0++l.map encE).drop 0).take (0+(l.map encE).length)=out.map encE:=by rw[hout];exact fW l
     have pF:PureEs ((((([]:List (List V)).drop 0).take 0++l.map encE).drop 0).take (0+(l.map encE).length)):=by rw[eF];exact pO
     have cPrF:PTriple Tryz.prog gv 56 [i64V m,.lst 7 ((((([]:List (List V)).drop 0).take 0++l.map encE).drop 0).take (0+(l.map encE).length)),i64V floor] (chV (pruneS m out floor)):=by rw[eF];exact cPr
     have lR:0+(0+(l.map encE).length)≤((([]:List (List V)).drop 0).take 0++l.map encE).length:=by simp
     have lF:(0+(l.map encE).length)=out.length:=by rw[hout];simp
     have n1:=ra7 [] (l.map encE) 0 rfl (by simp;omega)
     unfold afterP
     by_cases h1:keep+1<(out.length:Int)
     ·rw[if_pos h1]
      by_cases h2:keep+1<((pruneS m out floor).length:Int)
      ·rw[if_pos h2]
       refine PTriple.agg_nils ?_
       cases i
       all_goals refine PTriple.of_body (C:=cx) Tryz.func130 rfl (by kernel_rfl) mixed fun E hE=>?_
       all_goals exact kb34
      ·rw[if_neg h2]
       cases i
       all_goals refine PTriple.of_body (C:=cx) Tryz.func130 rfl (by kernel_rfl) mixed fun E hE=>?_
       all_goals exact kb34
     ·rw[if_neg h1,if_neg h1]
      cases i
      all_goals refine PTriple.of_body (C:=cx) Tryz.func130 rfl (by kernel_rfl) mixed fun E hE=>?_
      all_goals exact kb35
    ·skip
     have eF:(((([]:List (List V)).drop 0).take 0++l.map encE).drop 0).take (0+(l.map encE).length)=out.map encE:=by rw[hout];exact fW l
     have pF:PureEs ((((([]:List (List V)).drop 0).take 0++l.map encE).drop 0).take (0+(l.map encE).length)):=by rw[eF];exact pO
     have cPrF:PTriple Tryz.prog gv 56 [i64V m,.lst 7 ((((([]:List (List V)).drop 0).take 0++l.map encE).drop 0).take (0+(l.map encE).length)),i64V floor] (chV (pruneS m out floor)):=by rw[eF];exact cPr
     have lR:0+(0+(l.map encE).length)≤((([]:List (List V)).drop 0).take 0++l.map encE).length:=by simp
     have lF:(0+(l.map encE).length)=out.length:=by rw[hout];simp
     have n1:=ra7 [] (l.map encE) 0 rfl (by simp;omega)
     unfold afterP
     by_cases h1:keep+1<(out.length:Int)
     ·rw[if_pos h1]
      by_cases h2:keep+1<((pruneS m out floor).length:Int)
      ·rw[if_pos h2]
       refine PTriple.agg_nils ?_
       cases i
       all_goals refine PTriple.of_body (C:=cx) Tryz.func130 rfl (by kernel_rfl) mixed fun E hE=>?_
       all_goals exact kb34
      ·rw[if_neg h2]
       cases i
       all_goals refine PTriple.of_body (C:=cx) Tryz.func130 rfl (by kernel_rfl) mixed fun E hE=>?_
       all_goals exact kb34
     ·rw[if_neg h1,if_neg h1]
      cases i
      all_goals refine PTriple.of_body (C:=cx) Tryz.func130 rfl (by kernel_rfl) mixed fun E hE=>?_
      all_goals exact kb35
   ·rw[if_neg ho] at hout
    cases I
    ·skip
     have eF:(((((([]:List (List V)).drop 0).take 0++l.map encE).drop 0).take (0+(l.map encE).length)++([[V.int .i64 ver,V.int .i64 op,V.int .i64 c.n,V.int .i64 c.a,V.int .i64 c.b,V.lst 2 (c.p.map encR),V.lst 2 (c.q.map encR)]].drop 0).take 1).drop 0).take ((0+(l.map encE).length)+(([[V.int .i64 ver,V.int .i64 op,V.int .i64 c.n,V.int .i64 c.a,V.int .i64 c.b,V.lst 2 (c.p.map encR),V.lst 2 (c.q.map encR)]].drop 0).take 1).length)=out.map encE:=by rw[hout];exact fA l ver op c
     have pF:PureEs ((((((([]:List (List V)).drop 0).take 0++l.map encE).drop 0).take (0+(l.map encE).length)++([[V.int .i64 ver,V.int .i64 op,V.int .i64 c.n,V.int .i64 c.a,V.int .i64 c.b,V.lst 2 (c.p.map encR),V.lst 2 (c.q.map encR)]].drop 0).take 1).drop 0).take ((0+(l.map encE).length)+(([[V.int .i64 ver,V.int .i64 op,V.int .i64 c.n,V.int .i64 c.a,V.int .i64 c.b,V.lst 2 (c.p.map encR),V.lst 2 (c.q.map encR)]].drop 0).take 1).length)):=by rw[eF];exact pO
     have cPrF:PTriple Tryz.prog gv 56 [i64V m,.lst 7 ((((((([]:List (List V)).drop 0).take 0++l.map encE).drop 0).take (0+(l.map encE).length)++([[V.int .i64 ver,V.int .i64 op,V.int .i64 c.n,V.int .i64 c.a,V.int .i64 c.b,V.lst 2 (c.p.map encR),V.lst 2 (c.q.map encR)]].drop 0).take 1).drop 0).take ((0+(l.map encE).length)+(([[V.int .i64 ver,V.int .i64 op,V.int .i64 c.n,V.int .i64 c.a,V.int .i64 c.b,V.lst 2 (c.p.map encR),V.lst 2 (c.q.map encR)]].drop 0).take 1).length)),i64V floor] (chV (pruneS m out floor)):=by rw[eF];exact cPr
     have lR:0+((0+(l.map encE).length)+(([[V.int .i64 ver,V.int .i64 op,V.int .i64 c.n,V.int .i64 c.a,V.int .i64 c.b,V.lst 2 (c.p.map encR),V.lst 2 (c.q.map encR)]].drop 0).take 1).length)≤((((([]:List (List V)).drop 0).take 0++l.map encE).drop 0).take (0+(l.map encE).length)++([[V.int .i64 ver,V.int .i64 op,V.int .i64 c.n,V.int .i64 c.a,V.int .i64 c.b,V.lst 2 (c.p.map encR),V.lst 2 (c.q.map encR)]].drop 0).take 1).length:=by simp<;>omega
     have lF:((0+(l.map encE).length)+(([[V.int .i64 ver,V.int .i64 op,V.int .i64 c.n,V.int .i64 c.a,V.int .i64 c.b,V.lst 2 (c.p.map encR),V.lst 2 (c.q.map encR)]].drop 0).take 1).length)=out.length:=by rw[hout];simp<;>omega
     have n1:=ra7 [] (l.map encE) 0 rfl (by simp;omega)
     have n2:=ra7 ((([]:List (List V)).drop 0).take 0++l.map encE) (([[V.int .i64 ver,V.int .i64 op,V.int .i64 c.n,V.int .i64 c.a,V.int .i64 c.b,V.lst 2 (c.p.map encR),V.lst 2 (c.q.map encR)]].drop 0).take 1) (0+(l.map encE).length) (by simp) (by simp;omega)
     unfold afterP
     by_cases h1:keep+1<(out.length:Int)
     ·rw[if_pos h1]
      by_cases h2:keep+1<((pruneS m out floor).length:Int)
      ·rw[if_pos h2]
       refine PTriple.agg_nils ?_
       cases i
       all_goals refine PTriple.of_body (C:=cx) Tryz.func130 rfl (by kernel_rfl) mixed fun E hE=>?_
       all_goals exact kb36
      ·rw[if_neg h2]
       cases i
       all_goals refine PTriple.of_body (C:=cx) Tryz.func130 rfl (by kernel_rfl) mixed fun E hE=>?_
       all_goals exact kb36
     ·rw[if_neg h1,if_neg h1]
      cases i
      all_goals refine PTriple.of_body (C:=cx) Tryz.func130 rfl (by kernel_rfl) mixed fun E hE=>?_
      all_goals exact kb37
    ·skip
     have eF:(((((([]:List (List V)).drop 0).take 0++l.map encE).drop 0).take (0+(l.map encE).length)++([[V.int .i64 ver,V.int .i64 op,V.int .i64 c.n,V.int .i64 c.a,V.int .i64 c.b,V.lst 2 (c.p.map encR),V.lst 2 (c.q.map encR)]].drop 0).take 1).drop 0).take ((0+(l.map encE).length)+(([[V.int .i64 ver,V.int .i64 op,V.int .i64 c.n,V.int .i64 c.a,V.int .i64 c.b,V.lst 2 (c.p.map encR),V.lst 2 (c.q.map encR)]].drop 0).take 1).length)=out.map encE:=by rw[hout];exact fA l ver op c
     have pF:PureEs ((((((([]:List (List V)).drop 0).take 0++l.map encE).drop 0).take (0+(l.map encE).length)++([[V.int .i64 ver,V.int .i64 op,V.int .i64 c.n,V.int .i64 c.a,V.int .i64 c.b,V.lst 2 (c.p.map encR),V.lst 2 (c.q.map encR)]].drop 0).take 1).drop 0).take ((0+(l.map encE).length)+(([[V.int .i64 ver,V.int .i64 op,V.int .i64 c.n,V.int .i64 c.a,V.int .i64 c.b,V.lst 2 (c.p.map encR),V.lst 2 (c.q.map encR)]].drop 0).take 1).length)):=by rw[eF];exact pO
     have cPrF:PTriple Tryz.prog gv 56 [i64V m,.lst 7 ((((((([]:List (List V)).drop 0).take 0++l.map encE).drop 0).take (0+(l.map encE).length)++([[V.int .i64 ver,V.int .i64 op,V.int .i64 c.n,V.int .i64 c.a,V.int .i64 c.b,V.lst 2 (c.p.map encR),V.lst 2 (c.q.map encR)]].drop 0).take 1).drop 0).take ((0+(l.map encE).length)+(([[V.int .i64 ver,V.int .i64 op,V.int .i64 c.n,V.int .i64 c.a,V.int .i64 c.b,V.lst 2 (c.p.map encR),V.lst 2 (c.q.map encR)]].drop 0).take 1).length)),i64V floor] (chV (pruneS m out floor)):=by rw[eF];exact cPr
     have lR:0+((0+(l.map encE).length)+(([[V.int .i64 ver,V.int .i64 op,V.int .i64 c.n,V.int .i64 c.a,V.int .i64 c.b,V.lst 2 (c.p.map encR),V.lst 2 (c.q.map encR)]].drop 0).take 1).length)≤((((([]:List (List V)).drop 0).take 0++l.map encE).drop 0).take (0+(l.map encE).length)++([[V.int .i64 ver,V.int .i64 op,V.int .i64 c.n,V.int .i64 c.a,V.int .i64 c.b,V.lst 2 (c.p.map encR),V.lst 2 (c.q.map encR)]].drop 0).take 1).length:=by simp<;>omega
     have lF:((0+(l.map encE).length)+(([[V.int .i64 ver,V.int .i64 op,V.int .i64 c.n,V.int .i64 c.a,V.int .i64 c.b,V.lst 2 (c.p.map encR),V.lst 2 (c.q.map encR)]].drop 0).take 1).length)=out.length:=by rw[hout];simp<;>omega
     have n1:=ra7 [] (l.map encE) 0 rfl (by simp;omega)
     have n2:=ra7 ((([]:List (List V)).drop 0).take 0++l.map encE) (([[V.int .i64 ver,V.int .i64 op,V.int .i64 c.n,V.int .i64 c.a,V.int .i64 c.b,V.lst 2 (c.p.map encR),V.lst 2 (c.q.map encR)]].drop 0).take 1) (0+(l.map encE).length) (by simp) (by simp;omega)
     unfold afterP
     by_cases h1:keep+1<(out.length:Int)
     ·rw[if_pos h1]
      by_cases h2:keep+1<((pruneS m out floor).length:Int)
      ·rw[if_pos h2]
       refine PTriple.agg_nils ?_
       cases i
       all_goals refine PTriple.of_body (C:=cx) Tryz.func130 rfl (by kernel_rfl) mixed fun E hE=>?_
       all_goals exact kb36
      ·rw[if_neg h2]
       cases i
       all_goals refine PTriple.of_body (C:=cx) Tryz.func130 rfl (by kernel_rfl) mixed fun E hE=>?_
       all_goals exact kb36
     ·rw[if_neg h1,if_neg h1]
      cases i
      all_goals refine PTriple.of_body (C:=cx) Tryz.func130 rfl (by kernel_rfl) mixed fun E hE=>?_
      all_goals exact kb37
end Go.Proofs.YtbppemcdphgknaaGreatDoor
