/- A part of the proofs over the seat YtbppemcdphgknaaGreatDoor. -/
import Derived.Test.YtbppemcdphgknaaGreatDoorT1
set_option linter.unusedVariables false
set_option linter.unusedSimpArgs false
set_option maxRecDepth 100000
set_option maxHeartbeats 40000000
namespace Go.Proofs.YtbppemcdphgknaaGreatDoor
open Go Go.Vm
set_option maxRecDepth 100000
set_option maxHeartbeats 40000000
set_option linter.unusedSimpArgs false
set_option linter.unusedVariables false
noncomputable def cxR:Cx DV:=cxOf [(90,5),(131,1)]
def encT (e:Int×List En):List V:=co e.1++[chV e.2]
abbrev rtV (M K C:Int) (Tb:Tab):List V:=[i64V M,i64V K,i64V C,.lst 5 (Tb.map encT)]
theorem pure_Tb (Tb:Tab):PureEs (Tb.map encT):=fun e he v hv=>by
 obtain⟨x,_,rfl⟩:=List.mem_map.1 he
 simp[encT,co] at hv
 rcases hv with rfl|rfl|rfl|rfl|rfl
 all_goals first|exact .int _ _|exact .lst (pure_E _)
theorem lenTb (Tb:Tab):(Tb.map encT).length=Tb.length:=by simp
theorem getTb {Tb:Tab} {i:Nat} {e:Int×List En} (h:Tb[i]?=some e):lget (Tb.map encT) ((i:Int)).toNat=some (encT e):=by
 rw[lget_eq,Int.toNat_natCast,List.getElem?_map,h];rfl
variable {M K C:Int} {Tb:Tab}
def TIn (Tb:Tab):Prop:=Sr Tb∧Tb.length≤2000∧∀e∈Tb,KIn e.1∧ChIn e.2∧e.2≠[]∧e.2.length≤9
theorem TB.tin {m keep cap:Int} {i:Nat} {x:DV} (h:TB m keep cap Tb i x):TIn Tb:=⟨h.srt,h.size,fun e he=>⟨h.kin e he,(h.mem e he).1,(h.mem e he).2,h.len e he⟩⟩
def stRC (M K C:Int) (Tb:Tab) (k:Int) (i:Nat):St DV:=mkStX 33 0 [(0,.ref (0,0) 0),(3,.ref (4,1) 0),(5,i64V i)] [(3,.box (co k))] [some (.box (rtV M K C Tb))]
theorem rChain (ht:TIn Tb) {k:Int} (hk:KIn k):ATriple Tryz.prog gv R0 90 [.ref (0,0) 0,coV k] [.box (rtV M K C Tb)] (chV (chT Tb k)) [.box (rtV M K C Tb)] none:=by
 obtain⟨hk1,hk2⟩:=hk
 have pT:=pure_Tb Tb
 have lT:=lenTb Tb
 obtain⟨hs,hl,hin⟩:=ht
 generalize hR:chT Tb k=R
 cases hg:get Tb k with
 | none=>
  obtain rfl:R=[]:=by rw[←hR,chT,hg];rfl
  refine ATriple.to_lst ?_
  refine ATriple.of_bodyW (C:=cxR) Tryz.func90 rfl (by kernel_rfl) (mixedOf _) rfl (by simp[okA,okC,okN,co,pure_E,pure_nil,pure_Tb]) (by simp[okOb,okC,okN,pure_E,pure_nil,pure_Tb]) (by simp[okG,okA,okC,okN,co,pure_E,pure_nil,pure_Tb]) (by simp[okOb,okC,okN,pure_E,pure_nil,pure_Tb]) (fun o ho=>by cases ho) 0 [] fun E hE=>?_
  repeat' (conv=>whnf);first
   | (refine bcase_of (fun hr=>?_) (fun hr=>?_)<;>(try simp only[bs] at hr)<;>try(exfalso;first|omega|(simp at hr;done)))
   | (apply And.intro;· first|exact pT|exact nd13)
   | (apply Exists.intro;apply And.intro;· first|exact rfl)
   | fail
  conv=>whnf
  refine VLoop.norm [0,3,5] [3] ?_
  repeat' (conv=>whnf);first
   | (refine bcase_of (fun hr=>?_) (fun hr=>?_)<;>(try simp only[bs] at hr)<;>try(exfalso;first|omega|(simp at hr;done)))
   | (apply And.intro;· first|exact pT|exact nd13)
   | (apply Exists.intro;apply And.intro;· first|exact rfl)
   | fail
  conv=>whnf
  refine VLoop.inv (fun i:Nat=>stRC M K C Tb k i) (fun i=>i≤Tb.length) (fun i=>Tb.length-i) 0 (Nat.zero_le _) rfl ?_
  intro i hi ih
  have hw:IntKind.i64.wrap ((i:Int)+1)=((i+1:Nat):Int):=wrap64 (by omega) (by omega)
  refine VLoop.unroll hE (mixedOf _) ?_
  cases hx:Tb[i]? with
  | none=>
   have hx':=List.getElem?_eq_none_iff.1 hx
   repeat' (conv=>whnf);first
    | (refine bcase_of (fun hr=>?_) (fun hr=>?_)<;>(try simp only[bs] at hr)<;>try(exfalso;first|omega|(simp at hr;done)))
    | (apply And.intro;· first|exact pT|exact⟨by omega,by omega⟩|exact nd13)
    | (apply Exists.intro;apply And.intro;· first|exact rfl)
    | fail
   all_goals (conv=>whnf)
   all_goals (refine⟨[],?_⟩;(conv=>whnf);exact⟨rfl,rfl⟩)
  | some e=>
   have hi':=(List.getElem?_eq_some_iff.1 hx).1
   have gi:=getTb hx
   have hne:=get_none hg e (List.mem_of_getElem? hx)
   obtain⟨hke1,hke2⟩:=(hin e (List.mem_of_getElem? hx)).1
   repeat' (conv=>whnf);first
    | (refine bcase_of (fun hr=>?_) (fun hr=>?_)<;>(try simp only[bs] at hr)<;>try(exfalso;first|omega|(simp at hr;done)))
    | (apply And.intro;· first|exact pT|exact⟨by omega,by omega⟩|exact nd13)
    | (apply Exists.intro;apply And.intro;· first|exact rfl|exact gi)
    | rw[hw]
    | fail
   all_goals (conv=>whnf)
   all_goals refine VLoop.norm [0,3,5] [3] ?_
   all_goals exact kb43
 | some R0l=>
  obtain rfl:R=R0l:=by rw[←hR,chT,hg];rfl
  have pR:=pure_E R
  obtain⟨j,hj⟩:=List.mem_iff_getElem?.1 (get_mem hg)
  have hjl:=(List.getElem?_eq_some_iff.1 hj).1
  refine ATriple.of_bodyW (C:=cxR) Tryz.func90 rfl (by kernel_rfl) (mixedOf _) rfl (by simp[okA,okC,okN,co,pure_E,pure_nil,pR,pure_Tb]) (by simp[okOb,okC,okN,pure_E,pure_nil,pR,pure_Tb]) (by simp[okG,okA,okC,okN,co,pure_E,pure_nil,pR,pure_Tb]) (by simp[okOb,okC,okN,pure_E,pure_nil,pR,pure_Tb]) (fun o ho=>by cases ho) 0 [] fun E hE=>?_
  repeat' (conv=>whnf);first
   | (refine bcase_of (fun hr=>?_) (fun hr=>?_)<;>(try simp only[bs] at hr)<;>try(exfalso;first|omega|(simp at hr;done)))
   | (apply And.intro;· first|exact pT|exact nd13)
   | (apply Exists.intro;apply And.intro;· first|exact rfl)
   | fail
  conv=>whnf
  refine VLoop.norm [0,3,5] [3] ?_
  repeat' (conv=>whnf);first
   | (refine bcase_of (fun hr=>?_) (fun hr=>?_)<;>(try simp only[bs] at hr)<;>try(exfalso;first|omega|(simp at hr;done)))
   | (apply And.intro;· first|exact pT|exact nd13)
   | (apply Exists.intro;apply And.intro;· first|exact rfl)
   | fail
  conv=>whnf
  refine VLoop.inv (fun i:Nat=>stRC M K C Tb k i) (fun i=>i≤j) (fun i=>j-i) 0 (Nat.zero_le _) rfl ?_
  intro i hi ih
  have hw:IntKind.i64.wrap ((i:Int)+1)=((i+1:Nat):Int):=wrap64 (by omega) (by omega)
  refine VLoop.unroll hE (mixedOf _) ?_
  obtain⟨e,hx⟩:∃e,Tb[i]?=some e:=⟨_,List.getElem?_eq_getElem (by omega)⟩
  have gi:=getTb hx
  obtain⟨hke1,hke2⟩:=(hin e (List.mem_of_getElem? hx)).1
  by_cases hij:i=j
  ·subst hij
   rw[hj] at hx
   cases hx
   repeat' (conv=>whnf);first
    | (refine bcase_of (fun hr=>?_) (fun hr=>?_)<;>(try simp only[bs] at hr)<;>try(exfalso;first|omega|(simp at hr;done)))
    | (apply And.intro;· first|exact pT|exact pR|exact⟨by omega,by omega⟩|exact nd13)
    | (apply Exists.intro;apply And.intro;· first|exact rfl|exact gi)
    | rw[hw]
    | fail
   all_goals (conv=>whnf)
   all_goals (refine⟨[],?_⟩;(conv=>whnf);exact⟨rfl,rfl⟩)
  ·have hne:e.1≠k:=fun hc=>by
    have h1:=mem_get hs (List.mem_of_getElem? hx:(e.1,e.2)∈Tb)
    have h2:=(List.pairwise_iff_getElem.1 hs) i j (by omega) hjl (by omega)
    rw[List.getElem?_eq_getElem (by omega)] at hx
    rw[List.getElem?_eq_getElem hjl] at hj
    have e1:=Option.some.inj hx
    have e2:=Option.some.inj hj
    rw[e1,e2] at h2
    simp only at h2
    omega
   repeat' (conv=>whnf);first
    | (refine bcase_of (fun hr=>?_) (fun hr=>?_)<;>(try simp only[bs] at hr)<;>try(exfalso;first|omega|(simp at hr;done)))
    | (apply And.intro;· first|exact pT|exact⟨by omega,by omega⟩|exact nd13)
    | (apply Exists.intro;apply And.intro;· first|exact rfl|exact gi)
    | rw[hw]
    | fail
   all_goals (conv=>whnf)
   all_goals refine VLoop.norm [0,3,5] [3] ?_
   all_goals exact kb43
end Go.Proofs.YtbppemcdphgknaaGreatDoor
namespace Go.Proofs.YtbppemcdphgknaaGreatDoor
open Go Go.Vm
variable {M K C:Int} {Tb:Tab}
def encPr (e:Int×En):List V:=co e.1++[i64V e.2.n,i64V e.2.a,i64V e.2.b,bagV e.2.p,bagV e.2.q]
abbrev Prs:=List (Int×En)
abbrev prsV (o:Prs):V:=.lst 9 (o.map encPr)
theorem pure_Pr (o:Prs):PureEs (o.map encPr):=fun e he v hv=>by
 obtain⟨x,_,rfl⟩:=List.mem_map.1 he
 simp[encPr,co] at hv
 rcases hv with rfl|rfl|rfl|rfl|rfl|rfl|rfl|rfl|rfl
 all_goals first|exact .int _ _|exact .lst (pure_R _)
theorem lenPr (o:Prs):(o.map encPr).length=o.length:=by simp
theorem takePr (o:Prs):((o.map encPr).drop 0).take o.length=o.map encPr:=by rw[List.drop_zero,List.take_of_length_le (by simp)]
theorem addPr (o:Prs) (e:Int×En):((o.map encPr).drop 0).take o.length++([encPr e].drop 0).take 1=(o++[e]).map encPr:=by rw[takePr];simp
theorem raPr (o:Prs) (h:o.length≤100000):0+o.length≤(o.map encPr).length∧(false=true→0+o.length=(o.map encPr).length)∧(o.length+1)*80≤roomBound∧o.length+1≤roomBound:=⟨by simp,(by intro h;cases h),by unfold roomBound;omega,by unfold roomBound;omega⟩
def scanT (m:Int) (Tb:Tab) (ver:Int):Prs:=Tb.filterMap fun e=>(atS m e.2 ver).map fun c=>(e.1,c)
theorem scanT_take {m ver:Int} {i:Nat} {e:Int×List En} (h:Tb[i]?=some e):scanT m (Tb.take (i+1)) ver=scanT m (Tb.take i) ver++(match atS m e.2 ver with
 | none=>[]
 | some c=>[(e.1,c)]):=by
 rw[take_get h]
 unfold scanT
 rw[List.filterMap_append]
 congr 1
 cases h:atS m e.2 ver<;>simp[List.filterMap,h]
theorem scanT_len (m:Int) (Tb:Tab) (ver:Int):(scanT m Tb ver).length≤Tb.length:=List.length_filterMap_le _ _
end Go.Proofs.YtbppemcdphgknaaGreatDoor
namespace Go.Proofs.YtbppemcdphgknaaGreatDoor
open Go Go.Vm
variable {M K C:Int} {Tb:Tab}
theorem one_Tb (o:Tab):allOne (o.map encT) 5:=fun e he=>by
 obtain⟨x,_,rfl⟩:=List.mem_map.1 he
 exact⟨rfl,rfl⟩
theorem takeTb (o:Tab):((o.map encT).drop 0).take o.length=o.map encT:=by rw[List.drop_zero,List.take_of_length_le (by simp)]
theorem addTb (o:Tab) (e:Int×List En):((o.map encT).drop 0).take o.length++([encT e].drop 0).take 1=(o++[e]).map encT:=by rw[takeTb];simp
theorem add2Tb (o:Tab) (f e:Int×List En):((((o.map encT).drop 0).take o.length++([encT f].drop 0).take 1).drop 0).take (o.length+1)++([encT e].drop 0).take 1=(o++[f,e]).map encT:=by
 rw[addTb,List.drop_zero,List.take_of_length_le (by simp)];simp
theorem raTb (o:Tab) (h:o.length≤100000):0+o.length≤(o.map encT).length∧(false=true→0+o.length=(o.map encT).length)∧(o.length+1)*32≤roomBound∧o.length+1≤roomBound:=⟨by simp,(by intro h;cases h),by unfold roomBound;omega,by unfold roomBound;omega⟩
def layL (k:Int) (l:List En):Bool→Tab→Tab
 | d,[]=>if d then[] else[(k,l)]
 | d,e::r=>(if !d&&decide (k≤e.1) then[(k,l)] else[])++(if e.1=k then[] else[e])++layL k l (d||decide (k≤e.1)) r
theorem layL_true (k:Int) (l:List En):∀Tb:Tab,layL k l true Tb=del Tb k
 | []=>rfl
 | e::r=>by
  simp only[layL,Bool.not_true,Bool.false_and,Bool.false_eq_true,if_false,List.nil_append,Bool.true_or,layL_true k l r,del]
  by_cases h:e.1=k
  ·rw[if_pos h,List.filter_cons_of_neg (by simp[h])];rfl
  ·rw[if_neg h,List.filter_cons_of_pos (by simp[h])];rfl
theorem layL_false (k:Int) (l:List En):∀{Tb:Tab},Sr Tb→layL k l false Tb=ins Tb k l
 | [],_=>rfl
 | e::r,hs=>by
  have h':=List.pairwise_cons.1 hs
  simp only[layL,ins]
  by_cases h1:e.1<k
  ·rw[if_neg (by simp;omega),if_neg (by omega),if_pos h1,show(false||decide (k≤e.1))=false by simp;omega,layL_false k l h'.2];rfl
  ·rw[if_pos (by simp;omega),if_neg h1,show(false||decide (k≤e.1))=true by simp;omega,layL_true,del_none]
   ·by_cases h2:e.1=k
    ·rw[if_pos h2,if_pos h2];rfl
    ·rw[if_neg h2,if_neg h2];rfl
   ·cases hg:get r k with
    | none=>rfl
    | some u=>have:=h'.1 _ (get_mem hg);simp only at this;omega
def layT (Tb:Tab) (k:Int) (l:List En):Tab:=if l.isEmpty then del Tb k else ins Tb k l
theorem layL_eq {Tb:Tab} (hs:Sr Tb) (k:Int) (l:List En):layL k l l.isEmpty Tb=layT Tb k l:=by
 unfold layT
 cases l.isEmpty with
 | true=>rw[if_pos rfl,layL_true]
 | false=>rw[if_neg (by simp),layL_false k l hs]
def stRL (M K C:Int) (Tb:Tab) (k:Int) (l:List En) (o:Tab) (d:Bool) (i:Nat):St DV:=mkStX 75 0 [(0,.ref (0,0) 0),(2,chV l),(4,.ref (5,1) 0),(6,.rsl (63,1) 5 0 o.length),(7,.bool d),(8,i64V i)] [(4,.box (co k)),(62,.row 5 (o.map encT) false)] [some (.box (rtV M K C Tb))]
theorem rLay (ht:TIn Tb) {k:Int} (hk:KIn k) (l:List En):ATriple Tryz.prog gv R0 131 [.ref (0,0) 0,coV k,chV l] [.box (rtV M K C Tb)] (.tup []) [.box (rtV M K C (layT Tb k l))] none:=by
 have pT:=pure_Tb Tb
 have lT:=lenTb Tb
 have pL:=pure_E l
 have lL:(l.map encE).length=l.length:=by simp
 obtain⟨hs,hl,hin⟩:=ht
 have cK:=Key2_ok k hk
 obtain⟨hk1,hk2⟩:=hk
 have hT:l.length=0→layL k l true Tb=layT Tb k l:=fun h0=>by rw[←layL_eq hs,show l=[] from List.eq_nil_of_length_eq_zero h0];rfl
 have hF:l.length≠0→layL k l false Tb=layT Tb k l:=fun h0=>by rw[←layL_eq hs,show l.isEmpty=false by cases l<;>simp_all]
 refine ATriple.of_bodyW (C:=cxR) Tryz.func131 rfl (by kernel_rfl) (mixedOf _) rfl (by simp[okA,okC,okN,co,pure_E,pure_nil,pure_Tb]) (by simp[okOb,okC,okN,pure_E,pure_nil,pure_Tb]) (by simp[okG,okA,okC,okN,co,pure_E,pure_nil,pure_Tb]) (by simp[okOb,okC,okN,pure_E,pure_nil,pure_Tb]) (fun o ho=>by cases ho) 0 [] fun E hE=>?_
 repeat' (conv=>whnf);first
  | (refine bcase_of (fun hr=>?_) (fun hr=>?_)<;>(try simp only[bs] at hr)<;>try(exfalso;first|omega|(simp at hr;done)))
  | (apply And.intro;· first|exact pT|exact pL|exact nd13)
  | (apply Exists.intro;apply And.intro;· first|exact rfl)
  | fail
 all_goals (conv=>whnf)
 all_goals refine VLoop.adopt 6 62 5 ?_
 all_goals (conv=>whnf)
 all_goals refine VLoop.norm [0,2,4,6,7,8] [4,62] ?_
 all_goals
  repeat' (conv=>whnf);first
   | (refine bcase_of (fun hr=>?_) (fun hr=>?_)<;>(try simp only[bs] at hr)<;>try(exfalso;first|omega|(simp at hr;done)))
   | (apply And.intro;· first|exact pT|exact pL|exact(fun e he=>nomatch he)|exact nd13)
   | (apply Exists.intro;apply And.intro;· first|exact rfl)
   | fail
 all_goals (conv=>whnf)
 all_goals first|refine VLoop.inv (fun z:Nat×Tab×Bool=>stRL M K C Tb k l z.2.1 z.2.2 z.1) (fun z=>z.1≤Tb.length∧z.2.1.length≤2*z.1∧z.2.1++layL k l z.2.2 (Tb.drop z.1)=layT Tb k l) (fun z=>Tb.length-z.1) (0,[],true) ⟨Nat.zero_le _,by simp,by simpa using hT (by omega)⟩ rfl ?_|refine VLoop.inv (fun z:Nat×Tab×Bool=>stRL M K C Tb k l z.2.1 z.2.2 z.1) (fun z=>z.1≤Tb.length∧z.2.1.length≤2*z.1∧z.2.1++layL k l z.2.2 (Tb.drop z.1)=layT Tb k l) (fun z=>Tb.length-z.1) (0,[],false) ⟨Nat.zero_le _,by simp,by simpa using hF (by omega)⟩ rfl ?_
 all_goals
  rintro⟨i,o,d⟩ ⟨hi,hol,ho⟩ ih
  simp only at hi hol ho ih
  show VLoop _ _ _ (stRL M K C Tb k l o d i) _
  have pO:=pure_Tb o
  have lO:=lenTb o
  have rO:=raTb o (by omega)
  have z9:0+o.length≤(o.map encT).length:=by simp
  have z8:PureEs (((o.map encT).drop 0).take o.length):=by rw[takeTb];exact pO
  have q1:∀e:Int×List En,PureEs (((o.map encT).drop 0).take o.length++([encT e].drop 0).take 1):=fun e=>by rw[addTb];exact pure_Tb _
  have z7:∀e:Int×List En,0+(o.length+1)≤(((o.map encT).drop 0).take o.length++([encT e].drop 0).take 1).length:=fun e=>by rw[addTb];simp
  have z6:∀e:Int×List En,PureEs ((((((o.map encT).drop 0).take o.length++([encT e].drop 0).take 1)).drop 0).take (o.length+1)):=fun e=>by rw[addTb,List.drop_zero];exact fun x hx=>pure_Tb _ x (List.mem_of_mem_take hx)
  have r2:∀e:Int×List En,0+(o.length+1)≤(((o.map encT).drop 0).take o.length++([encT e].drop 0).take 1).length∧(false=true→0+(o.length+1)=(((o.map encT).drop 0).take o.length++([encT e].drop 0).take 1).length)∧(o.length+1+1)*32≤roomBound∧o.length+1+1≤roomBound:=fun e=>⟨z7 e,(by intro h;cases h),by unfold roomBound;omega,by unfold roomBound;omega⟩
  have q2:∀f e:Int×List En,PureEs (((((o.map encT).drop 0).take o.length++([encT f].drop 0).take 1).drop 0).take (o.length+1)++([encT e].drop 0).take 1):=fun f e=>by rw[add2Tb];exact pure_Tb _
  have hw:IntKind.i64.wrap ((i:Int)+1)=((i+1:Nat):Int):=wrap64 (by omega) (by omega)
  refine VLoop.unroll hE (mixedOf _) ?_
  cases hx:Tb[i]? with
  | none=>
   have hx':=List.getElem?_eq_none_iff.1 hx
   rw[List.drop_of_length_le (by omega)] at ho
   cases d with
   | true=>
    have ho':o=layT Tb k l:=by simpa[layL] using ho
    repeat' (conv=>whnf);first
     | (refine bcase_of (fun hr=>?_) (fun hr=>?_)<;>(try simp only[bs] at hr)<;>try(exfalso;first|omega|(simp at hr;done)))
     | (apply And.intro;· first|exact pT|exact pL|exact pO|exact pe|exact rO|exact⟨by omega,by omega⟩|exact z9|exact z8|exact z7 (k,l)|exact z6 (k,l)|exact q1 (k,l)|exact q2 (k,l) e|exact r2 (k,l)|exact z7 e|exact q1 e|exact⟨rfl,z9⟩|exact⟨nb rfl,one_Tb [(k,l)]⟩|exact⟨nb rfl,one_Tb [e]⟩|exact nd13)
     | (apply Exists.intro;apply And.intro;· first|exact rfl|exact cK)
     | rw[hw]
     | fail
    all_goals (conv=>whnf)
    all_goals (refine⟨[.snap (0,0) 3],?_⟩;(conv=>whnf);refine⟨⟨rfl,z9⟩,?_⟩;(conv=>whnf);exact⟨rfl,congrArg (fun es=>[some (Ob.box [i64V M,i64V K,i64V C,V.lst 5 es])]) (show((o.map encT).drop 0).take o.length=_ by rw[takeTb,ho'])⟩)
   | false=>
    have ho':o++[(k,l)]=layT Tb k l:=by simpa[layL] using ho
    repeat' (conv=>whnf);first
     | (refine bcase_of (fun hr=>?_) (fun hr=>?_)<;>(try simp only[bs] at hr)<;>try(exfalso;first|omega|(simp at hr;done)))
     | (apply And.intro;· first|exact pT|exact pL|exact pO|exact pe|exact rO|exact⟨by omega,by omega⟩|exact z9|exact z8|exact z7 (k,l)|exact z6 (k,l)|exact q1 (k,l)|exact q2 (k,l) e|exact r2 (k,l)|exact z7 e|exact q1 e|exact⟨rfl,z9⟩|exact⟨nb rfl,one_Tb [(k,l)]⟩|exact⟨nb rfl,one_Tb [e]⟩|exact nd13)
     | (apply Exists.intro;apply And.intro;· first|exact rfl|exact cK)
     | rw[hw]
     | fail
    all_goals (conv=>whnf)
    all_goals (refine⟨[.snap (0,0) 3],?_⟩;(conv=>whnf);refine⟨⟨rfl,z7 (k,l)⟩,?_⟩;(conv=>whnf);exact⟨rfl,congrArg (fun es=>[some (Ob.box [i64V M,i64V K,i64V C,V.lst 5 es])]) (show((((o.map encT).drop 0).take o.length++([encT (k,l)].drop 0).take 1).drop 0).take (o.length+1)=_ by rw[addTb,ho',List.drop_zero,List.take_of_length_le (by rw[←ho'];simp)])⟩)
  | some e=>
   have hi':=(List.getElem?_eq_some_iff.1 hx).1
   have gi:=getTb hx
   have he:=hin e (List.mem_of_getElem? hx)
   have cE:=Key2_ok e.1 he.1
   obtain⟨he1,he2⟩:=he.1
   have pe:=pure_E e.2
   rw[drop_get hx] at ho
   simp only[layL] at ho
   cases d with
   | true=>
    by_cases hek:e.1=k
    ·rw[if_pos hek] at ho
     repeat' (conv=>whnf);first
      | (refine bcase_of (fun hr=>?_) (fun hr=>?_)<;>(try simp only[bs] at hr)<;>try(exfalso;first|omega|(simp at hr;done)))
      | (apply And.intro;· first|exact pT|exact pL|exact pO|exact pe|exact rO|exact⟨by omega,by omega⟩|exact z9|exact z8|exact z7 (k,l)|exact z6 (k,l)|exact q1 (k,l)|exact q2 (k,l) e|exact r2 (k,l)|exact z7 e|exact q1 e|exact⟨rfl,z9⟩|exact⟨nb rfl,one_Tb [(k,l)]⟩|exact⟨nb rfl,one_Tb [e]⟩|exact nd13)
      | (apply Exists.intro;apply And.intro;· first|exact rfl|exact gi|exact cK|exact cE)
      | rw[hw]
      | fail
     all_goals (conv=>whnf)
     all_goals refine VLoop.norm [0,2,4,6,7,8] [4,62] ?_
     repeat' (conv=>whnf);first
      | (refine bcase_of (fun hr=>?_) (fun hr=>?_)<;>(try simp only[bs] at hr)<;>try(exfalso;first|omega|(simp at hr;done)))
      | (apply And.intro;· first|exact pT|exact pL|exact pO|exact pe|exact rO|exact⟨by omega,by omega⟩|exact z9|exact z8|exact z7 (k,l)|exact z6 (k,l)|exact q1 (k,l)|exact q2 (k,l) e|exact r2 (k,l)|exact z7 e|exact q1 e|exact⟨rfl,z9⟩|exact⟨nb rfl,one_Tb [(k,l)]⟩|exact⟨nb rfl,one_Tb [e]⟩|exact nd13)
      | (apply Exists.intro;apply And.intro;· first|exact rfl|exact gi|exact cK|exact cE)
      | rw[hw]
      | fail
     all_goals (conv=>whnf)
     all_goals exact ih (i+1,o,true) ⟨by simp only;omega,by simp only;omega,by simpa using ho⟩ (by simp only;omega)
    ·rw[if_neg hek] at ho
     repeat' (conv=>whnf);first
      | (refine bcase_of (fun hr=>?_) (fun hr=>?_)<;>(try simp only[bs] at hr)<;>try(exfalso;first|omega|(simp at hr;done)))
      | (apply And.intro;· first|exact pT|exact pL|exact pO|exact pe|exact rO|exact⟨by omega,by omega⟩|exact z9|exact z8|exact z7 (k,l)|exact z6 (k,l)|exact q1 (k,l)|exact q2 (k,l) e|exact r2 (k,l)|exact z7 e|exact q1 e|exact⟨rfl,z9⟩|exact⟨nb rfl,one_Tb [(k,l)]⟩|exact⟨nb rfl,one_Tb [e]⟩|exact nd13)
      | (apply Exists.intro;apply And.intro;· first|exact rfl|exact gi|exact cK|exact cE)
      | rw[hw]
      | fail
     all_goals (conv=>whnf)
     all_goals refine VLoop.move 6 62 ?_
     all_goals (conv=>whnf)
     all_goals refine VLoop.norm [0,2,4,6,7,8] [4,62] ?_
     repeat' (conv=>whnf);first
      | (refine bcase_of (fun hr=>?_) (fun hr=>?_)<;>(try simp only[bs] at hr)<;>try(exfalso;first|omega|(simp at hr;done)))
      | (apply And.intro;· first|exact pT|exact pL|exact pO|exact pe|exact rO|exact⟨by omega,by omega⟩|exact z9|exact z8|exact z7 (k,l)|exact z6 (k,l)|exact q1 (k,l)|exact q2 (k,l) e|exact r2 (k,l)|exact z7 e|exact q1 e|exact⟨rfl,z9⟩|exact⟨nb rfl,one_Tb [(k,l)]⟩|exact⟨nb rfl,one_Tb [e]⟩|exact nd13)
      | (apply Exists.intro;apply And.intro;· first|exact rfl|exact gi|exact cK|exact cE)
      | rw[hw]
      | fail
     all_goals (conv=>whnf)
     all_goals (show VLoop _ _ _ (mkStX 75 0 [(0,.ref (0,0) 0),(2,chV l),(4,.ref (5,1) 0),(6,.rsl (63,1) 5 0 (o.length+1)),(7,.bool true),(8,i64V ((i+1:Nat):Int))] [(4,.box (co k)),(62,.row 5 (((o.map encT).drop 0).take o.length++([encT e].drop 0).take 1) false)] [some (.box (rtV M K C Tb))]) _)
     all_goals rw[addTb]
     all_goals (have:=ih (i+1,o++[e],true) ⟨by simp only;omega,by simp only[List.length_append,List.length_cons,List.length_nil];omega,by simpa using ho⟩ (by simp only;omega);simp only[stRL,List.length_append,List.length_cons,List.length_nil] at this;exact this)
   | false=>
    by_cases hlt:e.1<k
    ·rw[if_neg (by simp;omega),if_neg (by omega),show(false||decide (k≤e.1))=false by simp;omega] at ho
     repeat' (conv=>whnf);first
      | (refine bcase_of (fun hr=>?_) (fun hr=>?_)<;>(try simp only[bs] at hr)<;>try(exfalso;first|omega|(simp at hr;done)))
      | (apply And.intro;· first|exact pT|exact pL|exact pO|exact pe|exact rO|exact⟨by omega,by omega⟩|exact z9|exact z8|exact z7 (k,l)|exact z6 (k,l)|exact q1 (k,l)|exact q2 (k,l) e|exact r2 (k,l)|exact z7 e|exact q1 e|exact⟨rfl,z9⟩|exact⟨nb rfl,one_Tb [(k,l)]⟩|exact⟨nb rfl,one_Tb [e]⟩|exact nd13)
      | (apply Exists.intro;apply And.intro;· first|exact rfl|exact gi|exact cK|exact cE)
      | rw[hw]
      | fail
     all_goals (conv=>whnf)
     all_goals refine VLoop.move 6 62 ?_
     all_goals (conv=>whnf)
     all_goals refine VLoop.norm [0,2,4,6,7,8] [4,62] ?_
     repeat' (conv=>whnf);first
      | (refine bcase_of (fun hr=>?_) (fun hr=>?_)<;>(try simp only[bs] at hr)<;>try(exfalso;first|omega|(simp at hr;done)))
      | (apply And.intro;· first|exact pT|exact pL|exact pO|exact pe|exact rO|exact⟨by omega,by omega⟩|exact z9|exact z8|exact z7 (k,l)|exact z6 (k,l)|exact q1 (k,l)|exact q2 (k,l) e|exact r2 (k,l)|exact z7 e|exact q1 e|exact⟨rfl,z9⟩|exact⟨nb rfl,one_Tb [(k,l)]⟩|exact⟨nb rfl,one_Tb [e]⟩|exact nd13)
      | (apply Exists.intro;apply And.intro;· first|exact rfl|exact gi|exact cK|exact cE)
      | rw[hw]
      | fail
     all_goals (conv=>whnf)
     all_goals (show VLoop _ _ _ (mkStX 75 0 [(0,.ref (0,0) 0),(2,chV l),(4,.ref (5,1) 0),(6,.rsl (63,1) 5 0 (o.length+1)),(7,.bool false),(8,i64V ((i+1:Nat):Int))] [(4,.box (co k)),(62,.row 5 (((o.map encT).drop 0).take o.length++([encT e].drop 0).take 1) false)] [some (.box (rtV M K C Tb))]) _)
     all_goals rw[addTb]
     all_goals (have:=ih (i+1,o++[e],false) ⟨by simp only;omega,by simp only[List.length_append,List.length_cons,List.length_nil];omega,by simpa using ho⟩ (by simp only;omega);simp only[stRL,List.length_append,List.length_cons,List.length_nil] at this;exact this)
    by_cases hek:e.1=k
    ·rw[if_pos (by simp;omega),if_pos hek,show(false||decide (k≤e.1))=true by simp;omega] at ho
     repeat' (conv=>whnf);first
      | (refine bcase_of (fun hr=>?_) (fun hr=>?_)<;>(try simp only[bs] at hr)<;>try(exfalso;first|omega|(simp at hr;done)))
      | (apply And.intro;· first|exact pT|exact pL|exact pO|exact pe|exact rO|exact⟨by omega,by omega⟩|exact z9|exact z8|exact z7 (k,l)|exact z6 (k,l)|exact q1 (k,l)|exact q2 (k,l) e|exact r2 (k,l)|exact z7 e|exact q1 e|exact⟨rfl,z9⟩|exact⟨nb rfl,one_Tb [(k,l)]⟩|exact⟨nb rfl,one_Tb [e]⟩|exact nd13)
      | (apply Exists.intro;apply And.intro;· first|exact rfl|exact gi|exact cK|exact cE)
      | rw[hw]
      | fail
     all_goals (conv=>whnf)
     all_goals refine VLoop.move 6 62 ?_
     all_goals (conv=>whnf)
     all_goals refine VLoop.norm [0,2,4,6,7,8] [4,62] ?_
     repeat' (conv=>whnf);first
      | (refine bcase_of (fun hr=>?_) (fun hr=>?_)<;>(try simp only[bs] at hr)<;>try(exfalso;first|omega|(simp at hr;done)))
      | (apply And.intro;· first|exact pT|exact pL|exact pO|exact pe|exact rO|exact⟨by omega,by omega⟩|exact z9|exact z8|exact z7 (k,l)|exact z6 (k,l)|exact q1 (k,l)|exact q2 (k,l) e|exact r2 (k,l)|exact z7 e|exact q1 e|exact⟨rfl,z9⟩|exact⟨nb rfl,one_Tb [(k,l)]⟩|exact⟨nb rfl,one_Tb [e]⟩|exact nd13)
      | (apply Exists.intro;apply And.intro;· first|exact rfl|exact gi|exact cK|exact cE)
      | rw[hw]
      | fail
     all_goals (conv=>whnf)
     all_goals (show VLoop _ _ _ (mkStX 75 0 [(0,.ref (0,0) 0),(2,chV l),(4,.ref (5,1) 0),(6,.rsl (63,1) 5 0 (o.length+1)),(7,.bool true),(8,i64V ((i+1:Nat):Int))] [(4,.box (co k)),(62,.row 5 (((o.map encT).drop 0).take o.length++([encT (k,l)].drop 0).take 1) false)] [some (.box (rtV M K C Tb))]) _)
     all_goals rw[addTb]
     all_goals (have:=ih (i+1,o++[(k,l)],true) ⟨by simp only;omega,by simp only[List.length_append,List.length_cons,List.length_nil];omega,by simpa using ho⟩ (by simp only;omega);simp only[stRL,List.length_append,List.length_cons,List.length_nil] at this;exact this)
    ·rw[if_pos (by simp;omega),if_neg hek,show(false||decide (k≤e.1))=true by simp;omega] at ho
     repeat' (conv=>whnf);first
      | (refine bcase_of (fun hr=>?_) (fun hr=>?_)<;>(try simp only[bs] at hr)<;>try(exfalso;first|omega|(simp at hr;done)))
      | (apply And.intro;· first|exact pT|exact pL|exact pO|exact pe|exact rO|exact⟨by omega,by omega⟩|exact z9|exact z8|exact z7 (k,l)|exact z6 (k,l)|exact q1 (k,l)|exact q2 (k,l) e|exact r2 (k,l)|exact z7 e|exact q1 e|exact⟨rfl,z9⟩|exact⟨nb rfl,one_Tb [(k,l)]⟩|exact⟨nb rfl,one_Tb [e]⟩|exact nd13)
      | (apply Exists.intro;apply And.intro;· first|exact rfl|exact gi|exact cK|exact cE)
      | rw[hw]
      | fail
     all_goals (conv=>whnf)
     all_goals refine VLoop.move 6 62 ?_
     all_goals (conv=>whnf)
     all_goals refine VLoop.norm [0,2,4,6,7,8] [4,62] ?_
     repeat' (conv=>whnf);first
      | (refine bcase_of (fun hr=>?_) (fun hr=>?_)<;>(try simp only[bs] at hr)<;>try(exfalso;first|omega|(simp at hr;done)))
      | (apply And.intro;· first|exact pT|exact pL|exact pO|exact pe|exact rO|exact⟨by omega,by omega⟩|exact z9|exact z8|exact z7 (k,l)|exact z6 (k,l)|exact q1 (k,l)|exact q2 (k,l) e|exact r2 (k,l)|exact z7 e|exact q1 e|exact⟨rfl,z9⟩|exact⟨nb rfl,one_Tb [(k,l)]⟩|exact⟨nb rfl,one_Tb [e]⟩|exact nd13)
      | (apply Exists.intro;apply And.intro;· first|exact rfl|exact gi|exact cK|exact cE)
      | rw[hw]
      | fail
     all_goals (conv=>whnf)
     all_goals (show VLoop _ _ _ (mkStX 75 0 [(0,.ref (0,0) 0),(2,chV l),(4,.ref (5,1) 0),(6,.rsl (63,1) 5 0 (o.length+1+1)),(7,.bool true),(8,i64V ((i+1:Nat):Int))] [(4,.box (co k)),(62,.row 5 (((((o.map encT).drop 0).take o.length++([encT (k,l)].drop 0).take 1).drop 0).take (o.length+1)++([encT e].drop 0).take 1) false)] [some (.box (rtV M K C Tb))]) _)
     all_goals rw[add2Tb]
     all_goals (have:=ih (i+1,o++[(k,l),e],true) ⟨by simp only;omega,by simp only[List.length_append,List.length_cons,List.length_nil];omega,by simpa using ho⟩ (by simp only;omega);simp only[stRL,List.length_append,List.length_cons,List.length_nil] at this;exact this)
end Go.Proofs.YtbppemcdphgknaaGreatDoor
