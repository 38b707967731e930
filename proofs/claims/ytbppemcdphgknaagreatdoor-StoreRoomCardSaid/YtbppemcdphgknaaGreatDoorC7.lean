/- A part of the proofs over the seat YtbppemcdphgknaaGreatDoor. -/
import Derived.Test.YtbppemcdphgknaaGreatDoorC6
import Derived.Test.YtbppemcdphgknaaGreatDoorV29
set_option linter.unusedVariables false
set_option linter.unusedSimpArgs false
set_option maxRecDepth 100000
set_option maxHeartbeats 40000000
namespace Go.Proofs.YtbppemcdphgknaaGreatDoor
open Go Go.Vm
set_option maxRecDepth 100000
set_option maxHeartbeats 40000000
set_option linter.unusedSimpArgs false
set_option linter.unusedVariables false
theorem copy_row (l:List En) (hl:l.length≤1000) (hb:∀e∈l,EnOk e) (d:Name):XTriple Tryz.prog gv cx.R 117 [chV l] [] [] d (.rsl d 7 0 l.length) [] (some (.row 7 (l.map encE) false)):=by
 have hlen:(l.map encE).length=l.length:=by simp
 have bl:(0:Int)≤(l.map encE).length∧((l.map encE).length:Int)≤(l.map encE).length∧((l.map encE).length:Int)*88≤roomBound∧((l.map encE).length:Int)≤roomBound:=⟨by omega,by omega,by unfold roomBound;omega,by unfold roomBound;omega⟩
 refine XTriple.of_rowBody (C:=cx) Tryz.func117 rfl (by kernel_rfl) mixed (fun v hv=>by rw[List.mem_singleton.1 hv];exact .lst (pure_E l)) (pure_E l) (fun E hE=>?_) d
 repeat' (conv=>whnf);first
  | (refine bcase_of (fun hr=>?_) (fun hr=>?_)<;>try(exfalso;simp at hr;done))
  | (apply And.intro;· first|exact nd1|exact bl|exact pure_R _|exact⟨by simp,one_E _⟩)
  | (apply Exists.intro;apply And.intro;· first|exact rfl)
  | fail
 refine VLoop.norm [0,3,12,13,14] [8] ?_
 repeat' (conv=>whnf);first
  | (refine bcase_of (fun hr=>?_) (fun hr=>?_)<;>try(exfalso;simp at hr;done))
  | (apply And.intro;· first|exact nd2|exact pure_E _|(rw[copied0];exact pure_E _))
  | (apply Exists.intro;apply And.intro;· first|exact rfl)
  | fail
 rw[copied0]
 refine VLoop.inv (fun i:Int=>stCopy l i) (fun i=>0≤i∧i≤l.length) (fun i=>l.length-i.toNat) 0 ⟨Int.le_refl _,by omega⟩ (by simp only[stCopy,hlen,Int.toNat_natCast];rfl) ?_
 intro i hi ih
 refine VLoop.unroll hE mixed ?_
 conv=>whnf
 refine bcase_of (fun hr=>?_) (fun hr=>?_)
 case refine_2=>
  repeat' (conv=>whnf);first
   | (refine bcase_of (fun hr=>?_) (fun hr=>?_)<;>try(exfalso;simp at hr;done))
   | (apply And.intro;· first|exact nd2|(show 0+l.length≤(l.map encE).length;rw[Nat.zero_add,hlen];exact Nat.le_refl _)|(rw[take_all];exact pure_E _)|exact⟨by decide,by decide⟩|exact⟨Nat.le_of_ble_eq_true rfl,allOne_of rfl⟩|exact bl|exact pure_R _|exact⟨by simp,one_E _⟩)
   | (apply Exists.intro;apply And.intro;· first|exact rfl)
   | fail
  all_goals (conv=>whnf)
  exact⟨(9,1),by decide,rfl,rfl⟩
 case refine_1=>
  have hin:i<l.length:=by simpa using hr
  have hw:IntKind.i64.wrap (i+1)=i+1:=wrap64 (by omega) (by omega)
  obtain⟨e,he⟩:∃z,l[i.toNat]?=some z:=⟨_,List.getElem?_eq_getElem (by omega)⟩
  have hem:=hb e (List.mem_of_getElem? he)
  have hps:lset (l.map encE) (0+i.toNat) (lput (encE e) (0+2) (V.agg [i64V e.n,i64V e.a,i64V e.b,bagV e.p,bagV e.q]).cells)=l.map encE:=by rw[Nat.zero_add];exact put_same l _ e he
  repeat' (conv=>whnf);first
   | (refine bcase_of (fun hr=>?_) (fun hr=>?_)<;>try(exfalso;simp at hr;done))
   | (apply And.intro;· first|exact nd1|exact bl|exact pure_R _|exact⟨by simp,one_E _⟩|exact⟨hi.1,hin⟩)
   | (apply Exists.intro;apply And.intro;· first|exact rfl|exact cells_ok e.n e.a e.b e.p e.q hem.1 hem.2|(show lget _ _=some (encE e);rw[lget_eq,Nat.zero_add,List.getElem?_map,he];rfl))
   | fail
  all_goals (conv=>whnf)
  refine VLoop.norm [0,3,12,13,14] [8] ?_
  repeat' (conv=>whnf);first
   | (refine bcase_of (fun hr=>?_) (fun hr=>?_)<;>try(exfalso;simp at hr;done))
   | (apply And.intro;· first|exact nd2|exact pure_E _|(rw[hps];exact pure_E _))
   | (apply Exists.intro;apply And.intro;· first|exact rfl)
   | fail
  rw[hps]
  exact ih (IntKind.i64.wrap (i+1)) ⟨by omega,by omega⟩ (by omega)
def newE (ver op:Int) (c:En):En:=⟨ver,op,c.n,c.a,c.b,c.p,c.q⟩
def putS (l:List En) (ver:Int) (c:En) (i:Bool):List En:=match l[l.length-1]? with
 | none=>if i then[newE ver 1 c] else[]
 | some e=>if e.v=ver then
   (if(thenV e.o (ofV (is e.o) i)).1=0∨((thenV e.o (ofV (is e.o) i)).1=3∧l.length=1) then l.take (l.length-1) else l.take (l.length-1)++[newE ver (thenV e.o (ofV (is e.o) i)).1 c])
  else(if ofV (is e.o) i=0 then l else l++[newE ver (ofV (is e.o) i) c])
abbrev cellE (c:En):V:=cellV c.n c.a c.b c.p c.q
theorem set_last {l:List En} {x:En} (h:0<l.length):l.set (l.length-1) x=l.take (l.length-1)++[x]:=by
 obtain⟨a,y,rfl⟩:∃a y,l=a++[y]:=⟨l.dropLast,l.getLast (by rintro rfl;simp at h),(List.dropLast_concat_getLast _).symm⟩
 simp
theorem enc_snoc (l:List En) (x:En):((l.map encE).drop 0).take l.length++([encE x].drop 0).take 1=(l++[x]).map encE:=by
 rw[take_all];simp
theorem snoc_lst (l:List En) (x:En):((((l.map encE).drop 0).take l.length++([encE x].drop 0).take 1).drop 0).take (l.length+(([encE x].drop 0).take 1).length)=(l++[x]).map encE:=by
 rw[enc_snoc]
 have:=take_all (l++[x])
 rwa [List.length_append] at this
theorem snoc_len (l:List En) (x:En):0+(l.length+(([encE x].drop 0).take 1).length)≤(((l.map encE).drop 0).take l.length++([encE x].drop 0).take 1).length:=by
 rw[enc_snoc];simp
theorem ra7 (es xs:List (List V)) (k:Nat) (hk:es.length=k) (h:k+xs.length≤20000000):0+k≤es.length∧(false=true→0+k=es.length)∧(k+xs.length)*88≤roomBound∧k+xs.length≤roomBound:=
 ⟨by omega,(by intro h;cases h),by unfold roomBound;omega,by unfold roomBound;omega⟩
theorem put_row (l:List En) (ver:Int) (c:En) (i:Bool) (hl:l.length≤900) (nm:Name):CTriple Tryz.prog gv cx.R 123 [.rsl nm 7 0 l.length,i64V ver,cellE c,.bool i] nm (.row 7 (l.map encE) false) (chV (putS l ver c i)):=by
 have pL:=pure_E l
 have lL:=lenE l
 have pcp:=pure_R c.p
 have pcq:=pure_R c.q
 have hw0:IntKind.i64.wrap ((l.length:Int)-1)=((l.length:Nat):Int)-1:=wrap64 (by omega) (by omega)
 have hrest:∀v∈[i64V ver,cellE c,V.bool i],PureV v:=fun v hv=>by
  simp only[List.mem_cons,List.not_mem_nil,or_false] at hv
  rcases hv with rfl|rfl|rfl
  ·exact .int _ _
  ·exact .agg fun v hv=>by
    simp only[List.mem_cons,List.not_mem_nil,or_false] at hv
    rcases hv with rfl|rfl|rfl|rfl|rfl
    ·exact .int _ _
    ·exact .int _ _
    ·exact .int _ _
    ·exact .lst pcp
    ·exact .lst pcq
  ·exact .bool _
 unfold putS
 have q1:∀op,PureEs (((((l.map encE).drop 0).take l.length++([encE (newE ver op c)].drop 0).take 1).drop 0).take (l.length+(([encE (newE ver op c)].drop 0).take 1).length)):=fun op=>by rw[snoc_lst];exact pure_E _
 have q2:∀op,V.lst 7 (((((l.map encE).drop 0).take l.length++([encE (newE ver op c)].drop 0).take 1).drop 0).take (l.length+(([encE (newE ver op c)].drop 0).take 1).length))=chV (l++[newE ver op c]):=fun op=>by rw[snoc_lst]
 have q3:∀op,0+(l.length+(([encE (newE ver op c)].drop 0).take 1).length)≤(((l.map encE).drop 0).take l.length++([encE (newE ver op c)].drop 0).take 1).length:=fun op=>snoc_len l _
 have q4:V.lst 7 (((l.map encE).drop 0).take l.length)=chV l:=by rw[take_all]
 have q5:PureEs (((l.map encE).drop 0).take l.length):=by rw[take_all];exact pL
 have q6:0+l.length≤(l.map encE).length:=by omega
 cases hx:l[l.length-1]? with
 | none=>
  have hn:l.length=0:=by
   rcases Nat.eq_zero_or_pos l.length with h0|h0
   ·exact h0
   ·rw[List.getElem?_eq_getElem (by omega)] at hx;cases hx
  have hnil:l=[]:=by simpa using hn
  have cO:=ok78 false i
  cases i with
  | true=>
   refine CTriple.of_body (C:=cx) Tryz.func123 rfl (by kernel_rfl) mixed (pure_E l) hrest (fun E hE=>?_) nm
   repeat' (conv=>whnf);first
    | (refine bcase_of (fun hr=>?_) (fun hr=>?_)<;>(try simp only[sl2] at hr)<;>try(exfalso;first|omega|exact hr rfl|(simp at hr;done)|(simp at hr;omega)))
    | (apply And.intro;· first|exact nd3|exact⟨by omega,by rw[lL];omega⟩|exact pL|exact pp|exact pq|exact pcp|exact pcq|exact ra7 _ _ _ lL (by simp;omega)|exact q1 _|exact q3 _|exact q5|exact q6|exact r2|exact r3|exact t3 _|exact t4 _|exact pure_E _)
    | (apply Exists.intro;apply And.intro;· first|exact rfl|exact cO)
    | rw[hw0]
    | fail
   all_goals (conv=>whnf)
   all_goals exact(q2 1).trans (by simp[hnil])
  | false=>
   refine CTriple.of_body (C:=cx) Tryz.func123 rfl (by kernel_rfl) mixed (pure_E l) hrest (fun E hE=>?_) nm
   repeat' (conv=>whnf);first
    | (refine bcase_of (fun hr=>?_) (fun hr=>?_)<;>(try simp only[sl2] at hr)<;>try(exfalso;first|omega|exact hr rfl|(simp at hr;done)|(simp at hr;omega)))
    | (apply And.intro;· first|exact nd3|exact⟨by omega,by rw[lL];omega⟩|exact pL|exact pp|exact pq|exact pcp|exact pcq|exact ra7 _ _ _ lL (by simp;omega)|exact q1 _|exact q3 _|exact q5|exact q6|exact r2|exact r3|exact t3 _|exact t4 _|exact pure_E _)
    | (apply Exists.intro;apply And.intro;· first|exact rfl|exact cO)
    | rw[hw0]
    | fail
   all_goals (conv=>whnf)
   all_goals exact q4.trans (by simp[hnil])
 | some e=>
  have hlt:=(List.getElem?_eq_some_iff.1 hx).1
  have gi:=getEc hx
  rw[show((l.length-1:Nat):Int)=(l.length:Int)-1 by omega] at gi
  have hN:((l.length:Int)-1).toNat=l.length-1:=by omega
  have gi2:lget (l.map encE) (0+((l.length:Int)-1).toNat)=some [i64V e.v,i64V e.o,i64V e.n,i64V e.a,i64V e.b,bagV e.p,bagV e.q]:=by rw[Nat.zero_add];exact gi
  have pp:=pure_R e.p
  have pq:=pure_R e.q
  have cI:=ok43 e.o
  have cO:=ok78 (is e.o) i
  have cT:=ok79 e.o (ofV (is e.o) i)
  have r1:((l.map encE).drop 0).take (((l.length:Int)-1).toNat-0)=(l.take (l.length-1)).map encE:=by rw[hN];exact take_enc l _
  have r2:PureEs (((l.map encE).drop 0).take (((l.length:Int)-1).toNat-0)):=by rw[r1];exact pure_E _
  have r3:0+(((l.length:Int)-1).toNat-0)≤(l.map encE).length:=by omega
  have t1:∀op,lset (l.map encE) (0+((l.length:Int)-1).toNat) (encE (newE ver op c))=(l.set (l.length-1) (newE ver op c)).map encE:=fun op=>by rw[hN,Nat.zero_add,lset_eq,List.map_set]
  have t2:∀op,((lset (l.map encE) (0+((l.length:Int)-1).toNat) (encE (newE ver op c))).drop 0).take l.length=(l.take (l.length-1)++[newE ver op c]).map encE:=fun op=>by
   rw[t1,set_last (by omega)]
   have:=take_all (l.take (l.length-1)++[newE ver op c])
   rwa [show(l.take (l.length-1)++[newE ver op c]).length=l.length by simp;omega] at this
  have t3:∀op,PureEs (((lset (l.map encE) (0+((l.length:Int)-1).toNat) (encE (newE ver op c))).drop 0).take l.length):=fun op=>by rw[t2];exact pure_E _
  have t4:∀op,0+l.length≤(lset (l.map encE) (0+((l.length:Int)-1).toNat) (encE (newE ver op c))).length:=fun op=>by rw[t1];simp
  simp only
  generalize is e.o=I at cI cO cT ⊢
  generalize ofV I i=op at cO cT ⊢
  obtain⟨both,ok,hb⟩:∃b o,thenV e.o op=(b,o):=⟨_,_,rfl⟩
  rw[hb] at cT ⊢
  simp only
  by_cases hv:e.v=ver
  ·rw[if_pos hv]
   by_cases hq:both=0∨(both=3∧l.length=1)
   ·rw[if_pos hq]
    cases I<;>cases ok<;>cases i
    all_goals refine CTriple.of_body (C:=cx) Tryz.func123 rfl (by kernel_rfl) mixed (pure_E l) hrest (fun E hE=>?_) nm
    repeat' (conv=>whnf);first
     | (refine bcase_of (fun hr=>?_) (fun hr=>?_)<;>(try simp only[sl2] at hr)<;>try(exfalso;first|omega|exact hr rfl|(simp at hr;done)|(simp at hr;omega)))
     | (apply And.intro;· first|exact nd3|exact⟨by omega,by rw[lL];omega⟩|exact pL|exact pp|exact pq|exact pcp|exact pcq|exact ra7 _ _ _ lL (by simp;omega)|exact q1 _|exact q3 _|exact q5|exact q6|exact r2|exact r3|exact t3 _|exact t4 _|exact pure_E _)
     | (apply Exists.intro;apply And.intro;· first|exact rfl|exact cI|exact cO|exact cT|exact gi2)
     | rw[hw0]
     | fail
    all_goals (conv=>whnf)
    all_goals first|exact congrArg _ r1|(exfalso;omega)
   ·rw[if_neg hq]
    cases I<;>cases ok<;>cases i
    all_goals refine CTriple.of_body (C:=cx) Tryz.func123 rfl (by kernel_rfl) mixed (pure_E l) hrest (fun E hE=>?_) nm
    repeat' (conv=>whnf);first
     | (refine bcase_of (fun hr=>?_) (fun hr=>?_)<;>(try simp only[sl2] at hr)<;>try(exfalso;first|omega|exact hr rfl|(simp at hr;done)|(simp at hr;omega)))
     | (apply And.intro;· first|exact nd3|exact⟨by omega,by rw[lL];omega⟩|exact pL|exact pp|exact pq|exact pcp|exact pcq|exact ra7 _ _ _ lL (by simp;omega)|exact q1 _|exact q3 _|exact q5|exact q6|exact r2|exact r3|exact t3 _|exact t4 _|exact pure_E _)
     | (apply Exists.intro;apply And.intro;· first|exact rfl|exact cI|exact cO|exact cT|exact gi2)
     | rw[hw0]
     | fail
    all_goals (conv=>whnf)
    all_goals first|exact congrArg _ (t2 both)|(exfalso;omega)
  ·rw[if_neg hv]
   by_cases ho:op=0
   ·rw[if_pos ho]
    cases I<;>cases i
    all_goals refine CTriple.of_body (C:=cx) Tryz.func123 rfl (by kernel_rfl) mixed (pure_E l) hrest (fun E hE=>?_) nm
    repeat' (conv=>whnf);first
     | (refine bcase_of (fun hr=>?_) (fun hr=>?_)<;>(try simp only[sl2] at hr)<;>try(exfalso;first|omega|exact hr rfl|(simp at hr;done)|(simp at hr;omega)))
     | (apply And.intro;· first|exact nd3|exact⟨by omega,by rw[lL];omega⟩|exact pL|exact pp|exact pq|exact pcp|exact pcq|exact ra7 _ _ _ lL (by simp;omega)|exact q1 _|exact q3 _|exact q5|exact q6|exact r2|exact r3|exact t3 _|exact t4 _|exact pure_E _)
     | (apply Exists.intro;apply And.intro;· first|exact rfl|exact cI|exact cO|exact cT|exact gi2)
     | rw[hw0]
     | fail
    all_goals (conv=>whnf)
    all_goals exact q4
   ·rw[if_neg ho]
    cases I<;>cases i
    all_goals refine CTriple.of_body (C:=cx) Tryz.func123 rfl (by kernel_rfl) mixed (pure_E l) hrest (fun E hE=>?_) nm
    repeat' (conv=>whnf);first
     | (refine bcase_of (fun hr=>?_) (fun hr=>?_)<;>(try simp only[sl2] at hr)<;>try(exfalso;first|omega|exact hr rfl|(simp at hr;done)|(simp at hr;omega)))
     | (apply And.intro;· first|exact nd3|exact⟨by omega,by rw[lL];omega⟩|exact pL|exact pp|exact pq|exact pcp|exact pcq|exact ra7 _ _ _ lL (by simp;omega)|exact q1 _|exact q3 _|exact q5|exact q6|exact r2|exact r3|exact t3 _|exact t4 _|exact pure_E _)
     | (apply Exists.intro;apply And.intro;· first|exact rfl|exact cI|exact cO|exact cT|exact gi2)
     | rw[hw0]
     | fail
    all_goals (conv=>whnf)
    all_goals exact q2 op
end Go.Proofs.YtbppemcdphgknaaGreatDoor
namespace Go.Proofs.YtbppemcdphgknaaGreatDoor
open Go Go.Vm
noncomputable def cxC:Cx DV:=cxOf [(117,1),(123,4)]
def lastLe (l:List En) (ver:Int):Bool:=match l[l.length-1]? with
 | none=>true
 | some e=>decide (e.v≤ver)
def okP (m keep:Int) (l:List En) (ver:Int) (c:En) (i:Bool):Bool:=goodL m l&&decide (2≤keep)&&decide (keep≤8)&&decide (1≤ver)&&lastLe l ver&&mayC m i c.n c.a c.b c.p c.q
def afterP (m keep floor:Int) (out:List En):List En:=if keep+1<(out.length:Int) then pruneS m out floor else out
def putA (m keep:Int) (l:List En) (ver:Int) (c:En) (i:Bool) (floor:Int):Option (List En):=match okP m keep l ver c i with
 | false=>none
 | true=>if keep+1<((afterP m keep floor (putS l ver c i)).length:Int) then none else some (afterP m keep floor (putS l ver c i))
def resP:Option (List En)→V
 | none=>.tup [chV [],.bool false]
 | some l=>.tup [chV l,.bool true]
theorem _root_.Go.Vm.PTriple.tup_nils {P:Program} {G:Nat→V} {f:FuncId} {args:List V} {sz:Nat} {b:V} (h:PTriple P G f args (.tup [.nils,b])):PTriple P G f args (.tup [.lst sz [],b]):=
 h.weak (fun _ _ h=>h) fun M v h=>by
  cases h with
  | tup h1 h2=>
   have:VsRel (fun _=>none) M [.nils,b] _:=⟨h1,h2⟩
   have h3:=(Nilled.nils (sz:=sz) (.same (v:=b) .nil)).rel this
   exact .tup h3.1 h3.2
theorem newE_in {c:En} (h:EnIn c) (ver op:Int):EnIn (newE ver op c):=⟨h.lp,h.lq,h.rp,h.rq,h.a64,h.b64⟩
theorem putS_len (l:List En) (ver:Int) (c:En) (i:Bool):(putS l ver c i).length≤l.length+1:=by
 unfold putS
 split
 ·split<;>simp
 ·repeat' split
  all_goals (simp<;>omega)
theorem putS_in {l:List En} (h:∀e∈l,EnIn e) {c:En} (hc:EnIn c) (ver:Int) (i:Bool):∀e∈putS l ver c i,EnIn e:=fun e he=>by
 have key:e∈l∨∃op,e=newE ver op c:=by
  revert he
  unfold putS
  split
  ·split
   ·intro he;exact .inr ⟨1,by simpa using he⟩
   ·intro he;cases he
  ·repeat' split
   ·intro he;exact .inl (List.mem_of_mem_take he)
   ·intro he
    rcases List.mem_append.1 he with he|he
    ·exact .inl (List.mem_of_mem_take he)
    ·exact .inr ⟨_,List.mem_singleton.1 he⟩
   ·intro he;exact .inl he
   ·intro he
    rcases List.mem_append.1 he with he|he
    ·exact .inl he
    ·exact .inr ⟨_,List.mem_singleton.1 he⟩
 rcases key with h1|⟨op,rfl⟩
 ·exact h e h1
 ·exact newE_in hc ver op
theorem putS_ch {l:List En} (h:ChIn l) (hl:l.length≤800) {c:En} (hc:EnIn c) (ver:Int) (i:Bool):ChIn (putS l ver c i):=⟨by have:=putS_len l ver c i;omega,putS_in h.2 hc ver i⟩
theorem pruneS_ch {m:Int} {l:List En} (h:ChIn l) (floor:Int):ChIn (pruneS m l floor):=by
 unfold pruneS
 split
 ·exact⟨by simp,fun e he=>by cases he⟩
 ·split
  ·exact h
  ·split
   ·exact h
   ·split
    ·exact h.drop _
    ·exact h.drop _
theorem Put_ok (m keep ver floor:Int) (l:List En) (c:En) (i:Bool) (h:ChIn l) (hl:l.length≤800) (hc:EnIn c):PTriple Tryz.prog gv 77 [i64V m,i64V keep,chV l,i64V ver,cellE c,.bool i,i64V floor] (resP (putA m keep l ver c i floor)):=by
 have pL:=pure_E l
 have lL:=lenE l
 have pcp:=pure_R c.p
 have pcq:=pure_R c.q
 have cG:=goodL_ok m l (by omega) h.2
 have cY:=may_ok m c.n c.a c.b c.p c.q i hc.lp hc.lq hc.rp hc.rq hc.a64 hc.b64
 have cCopy:=copy_row l (by omega) fun e he=>⟨(h.2 e he).lp,(h.2 e he).lq⟩
 have cCell:=cells_ok c.n c.a c.b c.p c.q hc.lp hc.lq
 have cPut:=put_row l ver c i (by omega)
 have hO:=putS_ch h hl hc ver i
 have pO:=pure_E (putS l ver c i)
 have lO:=lenE (putS l ver c i)
 have hO9:=hO.1
 have hw0:IntKind.i64.wrap (((l.map encE).length:Int)-1)=((l.length:Nat):Int)-1:=by rw[lL];exact wrap64 (by omega) (by omega)
 unfold putA okP lastLe
 generalize mayC m i c.n c.a c.b c.p c.q=Y at cY ⊢
 cases hg:goodL m l with
 | false=>
  rw[hg] at cG
  simp only[Bool.false_and]
  refine PTriple.tup_nils ?_
  cases i
  all_goals refine PTriple.of_body (C:=cxC) Tryz.func77 rfl (by kernel_rfl) (mixedOf _) fun E hE=>?_
  all_goals exact kb17
 | true=>
 rw[hg] at cG
 by_cases hk:(2≤keep∧keep≤8)∧1≤ver
 case neg=>
  have e:(true&&decide (2≤keep)&&decide (keep≤8)&&decide (1≤ver))=false:=by simp;omega
  rw[e]
  simp only[Bool.false_and]
  refine PTriple.tup_nils ?_
  cases i
  all_goals refine PTriple.of_body (C:=cxC) Tryz.func77 rfl (by kernel_rfl) (mixedOf _) fun E hE=>?_
  all_goals exact kb17
 case pos=>
 have e:(true&&decide (2≤keep)&&decide (keep≤8)&&decide (1≤ver))=true:=by simp;omega
 rw[e]
 have hwk:IntKind.i64.wrap (keep+1)=keep+1:=wrap64 (by omega) (by omega)
 have last:∀e:En,l[l.length-1]?=some e→lget (l.map encE) ((l.length:Int)-1).toNat=some [i64V e.v,i64V e.o,i64V e.n,i64V e.a,i64V e.b,bagV e.p,bagV e.q]:=fun e hx=>by
  have hlt:=(List.getElem?_eq_some_iff.1 hx).1
  have gi:=getEc hx
  rwa [show((l.length-1:Nat):Int)=(l.length:Int)-1 by omega] at gi
 obtain⟨out,hout⟩:∃out,out=putS l ver c i:=⟨_,rfl⟩
 rw[←hout] at hO pO lO hO9 cPut ⊢
 have cPr:=Prune_ok m out floor hO
 have pPr:=pure_E (pruneS m out floor)
 have lPr:=lenE (pruneS m out floor)
 have tail:∀X:Option En,l[l.length-1]?=X→(match X with|none=>true|some e=>decide (e.v≤ver))=true→Y=true→PTriple Tryz.prog gv 77 [i64V m,i64V keep,chV l,i64V ver,cellE c,.bool i,i64V floor] (resP (if keep+1<((afterP m keep floor out).length:Int) then none else some (afterP m keep floor out))):=by
  intro X hX hle hY
  subst hY
  unfold afterP
  by_cases h1:keep+1<(out.length:Int)
  ·rw[if_pos h1]
   by_cases h2:keep+1<((pruneS m out floor).length:Int)
   ·rw[if_pos h2]
    refine PTriple.tup_nils ?_
    cases X with
    | none=>
     have hn:l.length=0:=by
      rcases Nat.eq_zero_or_pos l.length with h0|h0
      ·exact h0
      ·rw[List.getElem?_eq_getElem (by omega)] at hX;cases hX
     cases i
     all_goals refine PTriple.of_body (C:=cxC) Tryz.func77 rfl (by kernel_rfl) (mixedOf _) fun E hE=>?_
     all_goals exact kb18
    | some e=>
     have gi:=last e hX
     have hlt:=(List.getElem?_eq_some_iff.1 hX).1
     have hv:e.v≤ver:=by simpa using hle
     cases i
     all_goals refine PTriple.of_body (C:=cxC) Tryz.func77 rfl (by kernel_rfl) (mixedOf _) fun E hE=>?_
     all_goals exact kb19
   ·rw[if_neg h2]
    cases X with
    | none=>
     have hn:l.length=0:=by
      rcases Nat.eq_zero_or_pos l.length with h0|h0
      ·exact h0
      ·rw[List.getElem?_eq_getElem (by omega)] at hX;cases hX
     cases i
     all_goals refine PTriple.of_body (C:=cxC) Tryz.func77 rfl (by kernel_rfl) (mixedOf _) fun E hE=>?_
     all_goals exact kb18
    | some e=>
     have gi:=last e hX
     have hlt:=(List.getElem?_eq_some_iff.1 hX).1
     have hv:e.v≤ver:=by simpa using hle
     cases i
     all_goals refine PTriple.of_body (C:=cxC) Tryz.func77 rfl (by kernel_rfl) (mixedOf _) fun E hE=>?_
     all_goals exact kb19
  ·rw[if_neg h1,if_neg h1]
   cases X with
   | none=>
    have hn:l.length=0:=by
     rcases Nat.eq_zero_or_pos l.length with h0|h0
     ·exact h0
     ·rw[List.getElem?_eq_getElem (by omega)] at hX;cases hX
    cases i
    all_goals refine PTriple.of_body (C:=cxC) Tryz.func77 rfl (by kernel_rfl) (mixedOf _) fun E hE=>?_
    all_goals exact kb18
   | some e=>
    have gi:=last e hX
    have hlt:=(List.getElem?_eq_some_iff.1 hX).1
    have hv:e.v≤ver:=by simpa using hle
    cases i
    all_goals refine PTriple.of_body (C:=cxC) Tryz.func77 rfl (by kernel_rfl) (mixedOf _) fun E hE=>?_
    all_goals exact kb19
 cases hx:l[l.length-1]? with
 | none=>
  simp only[Bool.true_and]
  cases Y with
  | true=>exact tail _ hx rfl rfl
  | false=>
   refine PTriple.tup_nils ?_
   have hn:l.length=0:=by
    rcases Nat.eq_zero_or_pos l.length with h0|h0
    ·exact h0
    ·rw[List.getElem?_eq_getElem (by omega)] at hx;cases hx
   cases i
   all_goals refine PTriple.of_body (C:=cxC) Tryz.func77 rfl (by kernel_rfl) (mixedOf _) fun E hE=>?_
   repeat' (conv=>whnf);first
    | (refine bcase_of (fun hr=>?_) (fun hr=>?_)<;>(try simp only[sl2] at hr)<;>try(exfalso;first|omega|exact hr rfl|(simp at hr;done)|(simp at hr;omega)))
    | (apply And.intro;· first|exact nd3|exact⟨by omega,by rw[lL];omega⟩|exact pL|exact pp|exact pq|exact pcp|exact pcq|exact pO|exact⟨pO,trivial⟩)
    | (apply Exists.intro;apply And.intro;· first|exact rfl|exact cG|exact cY)
    | rw[hw0]
    | fail
   all_goals (conv=>whnf)
   all_goals rfl
 | some e=>
  simp only[Bool.true_and]
  have gi:=last e hx
  have hlt:=(List.getElem?_eq_some_iff.1 hx).1
  by_cases hv:e.v≤ver
  ·rw[decide_eq_true hv,Bool.true_and]
   cases Y with
   | true=>exact tail _ hx (decide_eq_true hv) rfl
   | false=>
    refine PTriple.tup_nils ?_
    cases i
    all_goals refine PTriple.of_body (C:=cxC) Tryz.func77 rfl (by kernel_rfl) (mixedOf _) fun E hE=>?_
    all_goals exact kb20
  ·rw[decide_eq_false hv,Bool.false_and]
   refine PTriple.tup_nils ?_
   cases i
   all_goals refine PTriple.of_body (C:=cxC) Tryz.func77 rfl (by kernel_rfl) (mixedOf _) fun E hE=>?_
   all_goals exact kb20
end Go.Proofs.YtbppemcdphgknaaGreatDoor
