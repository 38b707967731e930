/- A part of the proofs over the seat YtbppemcdphgknaaGreatDoor. -/
import Derived.Test.YtbppemcdphgknaaGreatDoorC2
import Derived.Test.YtbppemcdphgknaaGreatDoorC1
set_option linter.unusedVariables false
set_option linter.unusedSimpArgs false
set_option maxRecDepth 100000
set_option maxHeartbeats 40000000
namespace Go.Proofs.YtbppemcdphgknaaGreatDoor
open Go Go.Vm
set_option maxRecDepth 100000
set_option maxHeartbeats 40000000
set_option linter.unusedSimpArgs false
set_option linter.unusedVariables false
structure En where
 v:Int
 o:Int
 n:Int
 a:Int
 b:Int
 p:List (Int×Int)
 q:List (Int×Int)
deriving DecidableEq
def encR (x:Int×Int):List V:=[i64V x.1,i64V x.2]
abbrev bagV (l:List (Int×Int)):V:=.lst 2 (l.map encR)
def encE (e:En):List V:=[i64V e.v,i64V e.o,i64V e.n,i64V e.a,i64V e.b,bagV e.p,bagV e.q]
abbrev chV (l:List En):V:=.lst 7 (l.map encE)
theorem pure_R (l:List (Int×Int)):PureEs (l.map encR):=fun e he v hv=>by
 obtain⟨x,_,rfl⟩:=List.mem_map.1 he
 simp[encR] at hv
 rcases hv with rfl|rfl<;>exact .int _ _
theorem pure_E (l:List En):PureEs (l.map encE):=fun e he v hv=>by
 obtain⟨x,_,rfl⟩:=List.mem_map.1 he
 simp[encE] at hv
 rcases hv with rfl|rfl|rfl|rfl|rfl|rfl|rfl
 ·exact .int _ _
 ·exact .int _ _
 ·exact .int _ _
 ·exact .int _ _
 ·exact .int _ _
 ·exact .lst (pure_R _)
 ·exact .lst (pure_R _)
theorem pure_nil:PureEs []:=fun e he=>by cases he
theorem one_R (l:List (Int×Int)):allOne (l.map encR) 2:=fun e he=>by
 obtain⟨x,_,rfl⟩:=List.mem_map.1 he
 exact⟨rfl,rfl⟩
theorem one_E (l:List En):allOne (l.map encE) 7:=fun e he=>by
 obtain⟨x,_,rfl⟩:=List.mem_map.1 he
 exact⟨rfl,rfl⟩
abbrev cellV (n a b:Int) (p q:List (Int×Int)):V:=.agg [i64V n,i64V a,i64V b,bagV p,bagV q]
theorem copied0 (z:List V) (l:List (List V)):lput (List.replicate ((l.length:Nat):Int).toNat z) 0 (l.take ((l.length:Nat):Int).toNat)=l:=by
 rw[Int.toNat_natCast,List.take_length];simp[lput]
theorem copied (z:List V) (l:List (List V)):((lput (List.replicate ((l.length:Nat):Int).toNat z) 0 (l.take ((l.length:Nat):Int).toNat)).drop 0).take ((l.length:Nat):Int).toNat=l:=by
 rw[copied0];simp
theorem copied_len (z:List V) (l:List (List V)):0+((l.length:Nat):Int).toNat≤(lput (List.replicate ((l.length:Nat):Int).toNat z) 0 (l.take ((l.length:Nat):Int).toNat)).length:=by
 rw[copied0];simp
theorem cells_ok (n a b:Int) (p q:List (Int×Int)) (hp:p.length≤100000) (hq:q.length≤100000):PTriple Tryz.prog gv 121 [cellV n a b p q] (cellV n a b p q):=by
 have lp:(p.map encR).length=p.length:=by simp
 have lq:(q.map encR).length=q.length:=by simp
 have bp:(0:Int)≤(p.map encR).length∧((p.map encR).length:Int)≤(p.map encR).length∧((p.map encR).length:Int)*16≤roomBound∧((p.map encR).length:Int)≤roomBound:=⟨by omega,by omega,by unfold roomBound;omega,by unfold roomBound;omega⟩
 have bq:(0:Int)≤(q.map encR).length∧((q.map encR).length:Int)≤(q.map encR).length∧((q.map encR).length:Int)*16≤roomBound∧((q.map encR).length:Int)≤roomBound:=⟨by omega,by omega,by unfold roomBound;omega,by unfold roomBound;omega⟩
 refine PTriple.of_body (C:=cx) Tryz.func121 rfl (by kernel_rfl) mixed fun E hE=>?_
 repeat' (conv=>whnf);first
  | (refine bcase_of (fun hr=>?_) (fun hr=>?_)<;>try(exfalso;simp at hr;done))
  | (apply And.intro;· first|exact nd1|exact bp|exact bq|exact⟨rfl,copied_len _ _⟩|(rw[copied];exact pure_R _)|exact⟨by simp,one_R _⟩)
  | (apply Exists.intro;apply And.intro;· first|exact rfl)
  | fail
 refine VLoop.unroll hE mixed ?_
 repeat' (conv=>whnf);first
  | (refine bcase_of (fun hr=>?_) (fun hr=>?_)<;>try(exfalso;simp at hr;done))
  | (apply And.intro;· first|exact nd1|exact bp|exact bq|exact⟨rfl,copied_len _ _⟩|(rw[copied];exact pure_R _)|exact⟨by simp,one_R _⟩)
  | (apply Exists.intro;apply And.intro;· first|exact rfl)
  | fail
 refine VLoop.weak [.snap (2,1) 3] ?_
 repeat' (conv=>whnf);first
  | (refine bcase_of (fun hr=>?_) (fun hr=>?_)<;>try(exfalso;simp at hr;done))
  | (apply And.intro;· first|exact nd1|exact bp|exact bq|exact⟨rfl,copied_len _ _⟩|(rw[copied];exact pure_R _)|exact⟨by simp,one_R _⟩)
  | (apply Exists.intro;apply And.intro;· first|exact rfl)
  | fail
 refine VLoop.unroll hE mixed ?_
 repeat' (conv=>whnf);first
  | (refine bcase_of (fun hr=>?_) (fun hr=>?_)<;>try(exfalso;simp at hr;done))
  | (apply And.intro;· first|exact nd1|exact bp|exact bq|exact⟨rfl,copied_len _ _⟩|(rw[copied];exact pure_R _)|exact⟨by simp,one_R _⟩)
  | (apply Exists.intro;apply And.intro;· first|exact rfl)
  | fail
 refine VLoop.weak [.snap (2,1) 4] ?_
 repeat' (conv=>whnf);first
  | (refine bcase_of (fun hr=>?_) (fun hr=>?_)<;>try(exfalso;simp at hr;done))
  | (apply And.intro;· first|exact nd1|exact bp|exact bq|exact⟨rfl,copied_len _ _⟩|(rw[copied];exact pure_R _)|exact⟨by simp,one_R _⟩)
  | (apply Exists.intro;apply And.intro;· first|exact rfl)
  | fail
 refine VLoop.unroll hE mixed ?_
 repeat' (conv=>whnf);first
  | (refine bcase_of (fun hr=>?_) (fun hr=>?_)<;>try(exfalso;simp at hr;done))
  | (apply And.intro;· first|exact nd1|exact bp|exact bq|exact⟨rfl,copied_len _ _⟩|(rw[copied];exact pure_R _)|exact⟨by simp,one_R _⟩)
  | (apply Exists.intro;apply And.intro;· first|exact rfl)
  | fail
 all_goals (conv=>whnf)
 rw[copied,copied]
 rfl
def EnOk (e:En):Prop:=e.p.length≤100000∧e.q.length≤100000
theorem put_same (l:List En) (i:Nat) (e:En) (h:l[i]?=some e):lset (l.map encE) i (lput (encE e) 2 [i64V e.n,i64V e.a,i64V e.b,bagV e.p,bagV e.q])=l.map encE:=by
 have hlt:=(List.getElem?_eq_some_iff.1 h).1
 have e1:lput (encE e) 2 [i64V e.n,i64V e.a,i64V e.b,bagV e.p,bagV e.q]=encE e:=rfl
 rw[e1,lset_eq]
 refine List.ext_getElem? fun j=>?_
 rw[List.getElem?_set]
 by_cases hj:i=j
 ·subst hj;rw[if_pos rfl,if_pos (by simpa using hlt),List.getElem?_map,h];rfl
 ·rw[if_neg hj]
theorem take_all (l:List En):((l.map encE).drop 0).take l.length=l.map encE:=by rw[List.drop_zero,List.take_of_length_le (by simp)]
def stCopy (l:List En) (i:Int):St DV:=mkSt 28 [(0,chV l),(3,.rsl (9,1) 7 0 l.length),(12,.rsl (9,1) 7 0 l.length),(13,i64V l.length),(14,i64V i)] [(8,.row 7 (l.map encE) false)] []
theorem copy_ok (l:List En) (hl:l.length≤1000) (hb:∀e∈l,EnOk e):PTriple Tryz.prog gv 117 [chV l] (chV l):=by
 have hlen:(l.map encE).length=l.length:=by simp
 have bl:(0:Int)≤(l.map encE).length∧((l.map encE).length:Int)≤(l.map encE).length∧((l.map encE).length:Int)*88≤roomBound∧((l.map encE).length:Int)≤roomBound:=⟨by omega,by omega,by unfold roomBound;omega,by unfold roomBound;omega⟩
 refine PTriple.of_body (C:=cx) Tryz.func117 rfl (by kernel_rfl) mixed fun E hE=>?_
 repeat' (conv=>whnf);first
  | (refine bcase_of (fun hr=>?_) (fun hr=>?_)<;>try(exfalso;simp at hr;done))
  | (apply And.intro;· first|exact nd1|exact bl|exact pure_R _|exact⟨by simp,one_E _⟩)
  | (apply Exists.intro;apply And.intro;· first|exact rfl)
  | fail
 refine VLoop.norm [0,3,12,13,14] [8] ?_
 repeat' (conv=>whnf);first
  | (refine bcase_of (fun hr=>?_) (fun hr=>?_)<;>try(exfalso;simp at hr;done))
  | (apply And.intro;· first|exact nd2|exact pure_E _|(rw[copied0];exact pure_E _))
  | (apply Exists.intro;apply And.intro;· first|exact rfl)
  | fail
 rw[copied0]
 refine VLoop.inv (fun i:Int=>stCopy l i) (fun i=>0≤i∧i≤l.length) (fun i=>l.length-i.toNat) 0 ⟨Int.le_refl _,by omega⟩ (by simp only[stCopy,hlen,Int.toNat_natCast];rfl) ?_
 intro i hi ih
 refine VLoop.unroll hE mixed ?_
 conv=>whnf
 refine bcase_of (fun hr=>?_) (fun hr=>?_)
 case refine_2=>
  repeat' (conv=>whnf);first
   | (refine bcase_of (fun hr=>?_) (fun hr=>?_)<;>try(exfalso;simp at hr;done))
   | (apply And.intro;· first|exact nd2|(show 0+l.length≤(l.map encE).length;rw[Nat.zero_add,hlen];exact Nat.le_refl _)|(rw[take_all];exact pure_E _)|exact⟨by decide,by decide⟩|exact⟨Nat.le_of_ble_eq_true rfl,allOne_of rfl⟩|exact bl|exact pure_R _|exact⟨by simp,one_E _⟩)
   | (apply Exists.intro;apply And.intro;· first|exact rfl)
   | fail
  all_goals (conv=>whnf)
  show retOf [V.lst 7 (((l.map encE).drop 0).take l.length)]=chV l
  rw[take_all];rfl
 case refine_1=>
  have hin:i<l.length:=by simpa using hr
  have hw:IntKind.i64.wrap (i+1)=i+1:=wrap64 (by omega) (by omega)
  obtain⟨e,he⟩:∃z,l[i.toNat]?=some z:=⟨_,List.getElem?_eq_getElem (by omega)⟩
  have hem:=hb e (List.mem_of_getElem? he)
  have hps:lset (l.map encE) (0+i.toNat) (lput (encE e) (0+2) (V.agg [i64V e.n,i64V e.a,i64V e.b,bagV e.p,bagV e.q]).cells)=l.map encE:=by rw[Nat.zero_add];exact put_same l _ e he
  repeat' (conv=>whnf);first
   | (refine bcase_of (fun hr=>?_) (fun hr=>?_)<;>try(exfalso;simp at hr;done))
   | (apply And.intro;· first|exact nd1|exact bl|exact pure_R _|exact⟨by simp,one_E _⟩|exact⟨hi.1,hin⟩)
   | (apply Exists.intro;apply And.intro;· first|exact rfl|exact cells_ok e.n e.a e.b e.p e.q hem.1 hem.2|(show lget _ _=some (encE e);rw[lget_eq,Nat.zero_add,List.getElem?_map,he];rfl))
   | fail
  all_goals (conv=>whnf)
  refine VLoop.norm [0,3,12,13,14] [8] ?_
  repeat' (conv=>whnf);first
   | (refine bcase_of (fun hr=>?_) (fun hr=>?_)<;>try(exfalso;simp at hr;done))
   | (apply And.intro;· first|exact nd2|exact pure_E _|(rw[hps];exact pure_E _))
   | (apply Exists.intro;apply And.intro;· first|exact rfl)
   | fail
  rw[hps]
  exact ih (IntKind.i64.wrap (i+1)) ⟨by omega,by omega⟩ (by omega)
theorem lenR (l:List (Int×Int)):(l.map encR).length=l.length:=by simp
theorem lenE (l:List En):(l.map encE).length=l.length:=by simp
theorem getR {l:List (Int×Int)} {i:Nat} {x:Int×Int} (h:l[i]?=some x):lget (l.map encR) ((i:Int).toNat)=some (encR x):=by rw[lget_eq,Int.toNat_natCast,List.getElem?_map,h];rfl
theorem getE {l:List En} {i:Nat} {x:En} (h:l[i]?=some x):lget (l.map encE) ((i:Int).toNat)=some (encE x):=by rw[lget_eq,Int.toNat_natCast,List.getElem?_map,h];rfl
end Go.Proofs.YtbppemcdphgknaaGreatDoor
namespace Go.Proofs.YtbppemcdphgknaaGreatDoor
open Go Go.Vm
abbrev RL:=List (Int×Int)
def bgo:Option Int→Int→RL→Bool
 | _,_,[]=>true
 | prev,s,(v,n)::r=>(match prev with|none=>true|some p=>decide (p<v))&&decide (1≤n)&&decide (n≤1099511627776-s)&&bgo (some v) (s+n) r
def goodB (b:RL):Bool:=bgo none 0 b
def prevR (b:RL) (i:Nat):Option Int:=match i with
 | 0=>none
 | j+1=>(b[j]?).map (·.1)
def stG (b:RL) (i:Nat) (s:Int):St DV:=mkSt 43 [(0,bagV b),(3,i64V s),(6,bagV b),(7,i64V b.length),(8,i64V i)] [] []
def stG8 (b:RL) (i:Nat) (s:Int):St DV:=mkSt 52 [(0,bagV b),(3,i64V s),(4,i64V i)] [] []
theorem drop_get {α:Type} {l:List α} {i:Nat} {x:α} (h:l[i]?=some x):l.drop i=x::l.drop (i+1):=by
 have hi:=(List.getElem?_eq_some_iff.1 h).1
 rw[List.drop_eq_getElem_cons hi]
 congr 1
 rw[List.getElem?_eq_getElem hi] at h
 exact Option.some.inj h
theorem take_get {α:Type} {l:List α} {i:Nat} {x:α} (h:l[i]?=some x):l.take (i+1)=l.take i++[x]:=by
 rw[List.take_add_one,h];rfl
theorem getRp {l:RL} {i:Nat} {x n:Int} (h:l[i]?=some (x,n)):lget (l.map encR) ((i:Int).toNat)=some [i64V x,i64V n]:=getR h
theorem goodB_ok (b:RL) (hl:b.length≤1000000):PTriple Tryz.prog gv 188 [bagV b] (.bool (goodB b)):=by
 have pP:=pure_R b
 have lP:=lenR b
 generalize hH:goodB b=H
 refine PTriple.of_body (C:=cx) Tryz.func188 rfl (by kernel_rfl) mixed fun E hE=>?_
 repeat' (conv=>whnf);first
  | (refine bcase_of (fun hr=>?_) (fun hr=>?_)<;>(try simp only[sl1] at hr)<;>try(exfalso;first|omega|exact hr rfl|(simp at hr;done)|(simp at hr;omega)))
  | (apply And.intro;· first|exact nd3|exact pP)
  | (apply Exists.intro;apply And.intro;· first|exact rfl)
  | fail
 all_goals (conv=>whnf)
 refine VLoop.norm [0,3,6,7,8] [] ?_
 repeat' (conv=>whnf);first
  | (apply And.intro;· first|exact nd2|exact pP)
  | (apply Exists.intro;apply And.intro;· first|exact rfl)
  | fail
 refine VLoop.inv (fun z:Nat×Int=>stG b z.1 z.2) (fun z=>z.1≤b.length∧(0≤z.2∧z.2≤1099511627776)∧bgo (prevR b z.1) z.2 (b.drop z.1)=H) (fun z=>b.length-z.1) ⟨0,0⟩ ⟨Nat.zero_le _,by decide,hH⟩ (by unfold stG;rw[←lP];rfl) ?_
 rintro⟨i,s⟩ ⟨hi,hs,hb⟩ ih
 simp only at hi hs hb ih
 show VLoop cx E _ (stG b i s) _
 by_cases hgo:i<b.length
 case neg=>
  rw[List.drop_eq_nil_of_le (by omega)] at hb
  obtain rfl:H=true:=hb.symm
  refine VLoop.unroll hE mixed ?_
  all_goals exact kb0
 case pos=>
  have hw:IntKind.i64.wrap ((i:Int)+1)=((i+1:Nat):Int):=wrap64 (by omega) (by omega)
  have hm:IntKind.i64.wrap (1099511627776-s)=1099511627776-s:=wrap64 (by omega) (by omega)
  obtain⟨⟨v,n⟩,hx⟩:∃x,b[i]?=some x:=⟨_,List.getElem?_eq_getElem hgo⟩
  have gi:=getRp hx
  rw[drop_get hx] at hb
  simp only[bgo] at hb
  by_cases h0:i=0
  ·subst h0
   simp only[prevR,Bool.true_and] at hb
   by_cases h1:1≤n∧n≤1099511627776-s
   ·rw[decide_eq_true h1.1,decide_eq_true h1.2] at hb
    have hsn:IntKind.i64.wrap (s+n)=s+n:=wrap64 (by omega) (by omega)
    have hnx:bgo (prevR b (0+1)) (s+n) (b.drop (0+1))=H:=by simp only[prevR,hx];exact hb
    refine VLoop.unroll hE mixed ?_
    repeat' (conv=>whnf);first
     | (refine bcase_of (fun hr=>?_) (fun hr=>?_)<;>(try simp only[sl1] at hr)<;>try(exfalso;first|omega|exact hr rfl|(simp at hr;done)|(simp at hr;omega)))
     | (apply And.intro;· first|exact nd3|exact⟨by omega,by rw[lP];omega⟩)
     | (apply Exists.intro;apply And.intro;· first|exact rfl|exact gi)
     | rw[hm]
     | rw[hw]
     | rw[hsn]
     | fail
    all_goals (conv=>whnf)
    refine VLoop.norm [0,3,6,7,8] [] ?_
    repeat' (conv=>whnf);first
     | (apply And.intro;· first|exact nd2|exact pP)
     | (apply Exists.intro;apply And.intro;· first|exact rfl)
     | fail
    try rw[hw]
    try rw[hsn]
    exact ih ⟨_,s+n⟩ ⟨hgo,by omega,hnx⟩ (by simp only;omega)
   ·have:(decide (1≤n)&&decide (n≤1099511627776-s))=false:=by simp;omega
    rw[this] at hb
    obtain rfl:H=false:=hb.symm
    refine VLoop.unroll hE mixed ?_
    all_goals exact kb1
  ·obtain⟨j,rfl⟩:∃j,i=j+1:=⟨i-1,by omega⟩
   obtain⟨⟨pv,pn⟩,hy⟩:∃x,b[j]?=some x:=⟨_,List.getElem?_eq_getElem (by omega)⟩
   have gj:=getRp hy
   have hwj:IntKind.i64.wrap (((j+1:Nat):Int)-1)=(j:Int):=by rw[wrap64 (by omega) (by omega)];omega
   simp only[prevR,hy,Option.map_some] at hb
   by_cases h1:pv<v∧1≤n∧n≤1099511627776-s
   ·rw[decide_eq_true h1.1,decide_eq_true h1.2.1,decide_eq_true h1.2.2] at hb
    have hsn:IntKind.i64.wrap (s+n)=s+n:=wrap64 (by omega) (by omega)
    have hnx:bgo (prevR b (j+1+1)) (s+n) (b.drop (j+1+1))=H:=by simp only[prevR,hx];exact hb
    refine VLoop.unroll hE mixed ?_
    repeat' (conv=>whnf);first
     | (refine bcase_of (fun hr=>?_) (fun hr=>?_)<;>(try simp only[sl1] at hr)<;>try(exfalso;first|omega|exact hr rfl|(simp at hr;done)|(simp at hr;omega)))
     | (apply And.intro;· first|exact nd3|exact⟨by omega,by rw[lP];omega⟩)
     | (apply Exists.intro;apply And.intro;· first|exact rfl|exact gi|exact gj)
     | rw[hm]
     | rw[hw]
     | rw[hsn]
     | rw[hwj]
     | fail
    all_goals (conv=>whnf)
    refine VLoop.norm [0,3,6,7,8] [] ?_
    repeat' (conv=>whnf);first
     | (apply And.intro;· first|exact nd2|exact pP)
     | (apply Exists.intro;apply And.intro;· first|exact rfl)
     | fail
    try rw[hw]
    try rw[hsn]
    exact ih ⟨_,s+n⟩ ⟨hgo,by omega,hnx⟩ (by simp only;omega)
   ·have:(decide (pv<v)&&decide (1≤n)&&decide (n≤1099511627776-s))=false:=by simp;omega
    rw[this] at hb
    obtain rfl:H=false:=hb.symm
    refine VLoop.unroll hE mixed ?_
    all_goals exact kb2
theorem goodB8_ok (b:RL) (hl:b.length≤1000000):PTriple Tryz.prog gv 172 [bagV b] (.bool (goodB b)):=by
 have pP:=pure_R b
 have lP:=lenR b
 generalize hH:goodB b=H
 refine PTriple.of_body (C:=cx) Tryz.func172 rfl (by kernel_rfl) mixed fun E hE=>?_
 repeat' (conv=>whnf);first
  | (refine bcase_of (fun hr=>?_) (fun hr=>?_)<;>(try simp only[sl1] at hr)<;>try(exfalso;first|omega|exact hr rfl|(simp at hr;done)|(simp at hr;omega)))
  | (apply And.intro;· first|exact nd3|exact pP)
  | (apply Exists.intro;apply And.intro;· first|exact rfl)
  | fail
 all_goals (conv=>whnf)
 refine VLoop.norm [0,3,4] [] ?_
 repeat' (conv=>whnf);first
  | (apply And.intro;· first|exact nd2|exact pP)
  | (apply Exists.intro;apply And.intro;· first|exact rfl)
  | fail
 refine VLoop.inv (fun z:Nat×Int=>stG8 b z.1 z.2) (fun z=>z.1≤b.length∧(0≤z.2∧z.2≤1099511627776)∧bgo (prevR b z.1) z.2 (b.drop z.1)=H) (fun z=>b.length-z.1) ⟨0,0⟩ ⟨Nat.zero_le _,by decide,hH⟩ (by rfl) ?_
 rintro⟨i,s⟩ ⟨hi,hs,hb⟩ ih
 simp only at hi hs hb ih
 show VLoop cx E _ (stG8 b i s) _
 by_cases hgo:i<b.length
 case neg=>
  rw[List.drop_eq_nil_of_le (by omega)] at hb
  obtain rfl:H=true:=hb.symm
  refine VLoop.unroll hE mixed ?_
  all_goals exact kb0
 case pos=>
  have hw:IntKind.i64.wrap ((i:Int)+1)=((i+1:Nat):Int):=wrap64 (by omega) (by omega)
  have hm:IntKind.i64.wrap (1099511627776-s)=1099511627776-s:=wrap64 (by omega) (by omega)
  obtain⟨⟨v,n⟩,hx⟩:∃x,b[i]?=some x:=⟨_,List.getElem?_eq_getElem hgo⟩
  have gi:=getRp hx
  rw[drop_get hx] at hb
  simp only[bgo] at hb
  by_cases h0:i=0
  ·subst h0
   simp only[prevR,Bool.true_and] at hb
   by_cases h1:1≤n∧n≤1099511627776-s
   ·rw[decide_eq_true h1.1,decide_eq_true h1.2] at hb
    have hsn:IntKind.i64.wrap (s+n)=s+n:=wrap64 (by omega) (by omega)
    have hnx:bgo (prevR b (0+1)) (s+n) (b.drop (0+1))=H:=by simp only[prevR,hx];exact hb
    refine VLoop.unroll hE mixed ?_
    repeat' (conv=>whnf);first
     | (refine bcase_of (fun hr=>?_) (fun hr=>?_)<;>(try simp only[sl1] at hr)<;>try(exfalso;first|omega|exact hr rfl|(simp at hr;done)|(simp at hr;omega)))
     | (apply And.intro;· first|exact nd3|exact⟨by omega,by rw[lP];omega⟩)
     | (apply Exists.intro;apply And.intro;· first|exact rfl|exact gi)
     | rw[hm]
     | rw[hw]
     | rw[hsn]
     | fail
    all_goals (conv=>whnf)
    refine VLoop.norm [0,3,4] [] ?_
    repeat' (conv=>whnf);first
     | (apply And.intro;· first|exact nd2|exact pP)
     | (apply Exists.intro;apply And.intro;· first|exact rfl)
     | fail
    try rw[hw]
    try rw[hsn]
    exact ih ⟨_,s+n⟩ ⟨hgo,by omega,hnx⟩ (by simp only;omega)
   ·have:(decide (1≤n)&&decide (n≤1099511627776-s))=false:=by simp;omega
    rw[this] at hb
    obtain rfl:H=false:=hb.symm
    refine VLoop.unroll hE mixed ?_
    all_goals exact kb1
  ·obtain⟨j,rfl⟩:∃j,i=j+1:=⟨i-1,by omega⟩
   obtain⟨⟨pv,pn⟩,hy⟩:∃x,b[j]?=some x:=⟨_,List.getElem?_eq_getElem (by omega)⟩
   have gj:=getRp hy
   have hwj:IntKind.i64.wrap (((j+1:Nat):Int)-1)=(j:Int):=by rw[wrap64 (by omega) (by omega)];omega
   simp only[prevR,hy,Option.map_some] at hb
   by_cases h1:pv<v∧1≤n∧n≤1099511627776-s
   ·rw[decide_eq_true h1.1,decide_eq_true h1.2.1,decide_eq_true h1.2.2] at hb
    have hsn:IntKind.i64.wrap (s+n)=s+n:=wrap64 (by omega) (by omega)
    have hnx:bgo (prevR b (j+1+1)) (s+n) (b.drop (j+1+1))=H:=by simp only[prevR,hx];exact hb
    refine VLoop.unroll hE mixed ?_
    repeat' (conv=>whnf);first
     | (refine bcase_of (fun hr=>?_) (fun hr=>?_)<;>(try simp only[sl1] at hr)<;>try(exfalso;first|omega|exact hr rfl|(simp at hr;done)|(simp at hr;omega)))
     | (apply And.intro;· first|exact nd3|exact⟨by omega,by rw[lP];omega⟩)
     | (apply Exists.intro;apply And.intro;· first|exact rfl|exact gi|exact gj)
     | rw[hm]
     | rw[hw]
     | rw[hsn]
     | rw[hwj]
     | fail
    all_goals (conv=>whnf)
    refine VLoop.norm [0,3,4] [] ?_
    repeat' (conv=>whnf);first
     | (apply And.intro;· first|exact nd2|exact pP)
     | (apply Exists.intro;apply And.intro;· first|exact rfl)
     | fail
    try rw[hw]
    try rw[hsn]
    exact ih ⟨_,s+n⟩ ⟨hgo,by omega,hnx⟩ (by simp only;omega)
   ·have:(decide (pv<v)&&decide (1≤n)&&decide (n≤1099511627776-s))=false:=by simp;omega
    rw[this] at hb
    obtain rfl:H=false:=hb.symm
    refine VLoop.unroll hE mixed ?_
    all_goals exact kb2
end Go.Proofs.YtbppemcdphgknaaGreatDoor
namespace Go.Proofs.YtbppemcdphgknaaGreatDoor
open Go Go.Vm
def cntB (b:RL):Int:=(b.map (·.2)).sum
def wsum (b:RL):Int:=(b.map fun r=>r.1*r.2).sum
theorem cnt_snoc (a:RL) (v n:Int):cntB (a++[(v,n)])=cntB a+n:=by simp[cntB]
theorem wsum_snoc (a:RL) (v n:Int):wsum (a++[(v,n)])=wsum a+v*n:=by simp[wsum]
theorem bgo_sum:∀{b:RL} {p:Option Int} {s:Int},bgo p s b=true→0≤s∧s≤1099511627776→(∀r∈b,1≤r.2∧r.2≤1099511627776)∧∀i,0≤s+cntB (b.take i)∧s+cntB (b.take i)≤1099511627776
 | [],p,s,_,hs=>⟨fun r h=>(by cases h),fun i=>by simp[cntB];exact hs⟩
 | (v,n)::r,p,s,h,hs=>by
  simp only[bgo,Bool.and_eq_true,decide_eq_true_eq] at h
  obtain⟨⟨⟨_,h1⟩,h2⟩,h3⟩:=h
  obtain⟨i1,i2⟩:=bgo_sum h3 (by omega)
  refine⟨fun x hx=>?_,fun i=>?_⟩
  ·rcases List.mem_cons.1 hx with rfl|hx
   ·exact⟨h1,by show n≤_;omega⟩
   ·exact i1 x hx
  ·cases i with
   | zero=>simp[cntB];exact hs
   | succ i=>
    have:=i2 i
    have e:cntB (((v,n)::r).take (i+1))=n+cntB (r.take i):=by simp[cntB]
    rw[e];omega
theorem good_sum {b:RL} (h:goodB b=true):(∀r∈b,1≤r.2∧r.2≤1099511627776)∧∀i,0≤cntB (b.take i)∧cntB (b.take i)≤1099511627776:=by
 obtain⟨h1,h2⟩:=bgo_sum h (by decide)
 exact⟨h1,fun i=>by have:=h2 i;omega⟩
theorem wsum_le:∀{b:RL},(∀r∈b,in64 r.1∧0≤r.2)→-(9223372036854775808*cntB b)≤wsum b∧wsum b≤9223372036854775808*cntB b
 | [],_=>by simp[cntB,wsum]
 | (v,n)::r,h=>by
  obtain⟨i1,i2⟩:=wsum_le (b:=r) fun x hx=>h x (by simp[hx])
  obtain⟨⟨h1,h2⟩,h3⟩:=h (v,n) (by simp)
  simp only at h1 h2 h3
  have e1:cntB ((v,n)::r)=n+cntB r:=by simp[cntB]
  have e2:wsum ((v,n)::r)=v*n+wsum r:=by simp[wsum]
  have m1:v*n≤9223372036854775808*n:=Int.mul_le_mul_of_nonneg_right (by omega) h3
  have m2 : -9223372036854775808*n≤v*n:=Int.mul_le_mul_of_nonneg_right (by omega) h3
  rw[e1,e2]
  omega
theorem wsum_128 {b:RL} (h:goodB b=true) (h6:∀r∈b,in64 r.1) (i:Nat) : -10141204801825835211973625643008≤wsum (b.take i)∧wsum (b.take i)≤10141204801825835211973625643008:=by
 obtain⟨h1,h2⟩:=good_sum h
 have:=wsum_le (b:=b.take i) fun r hr=>⟨h6 r (List.mem_of_mem_take hr),by have:=h1 r (List.mem_of_mem_take hr);omega⟩
 have:=h2 i
 omega
def wideC (n:Int):List V:=[.int .i64 (IntKind.i64.wrap (n / 18446744073709551616)),.int .u64 (n % 18446744073709551616)]
def stCn (b:RL) (i:Nat):St DV:=mkSt 18 [(0,bagV b),(3,i64V (cntB (b.take i))),(6,bagV b),(7,i64V b.length),(8,i64V i)] [] []
def stC8 (b:RL) (i:Nat):St DV:=mkSt 23 [(0,bagV b),(3,i64V (cntB (b.take i))),(4,i64V i)] [] []
def stPt (b:RL) (i:Nat):St DV:=mkSt 38 [(0,bagV b),(1,.nils),(4,.ref (5,1) 0),(5,.ref (6,1) 0),(10,bagV b),(11,i64V b.length),(12,i64V i)] [(4,.box [i64V 0,.int .u64 0]),(5,.box (wideC (wsum (b.take i))))] []
theorem cnt_ok (b:RL) (hl:b.length≤1000000) (hg:goodB b=true):PTriple Tryz.prog gv 191 [bagV b] (i64V (cntB b)):=by
 have pP:=pure_R b
 have lP:=lenR b
 obtain⟨g1,g2⟩:=good_sum hg
 refine PTriple.of_body (C:=cx) Tryz.func191 rfl (by kernel_rfl) mixed fun E hE=>?_
 repeat' (conv=>whnf);first
  | (refine bcase_of (fun hr=>?_) (fun hr=>?_)<;>(try simp only[sl1] at hr)<;>try(exfalso;first|omega|exact hr rfl|(simp at hr;done)|(simp at hr;omega)))
  | (apply And.intro;· first|exact nd3)
  | (apply Exists.intro;apply And.intro;· first|exact rfl)
  | fail
 all_goals (conv=>whnf)
 refine VLoop.norm [0,3,6,7,8] [] ?_
 repeat' (conv=>whnf);first
  | (apply And.intro;· first|exact nd2|exact pP)
  | (apply Exists.intro;apply And.intro;· first|exact rfl)
  | fail
 refine VLoop.inv (fun i:Nat=>stCn b i) (fun i=>i≤b.length) (fun i=>b.length-i) 0 (Nat.zero_le _) (by unfold stCn;rw[←lP];rfl) ?_
 intro i hi ih
 refine VLoop.unroll hE mixed ?_
 by_cases hgo:i<b.length
 case pos=>
  have hw:IntKind.i64.wrap ((i:Int)+1)=((i+1:Nat):Int):=wrap64 (by omega) (by omega)
  obtain⟨⟨v,n⟩,hx⟩:∃x,b[i]?=some x:=⟨_,List.getElem?_eq_getElem hgo⟩
  have gi:=getRp hx
  have hs:cntB (b.take (i+1))=cntB (b.take i)+n:=by rw[take_get hx,cnt_snoc]
  have hb:=g2 i
  have hb2:=g2 (i+1)
  have hsn:IntKind.i64.wrap (cntB (b.take i)+n)=cntB (b.take (i+1)):=by rw[←hs];exact wrap64 (by omega) (by omega)
  repeat' (conv=>whnf);first
   | (refine bcase_of (fun hr=>?_) (fun hr=>?_)<;>(try simp only[sl1] at hr)<;>try(exfalso;first|omega|exact hr rfl|(simp at hr;done)|(simp at hr;omega)))
   | (apply And.intro;· first|exact nd3|exact⟨by omega,by rw[lP];omega⟩)
   | (apply Exists.intro;apply And.intro;· first|exact rfl|exact gi)
   | rw[hw]
   | rw[hsn]
   | fail
  all_goals (conv=>whnf)
  refine VLoop.norm [0,3,6,7,8] [] ?_
  repeat' (conv=>whnf);first
   | (apply And.intro;· first|exact nd2|exact pP)
   | (apply Exists.intro;apply And.intro;· first|exact rfl)
   | fail
  try rw[hw]
  try rw[hsn]
  exact ih (i+1) hgo (by omega)
 case neg=>
  have he:cntB b=cntB (b.take i):=by rw[List.take_of_length_le (by omega)]
  rw[he]
  all_goals exact kb0
theorem Count_ok (b:RL) (hl:b.length≤1000000):PTriple Tryz.prog gv 179 [bagV b] (i64V (if goodB b then cntB b else 0)):=by
 have pP:=pure_R b
 have c1:=goodB_ok b hl
 cases hg:goodB b with
 | true=>
  rw[hg] at c1
  have c2:=cnt_ok b hl hg
  refine PTriple.of_body (C:=cx) Tryz.func179 rfl (by kernel_rfl) mixed fun E hE=>?_
  repeat' (conv=>whnf);first
   | (refine bcase_of (fun hr=>?_) (fun hr=>?_)<;>(try simp only[sl1] at hr)<;>try(exfalso;first|omega|exact hr rfl|(simp at hr;done)|(simp at hr;omega)))
   | (apply And.intro;· first|exact nd3|exact pP)
   | (apply Exists.intro;apply And.intro;· first|exact rfl|exact c1|exact c2)
   | fail
  all_goals (conv=>whnf)
  all_goals rfl
 | false=>
  rw[hg] at c1
  refine PTriple.of_body (C:=cx) Tryz.func179 rfl (by kernel_rfl) mixed fun E hE=>?_
  all_goals exact kb3
theorem Count8_ok (b:RL) (hl:b.length≤1000000):PTriple Tryz.prog gv 173 [bagV b] (i64V (if goodB b then cntB b else 0)):=by
 have pP:=pure_R b
 have lP:=lenR b
 have c1:=goodB8_ok b hl
 cases hg:goodB b with
 | false=>
  rw[hg] at c1
  refine PTriple.of_body (C:=cx) Tryz.func173 rfl (by kernel_rfl) mixed fun E hE=>?_
  repeat' (conv=>whnf);first
   | (refine bcase_of (fun hr=>?_) (fun hr=>?_)<;>(try simp only[sl1] at hr)<;>try(exfalso;first|omega|exact hr rfl|(simp at hr;done)|(simp at hr;omega)))
   | (apply And.intro;· first|exact nd3)
   | (apply Exists.intro;apply And.intro;· first|exact rfl)
   | fail
  all_goals (conv=>whnf)
  refine VLoop.unroll hE mixed ?_
  all_goals exact kb3
 | true=>
 rw[hg] at c1
 obtain⟨g1,g2⟩:=good_sum hg
 refine PTriple.of_body (C:=cx) Tryz.func173 rfl (by kernel_rfl) mixed fun E hE=>?_
 repeat' (conv=>whnf);first
  | (refine bcase_of (fun hr=>?_) (fun hr=>?_)<;>(try simp only[sl1] at hr)<;>try(exfalso;first|omega|exact hr rfl|(simp at hr;done)|(simp at hr;omega)))
  | (apply And.intro;· first|exact nd3)
  | (apply Exists.intro;apply And.intro;· first|exact rfl)
  | fail
 all_goals (conv=>whnf)
 refine VLoop.norm [0,3,4] [] ?_
 repeat' (conv=>whnf);first
  | (apply And.intro;· first|exact nd2|exact pP)
  | (apply Exists.intro;apply And.intro;· first|exact rfl)
  | fail
 refine VLoop.inv (fun i:Nat=>stC8 b i) (fun i=>i≤b.length) (fun i=>b.length-i) 0 (Nat.zero_le _) rfl ?_
 intro i hi ih
 refine VLoop.unroll hE mixed ?_
 by_cases hgo:i<b.length
 case pos=>
  have hw:IntKind.i64.wrap ((i:Int)+1)=((i+1:Nat):Int):=wrap64 (by omega) (by omega)
  obtain⟨⟨v,n⟩,hx⟩:∃x,b[i]?=some x:=⟨_,List.getElem?_eq_getElem hgo⟩
  have gi:=getRp hx
  have hs:cntB (b.take (i+1))=cntB (b.take i)+n:=by rw[take_get hx,cnt_snoc]
  have hb:=g2 i
  have hb2:=g2 (i+1)
  have hsn:IntKind.i64.wrap (cntB (b.take i)+n)=cntB (b.take (i+1)):=by rw[←hs];exact wrap64 (by omega) (by omega)
  repeat' (conv=>whnf);first
   | (refine bcase_of (fun hr=>?_) (fun hr=>?_)<;>(try simp only[sl1] at hr)<;>try(exfalso;first|omega|exact hr rfl|(simp at hr;done)|(simp at hr;omega)))
   | (apply And.intro;· first|exact nd3|exact pP|exact⟨by omega,by rw[lP];omega⟩)
   | (apply Exists.intro;apply And.intro;· first|exact rfl|exact c1|exact gi)
   | rw[hw]
   | rw[hsn]
   | fail
  all_goals (conv=>whnf)
  refine VLoop.norm [0,3,4] [] ?_
  repeat' (conv=>whnf);first
   | (apply And.intro;· first|exact nd2|exact pP)
   | (apply Exists.intro;apply And.intro;· first|exact rfl)
   | fail
  try rw[hw]
  try rw[hsn]
  exact ih (i+1) hgo (by omega)
 case neg=>
  have he:cntB b=cntB (b.take i):=by rw[List.take_of_length_le (by omega)]
  rw[he]
  all_goals exact kb3
theorem part_ok (b:RL) (hl:b.length≤1000000) (h6:∀r∈b,in64 r.1∧in64 r.2):PTriple Tryz.prog gv 189 [bagV b,.nils] (wide (wsum b)):=by
 have pP:=pure_R b
 have lP:=lenR b
 refine PTriple.of_body (C:=cx) Tryz.func189 rfl (by kernel_rfl) mixed fun E hE=>?_
 repeat' (conv=>whnf);first
  | (refine bcase_of (fun hr=>?_) (fun hr=>?_)<;>(try simp only[sl1] at hr)<;>try(exfalso;first|omega|exact hr rfl|(simp at hr;done)|(simp at hr;omega)))
  | (apply And.intro;· first|exact nd3)
  | (apply Exists.intro;apply And.intro;· first|exact rfl)
  | fail
 all_goals (conv=>whnf)
 refine VLoop.norm [0,1,4,5,10,11,12] [4,5] ?_
 repeat' (conv=>whnf);first
  | (apply And.intro;· first|exact nd2|exact pP)
  | (apply Exists.intro;apply And.intro;· first|exact rfl)
  | fail
 refine VLoop.inv (fun i:Nat=>stPt b i) (fun i=>i≤b.length) (fun i=>b.length-i) 0 (Nat.zero_le _) (by unfold stPt;rw[←lP];rfl) ?_
 intro i hi ih
 refine VLoop.unroll hE mixed ?_
 by_cases hgo:i<b.length
 case pos=>
  have hw:IntKind.i64.wrap ((i:Int)+1)=((i+1:Nat):Int):=wrap64 (by omega) (by omega)
  obtain⟨⟨v,n⟩,hx⟩:∃x,b[i]?=some x:=⟨_,List.getElem?_eq_getElem hgo⟩
  have gi:=getRp hx
  obtain⟨k1,k2⟩:=h6 _ (List.mem_of_getElem? hx)
  have c:=ok113 (wsum (b.take i)) v n k1 k2
  have hs:wsum (b.take (i+1))=wsum (b.take i)+v*n:=by rw[take_get hx,wsum_snoc]
  rw[←hs] at c
  repeat' (conv=>whnf);first
   | (refine bcase_of (fun hr=>?_) (fun hr=>?_)<;>(try simp only[sl1] at hr)<;>try(exfalso;first|omega|exact hr rfl|(simp at hr;done)|(simp at hr;omega)))
   | (apply And.intro;· first|exact nd3|exact pP|exact⟨by omega,by rw[lP];omega⟩)
   | (apply Exists.intro;apply And.intro;· first|exact rfl|exact c|exact gi)
   | rw[hw]
   | fail
  all_goals (conv=>whnf)
  refine VLoop.norm [0,1,4,5,10,11,12] [4,5] ?_
  repeat' (conv=>whnf);first
   | (apply And.intro;· first|exact nd2|exact pP)
   | (apply Exists.intro;apply And.intro;· first|exact rfl)
   | fail
  try rw[hw]
  exact ih (i+1) hgo (by omega)
 case neg=>
  have he:wsum b=wsum (b.take i):=by rw[List.take_of_length_le (by omega)]
  rw[he]
  repeat' (conv=>whnf);first
   | (refine bcase_of (fun hr=>?_) (fun hr=>?_)<;>(try simp only[sl1] at hr)<;>try(exfalso;first|omega|exact hr rfl|(simp at hr;done)|(simp at hr;omega)))
   | (apply And.intro;· first|exact nd3)
   | (apply Exists.intro;apply And.intro;· first|exact rfl)
   | fail
  all_goals (conv=>whnf)
  refine VLoop.unroll hE mixed ?_
  all_goals exact kb0
theorem Sum_ok (b:RL) (hl:b.length≤1000000) (h6:∀r∈b,in64 r.1∧in64 r.2):PTriple Tryz.prog gv 178 [bagV b] (pairV (if goodB b then fit (wsum b) else(0,false))):=by
 have pP:=pure_R b
 have c1:=goodB_ok b hl
 cases hg:goodB b with
 | true=>
  rw[hg] at c1
  have c2:=part_ok b hl h6
  have hw:=wsum_128 hg (fun r hr=>(h6 r hr).1) b.length
  rw[List.take_length] at hw
  have c3:=ok100 (wsum b) (by unfold in128;omega)
  refine PTriple.of_body (C:=cx) Tryz.func178 rfl (by kernel_rfl) mixed fun E hE=>?_
  repeat' (conv=>whnf);first
   | (refine bcase_of (fun hr=>?_) (fun hr=>?_)<;>(try simp only[sl1] at hr)<;>try(exfalso;first|omega|exact hr rfl|(simp at hr;done)|(simp at hr;omega)))
   | (apply And.intro;· first|exact nd3|exact pP)
   | (apply Exists.intro;apply And.intro;· first|exact rfl|exact c1|exact c2|exact c3)
   | fail
  all_goals (conv=>whnf)
  all_goals exact pair_of hr
 | false=>
  rw[hg] at c1
  refine PTriple.of_body (C:=cx) Tryz.func178 rfl (by kernel_rfl) mixed fun E hE=>?_
  all_goals exact kb3
end Go.Proofs.YtbppemcdphgknaaGreatDoor
namespace Go.Proofs.YtbppemcdphgknaaGreatDoor
open Go Go.Vm
def magC (n:Int):List V:=[.bool (decide (n<0)),.int .u64 ((n.natAbs:Int) / 18446744073709551616),.int .u64 ((n.natAbs:Int) % 18446744073709551616)]
def stW8 (b:RL) (i:Nat):St DV:=mkSt 25 [(0,bagV b),(2,.ref (3,1) 0),(3,.ref (4,1) 0),(4,i64V i)] [(2,.box [.bool false,.int .u64 0,.int .u64 0]),(3,.box (magC (wsum (b.take i))))] []
theorem mul_abs {v n:Int} (h1:in64 v) (h2:1≤n∧n≤1099511627776):((v*n).natAbs:Int)<170141183460469231731687303715884105728:=by
 have m1:v*n≤9223372036854775808*n:=Int.mul_le_mul_of_nonneg_right (by unfold in64 at h1;omega) (by omega)
 have m2 : -9223372036854775808*n≤v*n:=Int.mul_le_mul_of_nonneg_right (by unfold in64 at h1;omega) (by omega)
 omega
theorem Wide8_ok (b:RL) (hl:b.length≤1000000) (h6:∀r∈b,in64 r.1∧in64 r.2) (hg:goodB b=true):PTriple Tryz.prog gv 168 [bagV b] (smag (wsum b)):=by
 have pP:=pure_R b
 have lP:=lenR b
 obtain⟨g1,g2⟩:=good_sum hg
 refine PTriple.of_body (C:=cx) Tryz.func168 rfl (by kernel_rfl) mixed fun E hE=>?_
 repeat' (conv=>whnf);first
  | (refine bcase_of (fun hr=>?_) (fun hr=>?_)<;>(try simp only[sl1] at hr)<;>try(exfalso;first|omega|exact hr rfl|(simp at hr;done)|(simp at hr;omega)))
  | (apply And.intro;· first|exact nd3)
  | (apply Exists.intro;apply And.intro;· first|exact rfl)
  | fail
 all_goals (conv=>whnf)
 refine VLoop.norm [0,2,3,4] [2,3] ?_
 repeat' (conv=>whnf);first
  | (apply And.intro;· first|exact nd2|exact pP)
  | (apply Exists.intro;apply And.intro;· first|exact rfl)
  | fail
 refine VLoop.inv (fun i:Nat=>stW8 b i) (fun i=>i≤b.length) (fun i=>b.length-i) 0 (Nat.zero_le _) (by unfold stW8;rw[List.take_zero];rfl) ?_
 intro i hi ih
 refine VLoop.unroll hE mixed ?_
 by_cases hgo:i<b.length
 case pos=>
  have hw:IntKind.i64.wrap ((i:Int)+1)=((i+1:Nat):Int):=wrap64 (by omega) (by omega)
  obtain⟨⟨v,n⟩,hx⟩:∃x,b[i]?=some x:=⟨_,List.getElem?_eq_getElem hgo⟩
  have gi:=getRp hx
  have hxm:=List.mem_of_getElem? hx
  obtain⟨k1,k2⟩:=h6 _ hxm
  have hw8:=wsum_128 hg (fun r hr=>(h6 r hr).1) i
  have hma:=mul_abs k1 (g1 _ hxm)
  simp only at k1 k2 hma
  have c1:=ok82 v n k1 k2
  have c2:=fun s t hs ht=>ok81 (wsum (b.take i)) (v*n) s t hs ht (by omega) hma
  have hs:wsum (b.take (i+1))=wsum (b.take i)+v*n:=by rw[take_get hx,wsum_snoc]
  rw[←hs] at c2
  repeat' (conv=>whnf);first
   | (refine bcase_of (fun hr=>?_) (fun hr=>?_)<;>(try simp only[sl1] at hr)<;>try(exfalso;first|omega|exact hr rfl|(simp at hr;done)|(simp at hr;omega)))
   | (apply And.intro;· first|exact nd3|exact pP|exact⟨by omega,by rw[lP];omega⟩)
   | (apply Exists.intro;apply And.intro;· first|exact rfl|exact c1|exact c2 _ _ rfl rfl|exact gi)
   | rw[hw]
   | fail
  all_goals (conv=>whnf)
  refine VLoop.norm [0,2,3,4] [2,3] ?_
  repeat' (conv=>whnf);first
   | (apply And.intro;· first|exact nd2|exact pP)
   | (apply Exists.intro;apply And.intro;· first|exact rfl)
   | fail
  try rw[hw]
  exact ih (i+1) hgo (by omega)
 case neg=>
  have he:wsum b=wsum (b.take i):=by rw[List.take_of_length_le (by omega)]
  rw[he]
  all_goals exact kb0
end Go.Proofs.YtbppemcdphgknaaGreatDoor
