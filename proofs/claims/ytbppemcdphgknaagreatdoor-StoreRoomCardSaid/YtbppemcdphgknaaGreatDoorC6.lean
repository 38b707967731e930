/- A part of the proofs over the seat YtbppemcdphgknaaGreatDoor. -/
import Derived.Test.YtbppemcdphgknaaGreatDoorC5
set_option linter.unusedVariables false
set_option linter.unusedSimpArgs false
set_option maxRecDepth 100000
set_option maxHeartbeats 40000000
namespace Go.Proofs.YtbppemcdphgknaaGreatDoor
open Go Go.Vm
set_option maxRecDepth 100000
set_option maxHeartbeats 40000000
set_option linter.unusedSimpArgs false
set_option linter.unusedVariables false
def cutN (ver:Int):List En→Nat
 | []=>0
 | e::r=>if e.v≤ver then cutN ver r+1 else 0
theorem gch_rise {m:Int}:∀{l:List En} {f:Bool} {v:Int} {p:Bool},gch m f v p l=true→(∀e∈l,v<e.v)∧l.Pairwise fun a b=>a.v<b.v
 | [],_,_,_,_=>⟨(fun e h=>by cases h),List.Pairwise.nil⟩
 | e::r,f,v,p,h=>by
  simp only[gch,Bool.and_eq_true,decide_eq_true_eq] at h
  obtain⟨i1,i2⟩:=gch_rise h.2
  have h1:=h.1.1.1.1
  refine⟨fun x hx=>?_,List.pairwise_cons.2 ⟨i1,i2⟩⟩
  rcases List.mem_cons.1 hx with rfl|hx
  ·exact h1
  ·have:=i1 x hx;omega
def Rise (l:List En):Prop:=l.Pairwise fun a b=>a.v<b.v
theorem good_rise {m:Int} {l:List En} (h:goodL m l=true):Rise l∧∀e∈l,1≤e.v:=by
 simp only[goodL,Bool.and_eq_true] at h
 obtain⟨h1,h2⟩:=gch_rise h.2
 exact⟨h2,fun e he=>by have:=h1 e he;omega⟩
theorem cut_le (ver:Int):∀l:List En,cutN ver l≤l.length
 | []=>Nat.le_refl _
 | e::r=>by
  have:=cut_le ver r
  simp only[cutN]
  split<;>simp<;>omega
theorem cut_spec {ver:Int}:∀{l:List En},Rise l→∀(i:Nat) (e:En),l[i]?=some e→(e.v≤ver↔i<cutN ver l)
 | [],_,i,e,h=>by simp at h
 | x::r,hr,i,e,h=>by
  have hr':=List.pairwise_cons.1 hr
  simp only[cutN]
  cases i with
  | zero=>
   simp at h;subst h
   split<;>simp<;>omega
  | succ i=>
   have h':r[i]?=some e:=by simpa using h
   have ih:=cut_spec (ver:=ver) hr'.2 i e h'
   split
   ·rw[ih];omega
   ·have:=hr'.1 e (List.mem_of_getElem? h')
    simp;omega
def stLast (l:List En) (ver:Int) (k:Nat):St DV:=mkSt 23 [(0,chV l),(1,i64V ver),(5,i64V ((k:Int)-1))] [] []
theorem last_ok (l:List En) (ver:Int) (hl:l.length≤1000000) (hr:Rise l):PTriple Tryz.prog gv 119 [chV l,i64V ver] (i64V ((cutN ver l:Int)-1)):=by
 have pL:=pure_E l
 have lL:=lenE l
 have hcl:=cut_le ver l
 have hw0:IntKind.i64.wrap (((l.map encE).length:Int)-1)=((l.length:Nat):Int)-1:=by rw[lL];exact wrap64 (by omega) (by omega)
 refine PTriple.of_body (C:=cx) Tryz.func119 rfl (by kernel_rfl) mixed fun E hE=>?_
 repeat' (conv=>whnf);first
  | (refine bcase_of (fun hr=>?_) (fun hr=>?_)<;>(try simp only[sl2] at hr)<;>try(exfalso;first|omega|exact hr rfl|(simp at hr;done)|(simp at hr;omega)))
  | (apply And.intro;· first|exact nd3|exact⟨by omega,by rw[lL];omega⟩)
  | (apply Exists.intro;apply And.intro;· first|exact rfl)
  | rw[hw0]
  | fail
 all_goals (conv=>whnf)
 refine VLoop.norm [0,1,5] [] ?_
 repeat' (conv=>whnf);first
  | (apply And.intro;· first|exact nd2|exact pL)
  | (apply Exists.intro;apply And.intro;· first|exact rfl)
  | fail
 refine VLoop.inv (fun k:Nat=>stLast l ver k) (fun k=>cutN ver l≤k∧k≤l.length) (fun k=>k) l.length ⟨hcl,Nat.le_refl _⟩ (by first|rfl|(rw[hw0];rfl)) ?_
 intro k ⟨hk1,hk2⟩ ih
 by_cases hgo:cutN ver l<k
 case pos=>
  have hw:IntKind.i64.wrap (((k:Int)-1)-1)=((k-1:Nat):Int)-1:=by rw[wrap64 (by omega) (by omega)];omega
  obtain⟨e,hx⟩:∃x,l[k-1]?=some x:=⟨_,List.getElem?_eq_getElem (by omega)⟩
  have gi:=getEc hx
  rw[show((k-1:Nat):Int)=(k:Int)-1 by omega] at gi
  have hs:=cut_spec (ver:=ver) hr (k-1) e hx
  have hev:ver<e.v:=by omega
  refine VLoop.unroll hE mixed ?_
  repeat' (conv=>whnf);first
   | (refine bcase_of (fun hr=>?_) (fun hr=>?_)<;>(try simp only[sl2] at hr)<;>try(exfalso;first|omega|exact hr rfl|(simp at hr;done)|(simp at hr;omega)))
   | (apply And.intro;· first|exact nd3|exact⟨by omega,by rw[lL];omega⟩)
   | (apply Exists.intro;apply And.intro;· first|exact rfl|exact gi)
   | rw[hw]
   | fail
  all_goals (conv=>whnf)
  refine VLoop.norm [0,1,5] [] ?_
  repeat' (conv=>whnf);first
   | (apply And.intro;· first|exact nd2|exact pL)
   | (apply Exists.intro;apply And.intro;· first|exact rfl)
   | fail
  try rw[hw]
  exact ih (k-1) ⟨by omega,by omega⟩ (by omega)
 case neg=>
  obtain rfl:k=cutN ver l:=by omega
  refine VLoop.unroll hE mixed ?_
  by_cases h0:cutN ver l=0
  ·skip
   repeat' (conv=>whnf);first
    | (refine bcase_of (fun hr=>?_) (fun hr=>?_)<;>(try simp only[sl2] at hr)<;>try(exfalso;first|omega|exact hr rfl|(simp at hr;done)|(simp at hr;omega)))
    | (apply And.intro;· first|exact nd3|exact⟨by omega,by rw[lL];omega⟩)
    | (apply Exists.intro;apply And.intro;· first|exact rfl)
    | fail
   all_goals (conv=>whnf)
   all_goals rfl
  ·obtain⟨e,hx⟩:∃x,l[cutN ver l-1]?=some x:=⟨_,List.getElem?_eq_getElem (by omega)⟩
   have gi:=getEc hx
   rw[show((cutN ver l-1:Nat):Int)=(cutN ver l:Int)-1 by omega] at gi
   have hs:=cut_spec (ver:=ver) hr _ e hx
   have hev:e.v≤ver:=by omega
   repeat' (conv=>whnf);first
    | (refine bcase_of (fun hr=>?_) (fun hr=>?_)<;>(try simp only[sl2] at hr)<;>try(exfalso;first|omega|exact hr rfl|(simp at hr;done)|(simp at hr;omega)))
    | (apply And.intro;· first|exact nd3|exact⟨by omega,by rw[lL];omega⟩)
    | (apply Exists.intro;apply And.intro;· first|exact rfl|exact gi)
    | fail
   all_goals (conv=>whnf)
   all_goals rfl
end Go.Proofs.YtbppemcdphgknaaGreatDoor
namespace Go.Proofs.YtbppemcdphgknaaGreatDoor
open Go Go.Vm
def atS (m:Int) (l:List En) (ver:Int):Option En:=match goodL m l with
 | false=>none
 | true=>match cutN ver l with
  | 0=>none
  | k+1=>match l[k]? with
   | none=>none
   | some e=>match is e.o with
    | true=>some e
    | false=>none
def atV:Option En→V
 | none=>.tup [cellV 0 0 0 [] [],.bool false]
 | some e=>.tup [cellV e.n e.a e.b e.p e.q,.bool true]
def ChIn (l:List En):Prop:=l.length≤900∧∀e∈l,EnIn e
theorem At_ok (m:Int) (l:List En) (ver:Int) (h:ChIn l):PTriple Tryz.prog gv 75 [i64V m,chV l,i64V ver] (atV (atS m l ver)):=by
 obtain⟨hl,hin⟩:=h
 have pL:=pure_E l
 have lL:=lenE l
 have cG:=goodL_ok m l (by omega) hin
 unfold atS
 cases hg:goodL m l with
 | false=>
  rw[hg] at cG
  refine PTriple.zres (b:=.bool false) ?_
  refine PTriple.of_body (C:=cx) Tryz.func75 rfl (by kernel_rfl) mixed fun E hE=>?_
  all_goals exact kb16
 | true=>
  rw[hg] at cG
  have hr:=(good_rise hg).1
  have cL:=last_ok l ver (by omega) hr
  have hcl:=cut_le ver l
  simp only
  cases hc:cutN ver l with
  | zero=>
   rw[hc] at cL
   refine PTriple.zres (b:=.bool false) ?_
   refine PTriple.of_body (C:=cx) Tryz.func75 rfl (by kernel_rfl) mixed fun E hE=>?_
   repeat' (conv=>whnf);first
    | (refine bcase_of (fun hr=>?_) (fun hr=>?_)<;>(try simp only[sl2] at hr)<;>try(exfalso;first|omega|exact hr rfl|(simp at hr;done)|(simp at hr;omega)))
    | (apply And.intro;· first|exact nd3|exact⟨by omega,by rw[lL];omega⟩|exact pL|exact pp|exact pq)
    | (apply Exists.intro;apply And.intro;· first|exact rfl|exact cG|exact cL)
    | fail
   all_goals (conv=>whnf)
   all_goals rfl
  | succ k=>
   rw[hc] at cL hcl
   rw[show((k+1:Nat):Int)-1=(k:Int) by omega] at cL
   obtain⟨e,hx⟩:∃x,l[k]?=some x:=⟨_,List.getElem?_eq_getElem (by omega)⟩
   have gi:=getEc hx
   have he:=hin e (List.mem_of_getElem? hx)
   have pp:=pure_R e.p
   have pq:=pure_R e.q
   have cI:=ok43 e.o
   have cC:=cells_ok e.n e.a e.b e.p e.q he.lp he.lq
   simp only[hx]
   cases hi:is e.o with
   | false=>
    rw[hi] at cI
    refine PTriple.zres (b:=.bool false) ?_
    refine PTriple.of_body (C:=cx) Tryz.func75 rfl (by kernel_rfl) mixed fun E hE=>?_
    repeat' (conv=>whnf);first
     | (refine bcase_of (fun hr=>?_) (fun hr=>?_)<;>(try simp only[sl2] at hr)<;>try(exfalso;first|omega|exact hr rfl|(simp at hr;done)|(simp at hr;omega)))
     | (apply And.intro;· first|exact nd3|exact⟨by omega,by rw[lL];omega⟩|exact pL|exact pp|exact pq)
     | (apply Exists.intro;apply And.intro;· first|exact rfl|exact cG|exact cL|exact cI|exact gi)
     | fail
    all_goals (conv=>whnf)
    all_goals rfl
   | true=>
    rw[hi] at cI
    refine PTriple.of_body (C:=cx) Tryz.func75 rfl (by kernel_rfl) mixed fun E hE=>?_
    repeat' (conv=>whnf);first
     | (refine bcase_of (fun hr=>?_) (fun hr=>?_)<;>(try simp only[sl2] at hr)<;>try(exfalso;first|omega|exact hr rfl|(simp at hr;done)|(simp at hr;omega)))
     | (apply And.intro;· first|exact nd3|exact⟨by omega,by rw[lL];omega⟩|exact pL|exact pp|exact pq)
     | (apply Exists.intro;apply And.intro;· first|exact rfl|exact cG|exact cL|exact cI|exact cC|exact gi)
     | fail
    all_goals (conv=>whnf)
    all_goals rfl
end Go.Proofs.YtbppemcdphgknaaGreatDoor
namespace Go.Proofs.YtbppemcdphgknaaGreatDoor
open Go Go.Vm
def undoS (m:Int) (l:List En) (ver:Int):List En:=match goodL m l with
 | false=>[]
 | true=>match l[l.length-1]? with
  | none=>l
  | some e=>if e.v=ver then l.take (l.length-1) else l
def pruneS (m:Int) (l:List En) (floor:Int):List En:=match goodL m l with
 | false=>[]
 | true=>match cutN floor l with
  | 0=>l
  | k+1=>match l[k]? with
   | none=>l
   | some e=>if e.o=3 then l.drop (k+1) else l.drop k
theorem ChIn.take {l:List En} (h:ChIn l) (k:Nat):ChIn (l.take k):=⟨by have:=h.1;simp;omega,fun e he=>h.2 e (List.mem_of_mem_take he)⟩
theorem ChIn.drop {l:List En} (h:ChIn l) (k:Nat):ChIn (l.drop k):=⟨by have:=h.1;simp;omega,fun e he=>h.2 e (List.mem_of_mem_drop he)⟩
theorem copyIn {l:List En} (h:ChIn l):PTriple Tryz.prog gv 117 [chV l] (chV l):=copy_ok l (by have:=h.1;omega) fun e he=>⟨(h.2 e he).lp,(h.2 e he).lq⟩
theorem take_enc (l:List En) (k:Nat):((l.map encE).drop 0).take (k-0)=(l.take k).map encE:=by rw[List.drop_zero,Nat.sub_zero,List.map_take]
theorem drop_enc (l:List En) (k:Nat):((l.map encE).drop k).take ((l.map encE).length-k)=(l.drop k).map encE:=by
 rw[List.take_of_length_le (by simp),List.map_drop]
theorem drop_enc2 (l:List En) (k:Nat) (a:Nat):((((l.map encE).drop k).take ((l.map encE).length-k)).drop a).take ((((l.map encE).drop k).take ((l.map encE).length-k)).length-a)=(l.drop (k+a)).map encE:=by
 rw[drop_enc,drop_enc,List.drop_drop]
theorem Undo_ok (m:Int) (l:List En) (ver:Int) (h:ChIn l):PTriple Tryz.prog gv 81 [i64V m,chV l,i64V ver] (chV (undoS m l ver)):=by
 have hl:=h.1
 have pL:=pure_E l
 have lL:=lenE l
 have cG:=goodL_ok m l (by omega) h.2
 unfold undoS
 cases hg:goodL m l with
 | false=>
  rw[hg] at cG
  refine PTriple.to_lst ?_
  refine PTriple.of_body (C:=cx) Tryz.func81 rfl (by kernel_rfl) mixed fun E hE=>?_
  all_goals exact kb16
 | true=>
  rw[hg] at cG
  simp only
  have hw0:IntKind.i64.wrap (((l.map encE).length:Int)-1)=((l.length:Nat):Int)-1:=by rw[lL];exact wrap64 (by omega) (by omega)
  cases hx:l[l.length-1]? with
  | none=>
   have hn:l.length=0:=by
    rcases Nat.eq_zero_or_pos l.length with h0|h0
    ·exact h0
    ·rw[List.getElem?_eq_getElem (by omega)] at hx;cases hx
   have cC:=copyIn h
   refine PTriple.of_body (C:=cx) Tryz.func81 rfl (by kernel_rfl) mixed fun E hE=>?_
   repeat' (conv=>whnf);first
    | (refine bcase_of (fun hr=>?_) (fun hr=>?_)<;>(try simp only[sl2] at hr)<;>try(exfalso;first|omega|exact hr rfl|(simp at hr;done)|(simp at hr;omega)))
    | (apply And.intro;· first|exact nd3|exact⟨by omega,by rw[lL];omega⟩|exact pL|exact pp|exact pq)
    | (apply Exists.intro;apply And.intro;· first|exact rfl|exact cG|exact cC)
    | rw[hw0]
    | fail
   all_goals (conv=>whnf)
   all_goals rfl
  | some e=>
   have hlt:=(List.getElem?_eq_some_iff.1 hx).1
   have gi:=getEc hx
   rw[show((l.length-1:Nat):Int)=(l.length:Int)-1 by omega] at gi
   simp only
   by_cases hv:e.v=ver
   ·rw[if_pos hv]
    have cC:=copyIn (h.take (l.length-1))
    have hN:((l.length:Int)-1).toNat=l.length-1:=by omega
    have e1:((l.map encE).drop 0).take (((l.length:Int)-1).toNat-0)=(l.take (l.length-1)).map encE:=by rw[hN];exact take_enc l _
    have p1:PureEs (((l.map encE).drop 0).take (((l.length:Int)-1).toNat-0)):=by rw[e1];exact pure_E _
    have cC2:PTriple Tryz.prog gv 117 [.lst 7 (((l.map encE).drop 0).take (((l.length:Int)-1).toNat-0))] (chV (l.take (l.length-1))):=by rw[e1];exact cC
    refine PTriple.of_body (C:=cx) Tryz.func81 rfl (by kernel_rfl) mixed fun E hE=>?_
    repeat' (conv=>whnf);first
     | (refine bcase_of (fun hr=>?_) (fun hr=>?_)<;>(try simp only[sl2] at hr)<;>try(exfalso;first|omega|exact hr rfl|(simp at hr;done)|(simp at hr;omega)))
     | (apply And.intro;· first|exact nd3|exact⟨by omega,by rw[lL];omega⟩|exact pL|exact pp|exact pq|exact p1|exact pure_E _|exact⟨by omega,by rw[lL];omega⟩)
     | (apply Exists.intro;apply And.intro;· first|exact rfl|exact cG|exact cC2|exact gi)
     | rw[hw0]
     | fail
    all_goals (conv=>whnf)
    all_goals rfl
   ·rw[if_neg hv]
    have cC:=copyIn h
    refine PTriple.of_body (C:=cx) Tryz.func81 rfl (by kernel_rfl) mixed fun E hE=>?_
    repeat' (conv=>whnf);first
     | (refine bcase_of (fun hr=>?_) (fun hr=>?_)<;>(try simp only[sl2] at hr)<;>try(exfalso;first|omega|exact hr rfl|(simp at hr;done)|(simp at hr;omega)))
     | (apply And.intro;· first|exact nd3|exact⟨by omega,by rw[lL];omega⟩|exact pL|exact pp|exact pq)
     | (apply Exists.intro;apply And.intro;· first|exact rfl|exact cG|exact cC|exact gi)
     | rw[hw0]
     | fail
    all_goals (conv=>whnf)
    all_goals rfl
theorem Prune_ok (m:Int) (l:List En) (floor:Int) (h:ChIn l):PTriple Tryz.prog gv 113 [i64V m,chV l,i64V floor] (chV (pruneS m l floor)):=by
 have hl:=h.1
 have pL:=pure_E l
 have lL:=lenE l
 have cG:=goodL_ok m l (by omega) h.2
 have hcl:=cut_le floor l
 unfold pruneS
 cases hg:goodL m l with
 | false=>
  rw[hg] at cG
  refine PTriple.to_lst ?_
  refine PTriple.of_body (C:=cx) Tryz.func113 rfl (by kernel_rfl) mixed fun E hE=>?_
  all_goals exact kb16
 | true=>
  rw[hg] at cG
  have cL:=last_ok l floor (by omega) (good_rise hg).1
  simp only
  cases hc:cutN floor l with
  | zero=>
   rw[hc] at cL
   have cC:=copyIn h
   refine PTriple.of_body (C:=cx) Tryz.func113 rfl (by kernel_rfl) mixed fun E hE=>?_
   repeat' (conv=>whnf);first
    | (refine bcase_of (fun hr=>?_) (fun hr=>?_)<;>(try simp only[sl2] at hr)<;>try(exfalso;first|omega|exact hr rfl|(simp at hr;done)|(simp at hr;omega)))
    | (apply And.intro;· first|exact nd3|exact⟨by omega,by rw[lL];omega⟩|exact pL|exact pp|exact pq)
    | (apply Exists.intro;apply And.intro;· first|exact rfl|exact cG|exact cL|exact cC)
    | fail
   all_goals (conv=>whnf)
   all_goals rfl
  | succ k=>
   rw[hc] at cL hcl
   rw[show((k+1:Nat):Int)-1=(k:Int) by omega] at cL
   obtain⟨e,hx⟩:∃x,l[k]?=some x:=⟨_,List.getElem?_eq_getElem (by omega)⟩
   have gi:=getEc hx
   simp only[hx]
   have hw:IntKind.i64.wrap ((k:Int)+1)=((k+1:Nat):Int):=wrap64 (by omega) (by omega)
   have e1:((l.map encE).drop k).take ((l.map encE).length-k)=(l.drop k).map encE:=drop_enc l k
   have e1':((l.map encE).drop (k+1)).take ((l.map encE).length-(k+1))=(l.drop (k+1)).map encE:=drop_enc l (k+1)
   have e2:=drop_enc2 l k 1
   have p1:PureEs (((l.map encE).drop k).take ((l.map encE).length-k)):=by rw[e1];exact pure_E _
   have p2:PureEs (((((l.map encE).drop k).take ((l.map encE).length-k)).drop 1).take ((((l.map encE).drop k).take ((l.map encE).length-k)).length-1)):=by rw[e2];exact pure_E _
   have p1':PureEs (((l.map encE).drop (k+1)).take ((l.map encE).length-(k+1))):=by rw[e1'];exact pure_E _
   have l1:(((l.map encE).drop k).take ((l.map encE).length-k)).length=l.length-k:=by rw[e1];simp
   have hI0:(0:Int)<((((l.map encE).drop k).take ((l.map encE).length-k)).length:Int):=by rw[l1];omega
   have g0:lget (((l.map encE).drop k).take ((l.map encE).length-k)) (0:Int).toNat=some [i64V e.v,i64V e.o,i64V e.n,i64V e.a,i64V e.b,bagV e.p,bagV e.q]:=by
    rw[e1]
    exact getEc (i:=0) (by rw[List.getElem?_drop];exact hx)
   have c1:PTriple Tryz.prog gv 117 [.lst 7 (((l.map encE).drop k).take ((l.map encE).length-k))] (chV (l.drop k)):=by rw[e1];exact copyIn (h.drop k)
   have c2:PTriple Tryz.prog gv 117 [.lst 7 (((((l.map encE).drop k).take ((l.map encE).length-k)).drop 1).take ((((l.map encE).drop k).take ((l.map encE).length-k)).length-1))] (chV (l.drop (k+1))):=by rw[e2];exact copyIn (h.drop (k+1))
   by_cases ho:e.o=3
   ·rw[if_pos ho]
    refine PTriple.of_body (C:=cx) Tryz.func113 rfl (by kernel_rfl) mixed fun E hE=>?_
    repeat' (conv=>whnf);first
     | (refine bcase_of (fun hr=>?_) (fun hr=>?_)<;>(try simp only[sl2] at hr)<;>try(exfalso;first|omega|exact hr rfl|(simp at hr;done)|(simp at hr;omega)))
     | (apply And.intro;· first|exact nd3|exact⟨by omega,by rw[lL];omega⟩|exact pL|exact pp|exact pq|exact p1|exact p2|exact p1'|exact pure_E _|exact⟨by decide,hI0⟩)
     | (apply Exists.intro;apply And.intro;· first|exact rfl|exact cG|exact cL|exact c1|exact c2|exact gi|exact g0)
     | rw[hw]
     | fail
    all_goals (conv=>whnf)
    all_goals rfl
   ·rw[if_neg ho]
    refine PTriple.of_body (C:=cx) Tryz.func113 rfl (by kernel_rfl) mixed fun E hE=>?_
    repeat' (conv=>whnf);first
     | (refine bcase_of (fun hr=>?_) (fun hr=>?_)<;>(try simp only[sl2] at hr)<;>try(exfalso;first|omega|exact hr rfl|(simp at hr;done)|(simp at hr;omega)))
     | (apply And.intro;· first|exact nd3|exact⟨by omega,by rw[lL];omega⟩|exact pL|exact pp|exact pq|exact p1|exact p2|exact p1'|exact pure_E _|exact⟨by decide,hI0⟩)
     | (apply Exists.intro;apply And.intro;· first|exact rfl|exact cG|exact cL|exact c1|exact gi|exact g0)
     | rw[hw]
     | fail
    all_goals (conv=>whnf)
    all_goals rfl
end Go.Proofs.YtbppemcdphgknaaGreatDoor
