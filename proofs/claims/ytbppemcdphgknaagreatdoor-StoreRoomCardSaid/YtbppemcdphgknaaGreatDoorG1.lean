/- A part of the proofs over the seat YtbppemcdphgknaaGreatDoor. -/
import Derived.Test.YtbppemcdphgknaaGreatDoorT1
set_option linter.unusedVariables false
set_option linter.unusedSimpArgs false
set_option maxRecDepth 100000
set_option maxHeartbeats 40000000
namespace Go.Proofs.YtbppemcdphgknaaGreatDoor
open Go Go.Vm
set_option maxRecDepth 100000
set_option maxHeartbeats 40000000
set_option linter.unusedSimpArgs false
set_option linter.unusedVariables false
structure Dm where
 s:List Int
 u:List (List Int)
structure Ct where
 d:List Dm
 m:Int
def encN (n:Int):List V:=[i64V n]
abbrev NR (l:List Int):List (List V):=l.map encN
abbrev nlV (l:List Int):V:=.lst 1 (NR l)
def encU (l:List Int):List V:=[nlV l]
abbrev UR (u:List (List Int)):List (List V):=u.map encU
abbrev encD (d:Dm):List V:=[nlV d.s,.lst 1 (UR d.u)]
abbrev dmV (d:Dm):V:=.agg (encD d)
abbrev DR (l:List Dm):List (List V):=l.map encD
abbrev encC (c:Ct):List V:=[.lst 2 (DR c.d),i64V c.m]
abbrev ctV (c:Ct):V:=.agg (encC c)
theorem pure_N (l:List Int):PureEs (NR l):=fun e he v hv=>by
 obtain⟨x,_,rfl⟩:=List.mem_map.1 he
 rw[List.mem_singleton.1 hv]
 exact .int _ _
theorem pure_U (u:List (List Int)):PureEs (UR u):=fun e he v hv=>by
 obtain⟨x,_,rfl⟩:=List.mem_map.1 he
 rw[List.mem_singleton.1 hv]
 exact .lst (pure_N x)
theorem pure_D (l:List Dm):PureEs (DR l):=fun e he v hv=>by
 obtain⟨x,_,rfl⟩:=List.mem_map.1 he
 rcases List.mem_cons.1 hv with rfl|hv
 ·exact .lst (pure_N _)
 ·rw[List.mem_singleton.1 hv];exact .lst (pure_U _)
theorem lenN (l:List Int):(NR l).length=l.length:=by simp
theorem lenU (u:List (List Int)):(UR u).length=u.length:=by simp
theorem lenD (l:List Dm):(DR l).length=l.length:=by simp
theorem getNl {l:List Int} {i:Nat} {n:Int} (h:l[i]?=some n):lget (NR l) ((i:Int)).toNat=some [i64V n]:=by
 rw[lget_eq,Int.toNat_natCast,List.getElem?_map,h];rfl
theorem getUl {u:List (List Int)} {i:Nat} {l:List Int} (h:u[i]?=some l):lget (UR u) ((i:Int)).toNat=some [nlV l]:=by
 rw[lget_eq,Int.toNat_natCast,List.getElem?_map,h];rfl
theorem getDl {u:List Dm} {i:Nat} {d:Dm} (h:u[i]?=some d):lget (DR u) ((i:Int)).toNat=some (encD d):=by
 rw[lget_eq,Int.toNat_natCast,List.getElem?_map,h];rfl
def allF (p:Nat→Bool):Nat→Nat→Bool
 | _,0=>true
 | k,m+1=>p k&&allF p (k+1) m
theorem allF_no {p:Nat→Bool} {k m:Nat} {R:Bool} (h:allF p k (m+1)=R) (hp:p k=false):R=false:=by rw[←h,allF,hp];rfl
theorem allF_go {p:Nat→Bool} {k m:Nat} {R:Bool} (h:allF p k (m+1)=R) (hp:p k=true):allF p (k+1) m=R:=by rw[←h,allF,hp];rfl
theorem allF_at {p:Nat→Bool}:∀{m k:Nat},allF p k m=true→∀i,k≤i→i<k+m→p i=true
 | 0,k,_,i,h1,h2=>by omega
 | m+1,k,h,i,h1,h2=>by
  rw[allF,Bool.and_eq_true] at h
  by_cases hi:i=k
  ·rw[hi];exact h.1
  ·exact allF_at h.2 i (by omega) (by omega)
def inR (a b n:Int):Bool:=decide (a≤n∧n≤b)
theorem inR_t {a b n:Int} (h:inR a b n=true):a≤n∧n≤b:=of_decide_eq_true h
theorem inR_f {a b n:Int} (h:inR a b n=false):¬(a≤n∧n≤b):=of_decide_eq_false h
theorem btw109 (n a b:Int):PTriple Tryz.prog gv 109 [i64V n,i64V a,i64V b] (.bool (inR a b n)):=by
 cases h:inR a b n with
 | true=>
  replace h:=inR_t h
  refine PTriple.of_body (C:=cx) Tryz.func109 rfl (by kernel_rfl) mixed fun E hE=>?_
  all_goals exact kb26
 | false=>
  replace h:=inR_f h
  refine PTriple.of_body (C:=cx) Tryz.func109 rfl (by kernel_rfl) mixed fun E hE=>?_
  all_goals exact kb26
theorem btw169 (n a b:Int):PTriple Tryz.prog gv 169 [i64V n,i64V a,i64V b] (.bool (inR a b n)):=by
 cases h:inR a b n with
 | true=>
  replace h:=inR_t h
  refine PTriple.of_body (C:=cx) Tryz.func169 rfl (by kernel_rfl) mixed fun E hE=>?_
  all_goals exact kb26
 | false=>
  replace h:=inR_f h
  refine PTriple.of_body (C:=cx) Tryz.func169 rfl (by kernel_rfl) mixed fun E hE=>?_
  all_goals exact kb26
theorem btw171 (n a b:Int):PTriple Tryz.prog gv 171 [i64V n,i64V a,i64V b] (.bool (inR a b n)):=by
 cases h:inR a b n with
 | true=>
  replace h:=inR_t h
  refine PTriple.of_body (C:=cx) Tryz.func171 rfl (by kernel_rfl) mixed fun E hE=>?_
  all_goals exact kb26
 | false=>
  replace h:=inR_f h
  refine PTriple.of_body (C:=cx) Tryz.func171 rfl (by kernel_rfl) mixed fun E hE=>?_
  all_goals exact kb26
def upL (next:Int) (l:List Int) (k:Nat):Bool:=match l[k]? with
 | some m=>inR 0 (next-1) m
 | none=>false
def upP (l:List Int) (a b:Int):Bool:=decide ((l.length:Int)=a)&&allF (upL b l) 0 l.length
def stUp (l:List Int) (b:Int) (k:Nat):St DV:=mkSt 25 [(2,i64V b),(13,nlV l),(14,i64V (NR l).length),(15,i64V k)] [] []
theorem up186 (l:List Int) (a b:Int) (hb:1≤b∧b≤40) (hl:l.length≤1000):PTriple Tryz.prog gv 186 [nlV l,i64V a,i64V b] (.bool (upP l a b)):=by
 have n0:=pure_N l
 have l0:=lenN l
 have hw0:IntKind.i64.wrap (b-1)=b-1:=wrap64 (by omega) (by omega)
 by_cases ha:(l.length:Int)=a
 case neg=>
  have:upP l a b=false:=by simp[upP,ha]
  rw[this]
  refine PTriple.of_body (C:=cx) Tryz.func186 rfl (by kernel_rfl) mixed fun E hE=>?_
  repeat' (conv=>whnf);first
   | (refine bcase_of (fun hr=>?_) (fun hr=>?_)<;>(try simp only[bs] at hr)<;>try(exfalso;first|omega|(simp at hr;done)))
   | (apply And.intro;· first|(show indep _ _=true;kernel_rfl)|exact n0|exact⟨by omega,by omega⟩|(show Nat.beq _ _=false;rfl)|exact nd12)
   | (apply Exists.intro;apply And.intro;· first|exact rfl)
   | rw[hw0]
   | fail
  all_goals (conv=>whnf)
  all_goals rfl
 case pos=>
 obtain⟨R,hR⟩:∃R,allF (upL b l) 0 l.length=R:=⟨_,rfl⟩
 have:upP l a b=R:=by rw[←hR];simp[upP,ha]
 rw[this]
 refine PTriple.of_body (C:=cx) Tryz.func186 rfl (by kernel_rfl) mixed fun E hE=>?_
 repeat' (conv=>whnf);first
  | (refine bcase_of (fun hr=>?_) (fun hr=>?_)<;>(try simp only[bs] at hr)<;>try(exfalso;first|omega|(simp at hr;done)))
  | (apply And.intro;· first|(show indep _ _=true;kernel_rfl)|exact n0|exact⟨by omega,by omega⟩|(show Nat.beq _ _=false;rfl)|exact nd12)
  | (apply Exists.intro;apply And.intro;· first|exact rfl)
  | rw[hw0]
  | fail
 all_goals (conv=>whnf)
 refine VLoop.norm [2,13,14,15] [] ?_
 repeat' (conv=>whnf);first
  | (refine bcase_of (fun hr=>?_) (fun hr=>?_)<;>(try simp only[bs] at hr)<;>try(exfalso;first|omega|(simp at hr;done)))
  | (apply And.intro;· first|(show indep _ _=true;kernel_rfl)|exact n0|exact⟨by omega,by omega⟩|(show Nat.beq _ _=false;rfl)|exact nd12)
  | (apply Exists.intro;apply And.intro;· first|exact rfl)
  | rw[hw0]
  | fail
 all_goals (conv=>whnf)
 refine VLoop.inv (fun z:Nat×Nat=>stUp l b z.1) (fun z=>z.1+z.2=l.length∧allF (upL b l) z.1 z.2=R) (fun z=>z.2) (0,l.length) ⟨by simp only;omega,hR⟩ rfl ?_
 rintro⟨k,m⟩ ⟨hk,hr⟩ ih
 simp only at hk hr ih
 have hw:IntKind.i64.wrap ((k:Int)+1)=((k+1:Nat):Int):=wrap64 (by omega) (by omega)
 refine VLoop.unroll hE mixed ?_
 cases m with
 | zero=>
  obtain rfl:R=true:=hr.symm
  repeat' (conv=>whnf);first
   | (refine bcase_of (fun hr=>?_) (fun hr=>?_)<;>(try simp only[bs] at hr)<;>try(exfalso;first|omega|(simp at hr;done)))
   | (apply And.intro;· first|(show indep _ _=true;kernel_rfl)|exact n0|exact⟨by omega,by omega⟩|(show Nat.beq _ _=false;rfl)|exact nd12)
   | (apply Exists.intro;apply And.intro;· first|exact rfl)
   | rw[hw0]
   | rw[hw]
   | fail
  all_goals (conv=>whnf)
  all_goals rfl
 | succ m=>
  obtain⟨e,he⟩:∃e,l[k]?=some e:=⟨_,List.getElem?_eq_getElem (by omega)⟩
  have gi:=getNl he
  have c0:=btw171 e 0 (b-1)
  have hp:upL b l k=inR 0 (b-1) e:=by unfold upL;rw[he]
  cases hc:inR 0 (b-1) e with
  | false=>
   obtain rfl:=allF_no hr (hp.trans hc)
   rw[hc] at c0
   repeat' (conv=>whnf);first
    | (refine bcase_of (fun hr=>?_) (fun hr=>?_)<;>(try simp only[bs] at hr)<;>try(exfalso;first|omega|(simp at hr;done)))
    | (apply And.intro;· first|(show indep _ _=true;kernel_rfl)|exact n0|exact⟨by omega,by omega⟩|(show Nat.beq _ _=false;rfl)|exact nd12)
    | (apply Exists.intro;apply And.intro;· first|exact rfl|exact gi|exact c0)
    | rw[hw0]
    | rw[hw]
    | fail
   all_goals (conv=>whnf)
   all_goals rfl
  | true=>
   have hr2:=allF_go hr (hp.trans hc)
   rw[hc] at c0
   repeat' (conv=>whnf);first
    | (refine bcase_of (fun hr=>?_) (fun hr=>?_)<;>(try simp only[bs] at hr)<;>try(exfalso;first|omega|(simp at hr;done)))
    | (apply And.intro;· first|(show indep _ _=true;kernel_rfl)|exact n0|exact⟨by omega,by omega⟩|(show Nat.beq _ _=false;rfl)|exact nd12)
    | (apply Exists.intro;apply And.intro;· first|exact rfl|exact gi|exact c0)
    | rw[hw0]
    | rw[hw]
    | fail
   all_goals (conv=>whnf)
   all_goals refine VLoop.norm [2,13,14,15] [] ?_
   repeat' (conv=>whnf);first
    | (refine bcase_of (fun hr=>?_) (fun hr=>?_)<;>(try simp only[bs] at hr)<;>try(exfalso;first|omega|(simp at hr;done)))
    | (apply And.intro;· first|(show indep _ _=true;kernel_rfl)|exact n0|exact⟨by omega,by omega⟩|(show Nat.beq _ _=false;rfl)|exact nd12)
    | (apply Exists.intro;apply And.intro;· first|exact rfl|exact gi|exact c0)
    | rw[hw0]
    | rw[hw]
    | fail
   all_goals (conv=>whnf)
   all_goals exact ih (k+1,m) ⟨by simp only;omega,hr2⟩ (by simp only;omega)
end Go.Proofs.YtbppemcdphgknaaGreatDoor
namespace Go.Proofs.YtbppemcdphgknaaGreatDoor
open Go Go.Vm
def szL (d:Dm) (k:Nat):Bool:=match d.s[k]? with
 | some n=>inR 1 40 n
 | none=>false
def upK (d:Dm) (k:Nat):Bool:=match d.u[k]?,d.s[k]?,d.s[k+1]? with
 | some l,some a,some b=>upP l a b
 | _,_,_=>false
def goodD (d:Dm):Bool:=inR 1 4 d.s.length&&(decide ((d.u.length:Int)=d.s.length-1)&&(allF (szL d) 0 d.s.length&&allF (upK d) 0 d.u.length))
structure DmIn (d:Dm):Prop where
 s:d.s.length≤10
 u:d.u.length≤10
 l:∀l∈d.u,l.length≤60
def stH1 (d:Dm) (k:Nat):St DV:=mkSt 57 [(1,.ref (2,1) 0),(22,nlV d.s),(23,i64V (NR d.s).length),(24,i64V k)] [(1,.box (encD d))] []
def stH2 (d:Dm) (k:Nat):St DV:=mkSt 57 [(1,.ref (2,1) 0),(34,i64V (UR d.u).length),(35,i64V k)] [(1,.box (encD d))] []
theorem good170 (d:Dm) (hd:DmIn d):PTriple Tryz.prog gv 170 [dmV d] (.bool (goodD d)):=by
 have n0:=pure_N d.s
 have n1:=pure_U d.u
 have l0:=lenN d.s
 have l1:=lenU d.u
 have h10:=hd.s
 have h11:=hd.u
 have hw0:IntKind.i64.wrap (((NR d.s).length:Int)-1)=((NR d.s).length:Int)-1:=wrap64 (by omega) (by omega)
 have c0:=btw171 (NR d.s).length 1 4
 rw[show inR 1 4 ((NR d.s).length:Int)=inR 1 4 d.s.length by rw[l0]] at c0
 cases h1:inR 1 4 d.s.length with
 | false=>
  rw[h1] at c0
  have:goodD d=false:=by unfold goodD;rw[h1];rfl
  rw[this]
  refine PTriple.of_body (C:=cx) Tryz.func170 rfl (by kernel_rfl) mixed fun E hE=>?_
  all_goals exact kb27
 | true=>
 rw[h1] at c0
 replace h1:=inR_t h1
 by_cases h2:(d.u.length:Int)=d.s.length-1
 case neg=>
  have:goodD d=false:=by unfold goodD;rw[decide_eq_false h2];simp
  rw[this]
  refine PTriple.of_body (C:=cx) Tryz.func170 rfl (by kernel_rfl) mixed fun E hE=>?_
  all_goals exact kb27
 case pos=>
 obtain⟨R1,hR1⟩:∃R,allF (szL d) 0 d.s.length=R:=⟨_,rfl⟩
 obtain⟨R2,hR2⟩:∃R,allF (upK d) 0 d.u.length=R:=⟨_,rfl⟩
 have hR:goodD d=(R1&&R2):=by unfold goodD;rw[decide_eq_true h2,hR1,hR2,show inR 1 4 d.s.length=true from decide_eq_true h1];rfl
 rw[hR]
 refine PTriple.of_body (C:=cx) Tryz.func170 rfl (by kernel_rfl) mixed fun E hE=>?_
 repeat' (conv=>whnf);first
  | (refine bcase_of (fun hr=>?_) (fun hr=>?_)<;>(try simp only[bs] at hr)<;>try(exfalso;first|omega|(simp at hr;done)))
  | (apply And.intro;· first|(show indep _ _=true;kernel_rfl)|exact n0|exact n1|exact n2|exact⟨by omega,by omega⟩|(show Nat.beq _ _=false;rfl)|exact nd12)
  | (apply Exists.intro;apply And.intro;· first|exact rfl|exact c0|exact c1|exact gi|exact gl|exact ga|exact gb)
  | rw[hw0]
  | fail
 all_goals (conv=>whnf)
 refine VLoop.norm [1,22,23,24] [1] ?_
 repeat' (conv=>whnf);first
  | (refine bcase_of (fun hr=>?_) (fun hr=>?_)<;>(try simp only[bs] at hr)<;>try(exfalso;first|omega|(simp at hr;done)))
  | (apply And.intro;· first|(show indep _ _=true;kernel_rfl)|exact n0|exact n1|exact n2|exact⟨by omega,by omega⟩|(show Nat.beq _ _=false;rfl)|exact nd12)
  | (apply Exists.intro;apply And.intro;· first|exact rfl|exact c0|exact c1|exact gi|exact gl|exact ga|exact gb)
  | rw[hw0]
  | fail
 all_goals (conv=>whnf)
 refine VLoop.inv (fun z:Nat×Nat=>stH1 d z.1) (fun z=>z.1+z.2=d.s.length∧allF (szL d) z.1 z.2=R1) (fun z=>z.2) (0,d.s.length) ⟨by simp only;omega,hR1⟩ rfl ?_
 rintro⟨k,m⟩ ⟨hk,hr⟩ ih
 simp only at hk hr ih
 have hw:IntKind.i64.wrap ((k:Int)+1)=((k+1:Nat):Int):=wrap64 (by omega) (by omega)
 refine VLoop.unroll hE mixed ?_
 cases m with
 | succ m=>
  obtain⟨e,he⟩:∃e,d.s[k]?=some e:=⟨_,List.getElem?_eq_getElem (by omega)⟩
  have gi:=getNl he
  have c1:=btw171 e 1 40
  have hp:szL d k=inR 1 40 e:=by unfold szL;rw[he]
  cases hc:inR 1 40 e with
  | false=>
   obtain rfl:=allF_no hr (hp.trans hc)
   rw[hc] at c1
   all_goals exact kb28
  | true=>
   have hr2:=allF_go hr (hp.trans hc)
   rw[hc] at c1
   repeat' (conv=>whnf);first
    | (refine bcase_of (fun hr=>?_) (fun hr=>?_)<;>(try simp only[bs] at hr)<;>try(exfalso;first|omega|(simp at hr;done)))
    | (apply And.intro;· first|(show indep _ _=true;kernel_rfl)|exact n0|exact n1|exact n2|exact⟨by omega,by omega⟩|(show Nat.beq _ _=false;rfl)|exact nd12)
    | (apply Exists.intro;apply And.intro;· first|exact rfl|exact c0|exact c1|exact gi|exact gl|exact ga|exact gb)
    | rw[hw0]
    | rw[hw]
    | fail
   all_goals (conv=>whnf)
   all_goals refine VLoop.norm [1,22,23,24] [1] ?_
   all_goals exact kb29
 | zero=>
  obtain rfl:R1=true:=hr.symm
  repeat' (conv=>whnf);first
   | (refine bcase_of (fun hr=>?_) (fun hr=>?_)<;>(try simp only[bs] at hr)<;>try(exfalso;first|omega|(simp at hr;done)))
   | (apply And.intro;· first|(show indep _ _=true;kernel_rfl)|exact n0|exact n1|exact n2|exact⟨by omega,by omega⟩|(show Nat.beq _ _=false;rfl)|exact nd12)
   | (apply Exists.intro;apply And.intro;· first|exact rfl|exact c0|exact c1|exact gi|exact gl|exact ga|exact gb)
   | rw[hw0]
   | rw[hw]
   | fail
  all_goals (conv=>whnf)
  refine VLoop.norm [1,34,35] [1] ?_
  repeat' (conv=>whnf);first
   | (refine bcase_of (fun hr=>?_) (fun hr=>?_)<;>(try simp only[bs] at hr)<;>try(exfalso;first|omega|(simp at hr;done)))
   | (apply And.intro;· first|(show indep _ _=true;kernel_rfl)|exact n0|exact n1|exact n2|exact⟨by omega,by omega⟩|(show Nat.beq _ _=false;rfl)|exact nd12)
   | (apply Exists.intro;apply And.intro;· first|exact rfl|exact c0|exact c1|exact gi|exact gl|exact ga|exact gb)
   | rw[hw0]
   | rw[hw]
   | fail
  all_goals (conv=>whnf)
  clear ih
  refine VLoop.inv (fun z:Nat×Nat=>stH2 d z.1) (fun z=>z.1+z.2=d.u.length∧allF (upK d) z.1 z.2=R2) (fun z=>z.2) (0,d.u.length) ⟨by simp only;omega,hR2⟩ rfl ?_
  rintro⟨k,m⟩ ⟨hk,hr⟩ ih
  simp only at hk hr ih
  have hw:IntKind.i64.wrap ((k:Int)+1)=((k+1:Nat):Int):=wrap64 (by omega) (by omega)
  refine VLoop.unroll hE mixed ?_
  cases m with
  | zero=>
   obtain rfl:R2=true:=hr.symm
   all_goals exact kb28
  | succ m=>
   obtain⟨l,hl⟩:∃e,d.u[k]?=some e:=⟨_,List.getElem?_eq_getElem (by omega)⟩
   obtain⟨a,ha⟩:∃e,d.s[k]?=some e:=⟨_,List.getElem?_eq_getElem (by omega)⟩
   obtain⟨b,hb⟩:∃e,d.s[k+1]?=some e:=⟨_,List.getElem?_eq_getElem (by omega)⟩
   have gl:=getUl hl
   have ga:=getNl ha
   have gb:=getNl hb
   have hb2:1≤b∧b≤40:=by
    have:=allF_at hR1 (k+1) (by omega) (by omega)
    unfold szL at this;rw[hb] at this
    exact inR_t this
   have c1:=up186 l a b hb2 (by have:=hd.l l (List.mem_of_getElem? hl);omega)
   have n2:=pure_N l
   have hp:upK d k=upP l a b:=by unfold upK;rw[hl,ha,hb]
   cases hc:upP l a b with
   | false=>
    obtain rfl:=allF_no hr (hp.trans hc)
    rw[hc] at c1
    all_goals exact kb28
   | true=>
    have hr2:=allF_go hr (hp.trans hc)
    rw[hc] at c1
    repeat' (conv=>whnf);first
     | (refine bcase_of (fun hr=>?_) (fun hr=>?_)<;>(try simp only[bs] at hr)<;>try(exfalso;first|omega|(simp at hr;done)))
     | (apply And.intro;· first|(show indep _ _=true;kernel_rfl)|exact n0|exact n1|exact n2|exact⟨by omega,by omega⟩|(show Nat.beq _ _=false;rfl)|exact nd12)
     | (apply Exists.intro;apply And.intro;· first|exact rfl|exact c0|exact c1|exact gi|exact gl|exact ga|exact gb)
     | rw[hw0]
     | rw[hw]
     | fail
    all_goals (conv=>whnf)
    all_goals refine VLoop.norm [1,34,35] [1] ?_
    all_goals exact kb29
end Go.Proofs.YtbppemcdphgknaaGreatDoor
namespace Go.Proofs.YtbppemcdphgknaaGreatDoor
open Go Go.Vm
def sizeD (d:Dm) (lev:Int):Int:=if goodD d=true∧0≤lev∧lev≤d.s.length then(if lev=d.s.length then 1 else(d.s[lev.toNat]?).getD 0) else 0
theorem size_no {d:Dm} {lev:Int} (h:¬(goodD d=true∧0≤lev∧lev≤d.s.length)):sizeD d lev=0:=if_neg h
theorem size_one {d:Dm} {lev:Int} (h:goodD d=true) (hl:lev=d.s.length):sizeD d lev=1:=by unfold sizeD;rw[if_pos ⟨h,by omega,by omega⟩,if_pos hl]
theorem size_at {d:Dm} {k:Nat} {n:Int} (h:goodD d=true) (hl:d.s[k]?=some n):sizeD d k=n:=by
 have hk:=(List.getElem?_eq_some_iff.1 hl).1
 unfold sizeD;rw[if_pos ⟨h,by omega,by omega⟩,if_neg (by omega),Int.toNat_natCast,hl];rfl
theorem size141 (d:Dm) (hd:DmIn d) (lev:Int):PTriple Tryz.prog gv 141 [dmV d,i64V lev] (i64V (sizeD d lev)):=by
 have n0:=pure_N d.s
 have n1:=pure_U d.u
 have l0:=lenN d.s
 have h10:=hd.s
 have c0:=good170 d hd
 cases hg:goodD d with
 | false=>
  rw[hg] at c0
  rw[size_no (by rw[hg];simp)]
  refine PTriple.of_body (C:=cx) Tryz.func141 rfl (by kernel_rfl) mixed fun E hE=>?_
  all_goals exact kb27
 | true=>
 rw[hg] at c0
 by_cases hl:0≤lev∧lev≤((NR d.s).length:Int)
 case neg=>
  have c1:=btw171 lev 0 (NR d.s).length
  rw[show inR 0 ((NR d.s).length:Int) lev=false from decide_eq_false hl] at c1
  rw[size_no (by rw[hg];rintro⟨_,h⟩;exact hl (by omega))]
  refine PTriple.of_body (C:=cx) Tryz.func141 rfl (by kernel_rfl) mixed fun E hE=>?_
  all_goals exact kb27
 case pos=>
  have c1:=btw171 lev 0 (NR d.s).length
  rw[show inR 0 ((NR d.s).length:Int) lev=true from decide_eq_true hl] at c1
  by_cases he:lev=((NR d.s).length:Int)
  case pos=>
   rw[size_one hg (by omega)]
   refine PTriple.of_body (C:=cx) Tryz.func141 rfl (by kernel_rfl) mixed fun E hE=>?_
   all_goals exact kb30
  case neg=>
   obtain⟨k,rfl⟩:=Int.eq_ofNat_of_zero_le hl.1
   obtain⟨n,hn⟩:∃e,d.s[k]?=some e:=⟨_,List.getElem?_eq_getElem (by omega)⟩
   have gi:=getNl hn
   rw[size_at hg hn]
   refine PTriple.of_body (C:=cx) Tryz.func141 rfl (by kernel_rfl) mixed fun E hE=>?_
   all_goals exact kb30
end Go.Proofs.YtbppemcdphgknaaGreatDoor
namespace Go.Proofs.YtbppemcdphgknaaGreatDoor
open Go Go.Vm
structure CtIn (c:Ct):Prop where
 n:c.d.length≤8
 d:∀d∈c.d,DmIn d
def gdK (c:Ct) (k:Nat):Bool:=match c.d[k]? with
 | some d=>goodD d
 | none=>false
def goodK (c:Ct):Bool:=inR 1 4 c.d.length&&(inR 1 2 c.m&&allF (gdK c) 0 c.d.length)
def stK0 (c:Ct) (k:Nat):St DV:=mkSt 27 [(1,.ref (2,1) 0),(17,.lst 2 (DR c.d)),(18,i64V (DR c.d).length),(19,i64V k)] [(1,.box (encC c))] []
theorem good140 (c:Ct) (hc:CtIn c):PTriple Tryz.prog gv 140 [ctV c] (.bool (goodK c)):=by
 have n0:=pure_D c.d
 have l0:=lenD c.d
 have h8:=hc.n
 have c0:=btw169 (DR c.d).length 1 4
 rw[show inR 1 4 ((DR c.d).length:Int)=inR 1 4 c.d.length by rw[l0]] at c0
 have c1:=btw169 c.m 1 2
 obtain⟨R,hR⟩:∃R,allF (gdK c) 0 c.d.length=R:=⟨_,rfl⟩
 have hG:goodK c=(inR 1 4 c.d.length&&(inR 1 2 c.m&&R)):=by rw[←hR];rfl
 rw[hG]
 cases h1:inR 1 4 c.d.length with
 | false=>
  rw[h1] at c0
  refine PTriple.of_body (C:=cx) Tryz.func140 rfl (by kernel_rfl) mixed fun E hE=>?_
  all_goals exact kb31
 | true=>
 rw[h1] at c0
 cases h2:inR 1 2 c.m with
 | false=>
  rw[h2] at c1
  refine PTriple.of_body (C:=cx) Tryz.func140 rfl (by kernel_rfl) mixed fun E hE=>?_
  all_goals exact kb31
 | true=>
 rw[h2] at c1
 refine PTriple.of_body (C:=cx) Tryz.func140 rfl (by kernel_rfl) mixed fun E hE=>?_
 repeat' (conv=>whnf);first
  | (refine bcase_of (fun hr=>?_) (fun hr=>?_)<;>(try simp only[bs] at hr)<;>try(exfalso;first|omega|(simp at hr;done)))
  | (apply And.intro;· first|(show indep _ _=true;kernel_rfl)|exact n0|exact n1|exact n2|exact q0|exact q1|exact⟨by omega,by omega⟩|(show Nat.beq _ _=false;rfl)|exact nd12)
  | (apply Exists.intro;apply And.intro;· first|exact rfl|exact c0|exact c1|exact c2|exact gi|exact gl|exact ga|exact gb)
  | rw[hw0]
  | rw[hw]
  | rw[hw2]
  | fail
 all_goals (conv=>whnf)
 refine VLoop.norm [1,17,18,19] [1] ?_
 repeat' (conv=>whnf);first
  | (refine bcase_of (fun hr=>?_) (fun hr=>?_)<;>(try simp only[bs] at hr)<;>try(exfalso;first|omega|(simp at hr;done)))
  | (apply And.intro;· first|(show indep _ _=true;kernel_rfl)|exact n0|exact n1|exact n2|exact q0|exact q1|exact⟨by omega,by omega⟩|(show Nat.beq _ _=false;rfl)|exact nd12)
  | (apply Exists.intro;apply And.intro;· first|exact rfl|exact c0|exact c1|exact c2|exact gi|exact gl|exact ga|exact gb)
  | rw[hw0]
  | rw[hw]
  | rw[hw2]
  | fail
 all_goals (conv=>whnf)
 refine VLoop.inv (fun z:Nat×Nat=>stK0 c z.1) (fun z=>z.1+z.2=c.d.length∧allF (gdK c) z.1 z.2=R) (fun z=>z.2) (0,c.d.length) ⟨by simp only;omega,hR⟩ rfl ?_
 rintro⟨k,m⟩ ⟨hk,hx⟩ ih
 simp only at hk hx ih
 have hw:IntKind.i64.wrap ((k:Int)+1)=((k+1:Nat):Int):=wrap64 (by omega) (by omega)
 refine VLoop.unroll hE mixed ?_
 cases m with
 | zero=>
  obtain rfl:R=true:=hx.symm
  all_goals exact kb31
 | succ m=>
  obtain⟨e,he⟩:∃e,c.d[k]?=some e:=⟨_,List.getElem?_eq_getElem (by omega)⟩
  have gi:=getDl he
  have q0:=pure_N e.s
  have q1:=pure_U e.u
  have c2:=good170 e (hc.d e (List.mem_of_getElem? he))
  have hp:gdK c k=goodD e:=by unfold gdK;rw[he]
  cases hcc:goodD e with
  | false=>
   obtain rfl:=allF_no hx (hp.trans hcc)
   rw[hcc] at c2
   all_goals exact kb31
  | true=>
   have hr2:=allF_go hx (hp.trans hcc)
   rw[hcc] at c2
   repeat' (conv=>whnf);first
    | (refine bcase_of (fun hr=>?_) (fun hr=>?_)<;>(try simp only[bs] at hr)<;>try(exfalso;first|omega|(simp at hr;done)))
    | (apply And.intro;· first|(show indep _ _=true;kernel_rfl)|exact n0|exact n1|exact n2|exact q0|exact q1|exact⟨by omega,by omega⟩|(show Nat.beq _ _=false;rfl)|exact nd12)
    | (apply Exists.intro;apply And.intro;· first|exact rfl|exact c0|exact c1|exact c2|exact gi|exact gl|exact ga|exact gb)
    | rw[hw0]
    | rw[hw]
    | rw[hw2]
    | fail
   all_goals (conv=>whnf)
   all_goals refine VLoop.norm [1,17,18,19] [1] ?_
   repeat' (conv=>whnf);first
    | (refine bcase_of (fun hr=>?_) (fun hr=>?_)<;>(try simp only[bs] at hr)<;>try(exfalso;first|omega|(simp at hr;done)))
    | (apply And.intro;· first|(show indep _ _=true;kernel_rfl)|exact n0|exact n1|exact n2|exact q0|exact q1|exact⟨by omega,by omega⟩|(show Nat.beq _ _=false;rfl)|exact nd12)
    | (apply Exists.intro;apply And.intro;· first|exact rfl|exact c0|exact c1|exact c2|exact gi|exact gl|exact ga|exact gb)
    | rw[hw0]
    | rw[hw]
    | rw[hw2]
    | fail
   all_goals (conv=>whnf)
   all_goals exact ih (k+1,m) ⟨by simp only;omega,hr2⟩ (by simp only;omega)
end Go.Proofs.YtbppemcdphgknaaGreatDoor
namespace Go.Proofs.YtbppemcdphgknaaGreatDoor
open Go Go.Vm
def by4 (k:Int):Nat→Int
 | 0=>k / 16777216
 | 1=>k / 65536 % 256
 | 2=>k / 256 % 256
 | _=>k % 256
def rgK (c:Ct) (v w:Int) (i:Nat):Bool:=match c.d[i]? with
 | none=>decide (by4 v i=0∧by4 w i=0)
 | some d=>decide (by4 w i<sizeD d (by4 v i))
def rightP (c:Ct) (v w:Int):Bool:=goodK c&&allF (rgK c v w) 0 4
def stR1 (c:Ct) (v w:Int) (k:Nat):St DV:=mkSt 45 [(3,.ref (4,1) 0),(4,.ref (5,1) 0),(5,.ref (6,1) 0),(11,i64V k)] [(3,.box (encC c)),(4,.box (co v)),(5,.box (co w))] []
theorem right101 (c:Ct) (hc:CtIn c) {v w:Int} (hv:KIn v) (hw:KIn w):PTriple Tryz.prog gv 101 [ctV c,coV v,coV w] (.bool (rightP c v w)):=by
 have n0:=pure_D c.d
 have l0:=lenD c.d
 have h8:=hc.n
 have c0:=good140 c hc
 obtain⟨hv1,hv2⟩:=hv
 obtain⟨hw1,hw2⟩:=hw
 obtain⟨R,hR⟩:∃R,allF (rgK c v w) 0 4=R:=⟨_,rfl⟩
 have hG:rightP c v w=(goodK c&&R):=by rw[←hR];rfl
 rw[hG]
 cases h1:goodK c with
 | false=>
  rw[h1] at c0
  refine PTriple.of_body (C:=cx) Tryz.func101 rfl (by kernel_rfl) mixed fun E hE=>?_
  all_goals exact kb32
 | true=>
 rw[h1] at c0
 refine PTriple.of_body (C:=cx) Tryz.func101 rfl (by kernel_rfl) mixed fun E hE=>?_
 repeat' (conv=>whnf);first
  | (refine bcase_of (fun hr=>?_) (fun hr=>?_)<;>(try simp only[bs] at hr)<;>try(exfalso;first|omega|(simp at hr;done)))
  | (apply And.intro;· first|(show indep _ _=true;kernel_rfl)|exact n0|exact n1|exact n2|exact q0|exact q1|exact⟨by omega,by omega⟩|(show Nat.beq _ _=false;rfl)|exact nd12)
  | (apply Exists.intro;apply And.intro;· first|exact rfl|exact c0|exact c1|exact c2|exact gi|exact gl|exact ga|exact gb)
  | rw[hw0]
  | rw[hw]
  | rw[hw2]
  | rw[wa]
  | rw[wb]
  | fail
 all_goals (conv=>whnf)
 refine VLoop.norm [3,4,5,11] [3,4,5] ?_
 repeat' (conv=>whnf);first
  | (refine bcase_of (fun hr=>?_) (fun hr=>?_)<;>(try simp only[bs] at hr)<;>try(exfalso;first|omega|(simp at hr;done)))
  | (apply And.intro;· first|(show indep _ _=true;kernel_rfl)|exact n0|exact n1|exact n2|exact q0|exact q1|exact⟨by omega,by omega⟩|(show Nat.beq _ _=false;rfl)|exact nd12)
  | (apply Exists.intro;apply And.intro;· first|exact rfl|exact c0|exact c1|exact c2|exact gi|exact gl|exact ga|exact gb)
  | rw[hw0]
  | rw[hw]
  | rw[hw2]
  | rw[wa]
  | rw[wb]
  | fail
 all_goals (conv=>whnf)
 refine VLoop.inv (fun z:Nat×Nat=>stR1 c v w z.1) (fun z=>z.1+z.2=4∧allF (rgK c v w) z.1 z.2=R) (fun z=>z.2) (0,4) ⟨rfl,hR⟩ rfl ?_
 rintro⟨k,m⟩ ⟨hk,hx⟩ ih
 simp only at hk hx ih
 have hw:IntKind.i64.wrap ((k:Int)+1)=((k+1:Nat):Int):=wrap64 (by omega) (by omega)
 refine VLoop.unroll hE mixed ?_
 cases m with
 | zero=>
  obtain rfl:k=4:=by omega
  obtain rfl:R=true:=hx.symm
  all_goals exact kb32
 | succ m=>
 have hk4:k=0∨k=1∨k=2∨k=3:=by omega
 rcases hk4 with rfl|rfl|rfl|rfl
 ·have wa:IntKind.i64.wrap (w / 16777216)=w / 16777216:=wrap64 (by omega) (by omega)
  have wb:IntKind.i64.wrap (v / 16777216)=v / 16777216:=wrap64 (by omega) (by omega)
  cases hd:c.d[0]? with
  | none=>
   have hd':=List.getElem?_eq_none_iff.1 hd
   have hp:rgK c v w 0=decide (v / 16777216=0∧w / 16777216=0):=by unfold rgK;rw[hd];rfl
   cases hcc:decide (v / 16777216=0∧w / 16777216=0) with
   | false=>
    obtain rfl:=allF_no hx (hp.trans hcc)
    replace hcc:=of_decide_eq_false hcc
    all_goals exact kb32
   | true=>
    have hr2:=allF_go hx (hp.trans hcc)
    replace hcc:=of_decide_eq_true hcc
    repeat' (conv=>whnf);first
     | (refine bcase_of (fun hr=>?_) (fun hr=>?_)<;>(try simp only[bs] at hr)<;>try(exfalso;first|omega|(simp at hr;done)))
     | (apply And.intro;· first|(show indep _ _=true;kernel_rfl)|exact n0|exact n1|exact n2|exact q0|exact q1|exact⟨by omega,by omega⟩|(show Nat.beq _ _=false;rfl)|exact nd12)
     | (apply Exists.intro;apply And.intro;· first|exact rfl|exact c0|exact c1|exact c2|exact gi|exact gl|exact ga|exact gb)
     | rw[hw0]
     | rw[hw]
     | rw[hw2]
     | rw[wa]
     | rw[wb]
     | fail
    all_goals (conv=>whnf)
    all_goals refine VLoop.norm [3,4,5,11] [3,4,5] ?_
    all_goals exact kb33
  | some d=>
   have hdl:=(List.getElem?_eq_some_iff.1 hd).1
   have gi:lget (DR c.d) ((0:Nat):Int).toNat=some (encD d):=getDl hd
   have q0:=pure_N d.s
   have q1:=pure_U d.u
   have c1:=size141 d (hc.d d (List.mem_of_getElem? hd)) (v / 16777216)
   have hp:rgK c v w 0=decide (w / 16777216<sizeD d (v / 16777216)):=by unfold rgK;rw[hd];rfl
   cases hcc:decide (w / 16777216<sizeD d (v / 16777216)) with
   | false=>
    obtain rfl:=allF_no hx (hp.trans hcc)
    replace hcc:=of_decide_eq_false hcc
    all_goals exact kb32
   | true=>
    have hr2:=allF_go hx (hp.trans hcc)
    replace hcc:=of_decide_eq_true hcc
    repeat' (conv=>whnf);first
     | (refine bcase_of (fun hr=>?_) (fun hr=>?_)<;>(try simp only[bs] at hr)<;>try(exfalso;first|omega|(simp at hr;done)))
     | (apply And.intro;· first|(show indep _ _=true;kernel_rfl)|exact n0|exact n1|exact n2|exact q0|exact q1|exact⟨by omega,by omega⟩|(show Nat.beq _ _=false;rfl)|exact nd12)
     | (apply Exists.intro;apply And.intro;· first|exact rfl|exact c0|exact c1|exact c2|exact gi|exact gl|exact ga|exact gb)
     | rw[hw0]
     | rw[hw]
     | rw[hw2]
     | rw[wa]
     | rw[wb]
     | fail
    all_goals (conv=>whnf)
    all_goals refine VLoop.norm [3,4,5,11] [3,4,5] ?_
    all_goals exact kb33
 ·have wa:IntKind.i64.wrap (w / 65536 % 256)=w / 65536 % 256:=wrap64 (by omega) (by omega)
  have wb:IntKind.i64.wrap (v / 65536 % 256)=v / 65536 % 256:=wrap64 (by omega) (by omega)
  cases hd:c.d[1]? with
  | none=>
   have hd':=List.getElem?_eq_none_iff.1 hd
   have hp:rgK c v w 1=decide (v / 65536 % 256=0∧w / 65536 % 256=0):=by unfold rgK;rw[hd];rfl
   cases hcc:decide (v / 65536 % 256=0∧w / 65536 % 256=0) with
   | false=>
    obtain rfl:=allF_no hx (hp.trans hcc)
    replace hcc:=of_decide_eq_false hcc
    all_goals exact kb32
   | true=>
    have hr2:=allF_go hx (hp.trans hcc)
    replace hcc:=of_decide_eq_true hcc
    repeat' (conv=>whnf);first
     | (refine bcase_of (fun hr=>?_) (fun hr=>?_)<;>(try simp only[bs] at hr)<;>try(exfalso;first|omega|(simp at hr;done)))
     | (apply And.intro;· first|(show indep _ _=true;kernel_rfl)|exact n0|exact n1|exact n2|exact q0|exact q1|exact⟨by omega,by omega⟩|(show Nat.beq _ _=false;rfl)|exact nd12)
     | (apply Exists.intro;apply And.intro;· first|exact rfl|exact c0|exact c1|exact c2|exact gi|exact gl|exact ga|exact gb)
     | rw[hw0]
     | rw[hw]
     | rw[hw2]
     | rw[wa]
     | rw[wb]
     | fail
    all_goals (conv=>whnf)
    all_goals refine VLoop.norm [3,4,5,11] [3,4,5] ?_
    all_goals exact kb34
  | some d=>
   have hdl:=(List.getElem?_eq_some_iff.1 hd).1
   have gi:lget (DR c.d) ((1:Nat):Int).toNat=some (encD d):=getDl hd
   have q0:=pure_N d.s
   have q1:=pure_U d.u
   have c1:=size141 d (hc.d d (List.mem_of_getElem? hd)) (v / 65536 % 256)
   have hp:rgK c v w 1=decide (w / 65536 % 256<sizeD d (v / 65536 % 256)):=by unfold rgK;rw[hd];rfl
   cases hcc:decide (w / 65536 % 256<sizeD d (v / 65536 % 256)) with
   | false=>
    obtain rfl:=allF_no hx (hp.trans hcc)
    replace hcc:=of_decide_eq_false hcc
    all_goals exact kb32
   | true=>
    have hr2:=allF_go hx (hp.trans hcc)
    replace hcc:=of_decide_eq_true hcc
    repeat' (conv=>whnf);first
     | (refine bcase_of (fun hr=>?_) (fun hr=>?_)<;>(try simp only[bs] at hr)<;>try(exfalso;first|omega|(simp at hr;done)))
     | (apply And.intro;· first|(show indep _ _=true;kernel_rfl)|exact n0|exact n1|exact n2|exact q0|exact q1|exact⟨by omega,by omega⟩|(show Nat.beq _ _=false;rfl)|exact nd12)
     | (apply Exists.intro;apply And.intro;· first|exact rfl|exact c0|exact c1|exact c2|exact gi|exact gl|exact ga|exact gb)
     | rw[hw0]
     | rw[hw]
     | rw[hw2]
     | rw[wa]
     | rw[wb]
     | fail
    all_goals (conv=>whnf)
    all_goals refine VLoop.norm [3,4,5,11] [3,4,5] ?_
    all_goals exact kb34
 ·have wa:IntKind.i64.wrap (w / 256 % 256)=w / 256 % 256:=wrap64 (by omega) (by omega)
  have wb:IntKind.i64.wrap (v / 256 % 256)=v / 256 % 256:=wrap64 (by omega) (by omega)
  cases hd:c.d[2]? with
  | none=>
   have hd':=List.getElem?_eq_none_iff.1 hd
   have hp:rgK c v w 2=decide (v / 256 % 256=0∧w / 256 % 256=0):=by unfold rgK;rw[hd];rfl
   cases hcc:decide (v / 256 % 256=0∧w / 256 % 256=0) with
   | false=>
    obtain rfl:=allF_no hx (hp.trans hcc)
    replace hcc:=of_decide_eq_false hcc
    all_goals exact kb32
   | true=>
    have hr2:=allF_go hx (hp.trans hcc)
    replace hcc:=of_decide_eq_true hcc
    repeat' (conv=>whnf);first
     | (refine bcase_of (fun hr=>?_) (fun hr=>?_)<;>(try simp only[bs] at hr)<;>try(exfalso;first|omega|(simp at hr;done)))
     | (apply And.intro;· first|(show indep _ _=true;kernel_rfl)|exact n0|exact n1|exact n2|exact q0|exact q1|exact⟨by omega,by omega⟩|(show Nat.beq _ _=false;rfl)|exact nd12)
     | (apply Exists.intro;apply And.intro;· first|exact rfl|exact c0|exact c1|exact c2|exact gi|exact gl|exact ga|exact gb)
     | rw[hw0]
     | rw[hw]
     | rw[hw2]
     | rw[wa]
     | rw[wb]
     | fail
    all_goals (conv=>whnf)
    all_goals refine VLoop.norm [3,4,5,11] [3,4,5] ?_
    all_goals exact kb35
  | some d=>
   have hdl:=(List.getElem?_eq_some_iff.1 hd).1
   have gi:lget (DR c.d) ((2:Nat):Int).toNat=some (encD d):=getDl hd
   have q0:=pure_N d.s
   have q1:=pure_U d.u
   have c1:=size141 d (hc.d d (List.mem_of_getElem? hd)) (v / 256 % 256)
   have hp:rgK c v w 2=decide (w / 256 % 256<sizeD d (v / 256 % 256)):=by unfold rgK;rw[hd];rfl
   cases hcc:decide (w / 256 % 256<sizeD d (v / 256 % 256)) with
   | false=>
    obtain rfl:=allF_no hx (hp.trans hcc)
    replace hcc:=of_decide_eq_false hcc
    all_goals exact kb32
   | true=>
    have hr2:=allF_go hx (hp.trans hcc)
    replace hcc:=of_decide_eq_true hcc
    repeat' (conv=>whnf);first
     | (refine bcase_of (fun hr=>?_) (fun hr=>?_)<;>(try simp only[bs] at hr)<;>try(exfalso;first|omega|(simp at hr;done)))
     | (apply And.intro;· first|(show indep _ _=true;kernel_rfl)|exact n0|exact n1|exact n2|exact q0|exact q1|exact⟨by omega,by omega⟩|(show Nat.beq _ _=false;rfl)|exact nd12)
     | (apply Exists.intro;apply And.intro;· first|exact rfl|exact c0|exact c1|exact c2|exact gi|exact gl|exact ga|exact gb)
     | rw[hw0]
     | rw[hw]
     | rw[hw2]
     | rw[wa]
     | rw[wb]
     | fail
    all_goals (conv=>whnf)
    all_goals refine VLoop.norm [3,4,5,11] [3,4,5] ?_
    all_goals exact kb35
 ·have wa:IntKind.i64.wrap (w % 256)=w % 256:=wrap64 (by omega) (by omega)
  have wb:IntKind.i64.wrap (v % 256)=v % 256:=wrap64 (by omega) (by omega)
  cases hd:c.d[3]? with
  | none=>
   have hd':=List.getElem?_eq_none_iff.1 hd
   have hp:rgK c v w 3=decide (v % 256=0∧w % 256=0):=by unfold rgK;rw[hd];rfl
   cases hcc:decide (v % 256=0∧w % 256=0) with
   | false=>
    obtain rfl:=allF_no hx (hp.trans hcc)
    replace hcc:=of_decide_eq_false hcc
    all_goals exact kb32
   | true=>
    have hr2:=allF_go hx (hp.trans hcc)
    replace hcc:=of_decide_eq_true hcc
    repeat' (conv=>whnf);first
     | (refine bcase_of (fun hr=>?_) (fun hr=>?_)<;>(try simp only[bs] at hr)<;>try(exfalso;first|omega|(simp at hr;done)))
     | (apply And.intro;· first|(show indep _ _=true;kernel_rfl)|exact n0|exact n1|exact n2|exact q0|exact q1|exact⟨by omega,by omega⟩|(show Nat.beq _ _=false;rfl)|exact nd12)
     | (apply Exists.intro;apply And.intro;· first|exact rfl|exact c0|exact c1|exact c2|exact gi|exact gl|exact ga|exact gb)
     | rw[hw0]
     | rw[hw]
     | rw[hw2]
     | rw[wa]
     | rw[wb]
     | fail
    all_goals (conv=>whnf)
    all_goals refine VLoop.norm [3,4,5,11] [3,4,5] ?_
    all_goals exact kb36
  | some d=>
   have hdl:=(List.getElem?_eq_some_iff.1 hd).1
   have gi:lget (DR c.d) ((3:Nat):Int).toNat=some (encD d):=getDl hd
   have q0:=pure_N d.s
   have q1:=pure_U d.u
   have c1:=size141 d (hc.d d (List.mem_of_getElem? hd)) (v % 256)
   have hp:rgK c v w 3=decide (w % 256<sizeD d (v % 256)):=by unfold rgK;rw[hd];rfl
   cases hcc:decide (w % 256<sizeD d (v % 256)) with
   | false=>
    obtain rfl:=allF_no hx (hp.trans hcc)
    replace hcc:=of_decide_eq_false hcc
    all_goals exact kb32
   | true=>
    have hr2:=allF_go hx (hp.trans hcc)
    replace hcc:=of_decide_eq_true hcc
    repeat' (conv=>whnf);first
     | (refine bcase_of (fun hr=>?_) (fun hr=>?_)<;>(try simp only[bs] at hr)<;>try(exfalso;first|omega|(simp at hr;done)))
     | (apply And.intro;· first|(show indep _ _=true;kernel_rfl)|exact n0|exact n1|exact n2|exact q0|exact q1|exact⟨by omega,by omega⟩|(show Nat.beq _ _=false;rfl)|exact nd12)
     | (apply Exists.intro;apply And.intro;· first|exact rfl|exact c0|exact c1|exact c2|exact gi|exact gl|exact ga|exact gb)
     | rw[hw0]
     | rw[hw]
     | rw[hw2]
     | rw[wa]
     | rw[wb]
     | fail
    all_goals (conv=>whnf)
    all_goals refine VLoop.norm [3,4,5,11] [3,4,5] ?_
    all_goals exact kb36
theorem good148 (c:Ct) (hc:CtIn c) {v:Int} (hv:KIn v):PTriple Tryz.prog gv 148 [ctV c,coV v] (.bool (rightP c v 0)):=by
 have n0:=pure_D c.d
 have c0:PTriple Tryz.prog gv _ [ctV c,coV v,.agg [u8V 0,u8V 0,u8V 0,u8V 0]] (.bool (rightP c v 0)):=right101 c hc hv (w:=0) ⟨by decide,by decide⟩
 generalize rightP c v 0=R at c0
 cases R
 all_goals
  refine PTriple.of_body (C:=cx) Tryz.func148 rfl (by kernel_rfl) mixed fun E hE=>?_
  all_goals exact kb32
end Go.Proofs.YtbppemcdphgknaaGreatDoor
namespace Go.Proofs.YtbppemcdphgknaaGreatDoor
open Go Go.Vm
abbrev NdR (l:List Int):List (List V):=l.map co
abbrev ndV (l:List Int):V:=.lst 4 (NdR l)
theorem pure_Nd (l:List Int):PureEs (NdR l):=fun e he v hv=>by
 obtain⟨x,_,rfl⟩:=List.mem_map.1 he
 simp only[co,List.mem_cons,List.not_mem_nil,or_false] at hv
 rcases hv with rfl|rfl|rfl|rfl<;>exact .int _ _
theorem lenNd (l:List Int):(NdR l).length=l.length:=by simp
theorem getNd {l:List Int} {i:Nat} {n:Int} (h:l[i]?=some n):lget (NdR l) ((i:Int)).toNat=some (co n):=by
 rw[lget_eq,Int.toNat_natCast,List.getElem?_map,h];rfl
theorem takeNd (l:List Int) (k:Nat):((NdR l).drop 0).take (k-0)=NdR (l.take k):=by rw[List.drop_zero,Nat.sub_zero,←List.map_take]
theorem takeNd2 (l:List Int) (k:Nat):((NdR l).drop 0).take (((k:Int)).toNat-0)=NdR (l.take k):=takeNd l k
def fndF (l:List Int) (v:Int):Nat→Nat→Int
 | _,0=>-1
 | k,m+1=>if l[k]?=some v then k else fndF l v (k+1) m
theorem fnd_iff {l:List Int} {v:Int}:∀{m k:Nat},0≤fndF l v k m↔∃i,k≤i∧i<k+m∧l[i]?=some v
 | 0,k=>⟨fun h=>by simp[fndF] at h,fun⟨i,h1,h2,_⟩=>by omega⟩
 | m+1,k=>by
  unfold fndF
  split
  ·rename_i h;exact⟨fun _=>⟨k,by omega,by omega,h⟩,fun _=>by omega⟩
  ·rename_i h
   rw[fnd_iff]
   constructor
   ·rintro⟨i,h1,h2,h3⟩;exact⟨i,by omega,by omega,h3⟩
   ·rintro⟨i,h1,h2,h3⟩
    by_cases hi:i=k
    ·rw[hi] at h3;exact absurd h3 h
    ·exact⟨i,by omega,by omega,h3⟩
theorem fnd_mem {l:List Int} {v:Int}:0≤fndF l v 0 l.length↔v∈l:=by
 rw[fnd_iff,List.mem_iff_getElem?]
 constructor
 ·rintro⟨i,_,_,h⟩;exact⟨i,h⟩
 ·rintro⟨i,h⟩;exact⟨i,by omega,by have:=(List.getElem?_eq_some_iff.1 h).1;omega,h⟩
def stIx (l:List Int) (v:Int) (k:Nat):St DV:=mkSt 19 [(0,ndV l),(3,.ref (4,1) 0),(7,i64V (NdR l).length),(8,i64V k)] [(3,.box (co v))] []
theorem idx175 (l:List Int) {v:Int} (hl:l.length≤1000) (hin:∀e∈l,KIn e) (hv:KIn v):PTriple Tryz.prog gv 175 [ndV l,coV v] (i64V (fndF l v 0 l.length)):=by
 have n0:=pure_Nd l
 have l0:=lenNd l
 obtain⟨hv1,hv2⟩:=hv
 obtain⟨R,hR⟩:∃R,fndF l v 0 l.length=R:=⟨_,rfl⟩
 rw[hR]
 refine PTriple.of_body (C:=cx) Tryz.func175 rfl (by kernel_rfl) mixed fun E hE=>?_
 repeat' (conv=>whnf);first
  | (refine bcase_of (fun hr=>?_) (fun hr=>?_)<;>(try simp only[bs] at hr)<;>try(exfalso;first|omega|(simp at hr;done)))
  | (apply And.intro;· first|(show indep _ _=true;kernel_rfl)|exact n3|exact n0|exact n1|exact n2|exact q0|exact q1|exact⟨by omega,by omega⟩|(show Nat.beq _ _=false;rfl)|exact nd12)
  | (apply Exists.intro;apply And.intro;· first|exact rfl|exact c0|exact c1|exact c2|exact cB|exact cZ|exact gi)
  | rw[hw0]
  | rw[hw]
  | rw[ht]
  | fail
 all_goals (conv=>whnf)
 refine VLoop.norm [0,3,7,8] [3] ?_
 repeat' (conv=>whnf);first
  | (refine bcase_of (fun hr=>?_) (fun hr=>?_)<;>(try simp only[bs] at hr)<;>try(exfalso;first|omega|(simp at hr;done)))
  | (apply And.intro;· first|(show indep _ _=true;kernel_rfl)|exact n3|exact n0|exact n1|exact n2|exact q0|exact q1|exact⟨by omega,by omega⟩|(show Nat.beq _ _=false;rfl)|exact nd12)
  | (apply Exists.intro;apply And.intro;· first|exact rfl|exact c0|exact c1|exact c2|exact cB|exact cZ|exact gi)
  | rw[hw0]
  | rw[hw]
  | rw[ht]
  | fail
 all_goals (conv=>whnf)
 refine VLoop.inv (fun z:Nat×Nat=>stIx l v z.1) (fun z=>z.1+z.2=l.length∧fndF l v z.1 z.2=R) (fun z=>z.2) (0,l.length) ⟨by simp only;omega,hR⟩ rfl ?_
 rintro⟨k,m⟩ ⟨hk,hx⟩ ih
 simp only at hk hx ih
 have hw:IntKind.i64.wrap ((k:Int)+1)=((k+1:Nat):Int):=wrap64 (by omega) (by omega)
 refine VLoop.unroll hE mixed ?_
 cases m with
 | zero=>
  obtain rfl:R = -1:=hx.symm
  all_goals exact kb37
 | succ m=>
  obtain⟨e,he⟩:∃e,l[k]?=some e:=⟨_,List.getElem?_eq_getElem (by omega)⟩
  have gi:=getNd he
  obtain⟨he1,he2⟩:=hin e (List.mem_of_getElem? he)
  unfold fndF at hx
  rw[he] at hx
  by_cases hev:e=v
  case pos=>
   rw[if_pos (by rw[hev])] at hx
   subst hx
   subst hev
   all_goals exact kb37
  case neg=>
   rw[if_neg (by simpa using hev)] at hx
   repeat' (conv=>whnf);first
    | (refine bcase_of (fun hr=>?_) (fun hr=>?_)<;>(try simp only[bs] at hr)<;>try(exfalso;first|omega|(simp at hr;done)))
    | (apply And.intro;· first|(show indep _ _=true;kernel_rfl)|exact n3|exact n0|exact n1|exact n2|exact q0|exact q1|exact⟨by omega,by omega⟩|(show Nat.beq _ _=false;rfl)|exact nd12)
    | (apply Exists.intro;apply And.intro;· first|exact rfl|exact c0|exact c1|exact c2|exact cB|exact cZ|exact gi)
    | rw[hw0]
    | rw[hw]
    | rw[ht]
    | fail
   all_goals (conv=>whnf)
   all_goals refine VLoop.norm [0,3,7,8] [3] ?_
   repeat' (conv=>whnf);first
    | (refine bcase_of (fun hr=>?_) (fun hr=>?_)<;>(try simp only[bs] at hr)<;>try(exfalso;first|omega|(simp at hr;done)))
    | (apply And.intro;· first|(show indep _ _=true;kernel_rfl)|exact n3|exact n0|exact n1|exact n2|exact q0|exact q1|exact⟨by omega,by omega⟩|(show Nat.beq _ _=false;rfl)|exact nd12)
    | (apply Exists.intro;apply And.intro;· first|exact rfl|exact c0|exact c1|exact c2|exact cB|exact cZ|exact gi)
    | rw[hw0]
    | rw[hw]
    | rw[ht]
    | fail
   all_goals (conv=>whnf)
   all_goals exact ih (k+1,m) ⟨by simp only;omega,hx⟩ (by simp only;omega)
theorem has149 (l:List Int) {v:Int} (hl:l.length≤1000) (hin:∀e∈l,KIn e) (hv:KIn v):PTriple Tryz.prog gv 149 [ndV l,coV v] (.bool (decide (v∈l))):=by
 have n0:=pure_Nd l
 have c0:=idx175 l hl hin hv
 have hf:=fnd_mem (l:=l) (v:=v)
 obtain⟨R,hR⟩:∃R,fndF l v 0 l.length=R:=⟨_,rfl⟩
 rw[hR] at c0 hf
 by_cases h:v∈l
 ·rw[decide_eq_true h]
  have:=hf.2 h
  refine PTriple.of_body (C:=cx) Tryz.func149 rfl (by kernel_rfl) mixed fun E hE=>?_
  all_goals exact kb37
 ·rw[decide_eq_false h]
  have:¬0≤R:=fun h2=>h (hf.1 h2)
  refine PTriple.of_body (C:=cx) Tryz.func149 rfl (by kernel_rfl) mixed fun E hE=>?_
  all_goals exact kb37
theorem base150:PTriple Tryz.prog gv 150 [] (coV 0):=by
 refine PTriple.of_body (C:=cx) Tryz.func150 rfl (by kernel_rfl) mixed fun E hE=>?_
 all_goals exact kb37
def ndK (c:Ct) (ns:List Int) (i:Nat):Bool:=match ns[i]? with
 | some v=>rightP c v 0 && !decide (v∈ns.take i)
 | none=>false
def goodN (c:Ct) (ns:List Int):Bool:=goodK c&&(inR 1 12 ns.length&&(allF (ndK c ns) 0 ns.length&&decide (0∈ns)))
def stN0 (c:Ct) (ns:List Int) (k:Nat):St DV:=mkSt 42 [(1,ndV ns),(2,.ref (3,1) 0),(20,ndV ns),(21,i64V (NdR ns).length),(22,i64V k)] [(2,.box (encC c))] []
theorem good108 (c:Ct) (ns:List Int) (hc:CtIn c) (hl:ns.length≤1000) (hin:∀e∈ns,KIn e):PTriple Tryz.prog gv 108 [ctV c,ndV ns] (.bool (goodN c ns)):=by
 have n0:=pure_D c.d
 have n1:=pure_Nd ns
 have l0:=lenNd ns
 have c0:=good140 c hc
 obtain⟨R,hR⟩:∃R,allF (ndK c ns) 0 ns.length=R:=⟨_,rfl⟩
 have hG:goodN c ns=(goodK c&&(inR 1 12 ns.length&&(R&&decide (0∈ns)))):=by rw[←hR];rfl
 rw[hG]
 cases h1:goodK c with
 | false=>
  rw[h1] at c0
  refine PTriple.of_body (C:=cx) Tryz.func108 rfl (by kernel_rfl) mixed fun E hE=>?_
  all_goals exact kb37
 | true=>
 rw[h1] at c0
 cases h2:inR 1 12 ns.length with
 | false=>
  replace h2:=inR_f h2
  refine PTriple.of_body (C:=cx) Tryz.func108 rfl (by kernel_rfl) mixed fun E hE=>?_
  all_goals exact kb37
 | true=>
 replace h2:=inR_t h2
 have cB:=base150
 have cZ:=has149 ns hl hin (v:=0) ⟨by decide,by decide⟩
 refine PTriple.of_body (C:=cx) Tryz.func108 rfl (by kernel_rfl) mixed fun E hE=>?_
 repeat' (conv=>whnf);first
  | (refine bcase_of (fun hr=>?_) (fun hr=>?_)<;>(try simp only[bs] at hr)<;>try(exfalso;first|omega|(simp at hr;done)))
  | (apply And.intro;· first|(show indep _ _=true;kernel_rfl)|exact n3|exact n0|exact n1|exact n2|exact q0|exact q1|exact⟨by omega,by omega⟩|(show Nat.beq _ _=false;rfl)|exact nd12)
  | (apply Exists.intro;apply And.intro;· first|exact rfl|exact c0|exact c1|exact c2|exact cB|exact cZ|exact gi)
  | rw[hw0]
  | rw[hw]
  | rw[ht]
  | fail
 all_goals (conv=>whnf)
 refine VLoop.norm [1,2,20,21,22] [2] ?_
 repeat' (conv=>whnf);first
  | (refine bcase_of (fun hr=>?_) (fun hr=>?_)<;>(try simp only[bs] at hr)<;>try(exfalso;first|omega|(simp at hr;done)))
  | (apply And.intro;· first|(show indep _ _=true;kernel_rfl)|exact n3|exact n0|exact n1|exact n2|exact q0|exact q1|exact⟨by omega,by omega⟩|(show Nat.beq _ _=false;rfl)|exact nd12)
  | (apply Exists.intro;apply And.intro;· first|exact rfl|exact c0|exact c1|exact c2|exact cB|exact cZ|exact gi)
  | rw[hw0]
  | rw[hw]
  | rw[ht]
  | fail
 all_goals (conv=>whnf)
 refine VLoop.inv (fun z:Nat×Nat=>stN0 c ns z.1) (fun z=>z.1+z.2=ns.length∧allF (ndK c ns) z.1 z.2=R) (fun z=>z.2) (0,ns.length) ⟨by simp only;omega,hR⟩ rfl ?_
 rintro⟨k,m⟩ ⟨hk,hx⟩ ih
 simp only at hk hx ih
 have hw:IntKind.i64.wrap ((k:Int)+1)=((k+1:Nat):Int):=wrap64 (by omega) (by omega)
 refine VLoop.unroll hE mixed ?_
 cases m with
 | zero=>
  obtain rfl:R=true:=hx.symm
  generalize decide (0∈ns)=Z at cZ
  cases Z
  all_goals exact kb37
 | succ m=>
  obtain⟨e,he⟩:∃e,ns[k]?=some e:=⟨_,List.getElem?_eq_getElem (by omega)⟩
  have gi:=getNd he
  have hei:=hin e (List.mem_of_getElem? he)
  have c1:=good148 c hc hei
  have c2:=has149 (ns.take k) (by rw[List.length_take];omega) (fun x hx=>hin x (List.mem_of_mem_take hx)) hei
  have hp:ndK c ns k=(rightP c e 0 && !decide (e∈ns.take k)):=by unfold ndK;rw[he]
  have n2:PureEs (NdR (ns.take k)):=pure_Nd _
  have ht:=takeNd2 ns k
  have n3:PureEs (((NdR ns).drop 0).take (((k:Int)).toNat-0)):=by rw[ht];exact n2
  cases hcc:rightP c e 0 with
  | false=>
   obtain rfl:=allF_no hx (hp.trans (by rw[hcc];rfl))
   rw[hcc] at c1
   all_goals exact kb37
  | true=>
   rw[hcc] at c1
   by_cases hm:e∈ns.take k
   ·obtain rfl:=allF_no hx (hp.trans (by rw[decide_eq_true hm];simp))
    rw[decide_eq_true hm] at c2
    all_goals exact kb37
   ·have hr2:=allF_go hx (hp.trans (by rw[hcc,decide_eq_false hm];rfl))
    rw[decide_eq_false hm] at c2
    repeat' (conv=>whnf);first
     | (refine bcase_of (fun hr=>?_) (fun hr=>?_)<;>(try simp only[bs] at hr)<;>try(exfalso;first|omega|(simp at hr;done)))
     | (apply And.intro;· first|(show indep _ _=true;kernel_rfl)|exact n3|exact n0|exact n1|exact n2|exact q0|exact q1|exact⟨by omega,by omega⟩|(show Nat.beq _ _=false;rfl)|exact nd12)
     | (apply Exists.intro;apply And.intro;· first|exact rfl|exact c0|exact c1|exact c2|exact cB|exact cZ|exact gi)
     | rw[hw0]
     | rw[hw]
     | rw[ht]
     | fail
    all_goals (conv=>whnf)
    all_goals refine VLoop.norm [1,2,20,21,22] [2] ?_
    repeat' (conv=>whnf);first
     | (refine bcase_of (fun hr=>?_) (fun hr=>?_)<;>(try simp only[bs] at hr)<;>try(exfalso;first|omega|(simp at hr;done)))
     | (apply And.intro;· first|(show indep _ _=true;kernel_rfl)|exact n3|exact n0|exact n1|exact n2|exact q0|exact q1|exact⟨by omega,by omega⟩|(show Nat.beq _ _=false;rfl)|exact nd12)
     | (apply Exists.intro;apply And.intro;· first|exact rfl|exact c0|exact c1|exact c2|exact cB|exact cZ|exact gi)
     | rw[hw0]
     | rw[hw]
     | rw[ht]
     | fail
    all_goals (conv=>whnf)
    all_goals exact ih (k+1,m) ⟨by simp only;omega,hr2⟩ (by simp only;omega)
end Go.Proofs.YtbppemcdphgknaaGreatDoor
namespace Go.Proofs.YtbppemcdphgknaaGreatDoor
open Go Go.Vm
structure Cf where
 c:Ct
 ns:List Int
 keep:Int
 cap:Int
 life:Int
abbrev encF (x:Cf):List V:=[.lst 2 (DR x.c.d),i64V x.c.m,ndV x.ns,i64V x.keep,i64V x.cap,i64V x.life]
abbrev cfV (x:Cf):V:=.agg (encF x)
def goodF (x:Cf):Bool:=goodN x.c x.ns&&(inR 2 8 x.keep&&(inR 0 2000 x.cap&&inR 1 1048576 x.life))
structure CfIn (x:Cf):Prop where
 c:CtIn x.c
 l:x.ns.length≤1000
 n:∀e∈x.ns,KIn e
theorem good59 (x:Cf) (hx:CfIn x):PTriple Tryz.prog gv 59 [cfV x] (.bool (goodF x)):=by
 have n0:=pure_D x.c.d
 have n1:=pure_Nd x.ns
 have c0:=good108 x.c x.ns hx.c hx.l hx.n
 have c1:=btw109 x.keep 2 8
 have c2:=btw109 x.cap 0 2000
 have c3:=btw109 x.life 1 1048576
 unfold goodF
 generalize goodN x.c x.ns=b0 at c0
 generalize inR 2 8 x.keep=b1 at c1
 generalize inR 0 2000 x.cap=b2 at c2
 generalize inR 1 1048576 x.life=b3 at c3
 cases b0<;>cases b1<;>cases b2<;>cases b3
 all_goals
  refine PTriple.of_body (C:=cx) Tryz.func59 rfl (by kernel_rfl) mixed fun E hE=>?_
  repeat' (conv=>whnf);first
   | (refine bcase_of (fun hr=>?_) (fun hr=>?_)<;>(try simp only[bs] at hr)<;>try(exfalso;first|omega|(simp at hr;done)))
   | (apply And.intro;· first|(show indep _ _=true;kernel_rfl)|exact n0|exact n1|exact⟨by omega,by omega⟩|(show Nat.beq _ _=false;rfl)|exact nd12)
   | (apply Exists.intro;apply And.intro;· first|exact rfl|exact c0|exact c1|exact c2|exact c3)
   | fail
  all_goals (conv=>whnf)
  all_goals rfl
end Go.Proofs.YtbppemcdphgknaaGreatDoor
