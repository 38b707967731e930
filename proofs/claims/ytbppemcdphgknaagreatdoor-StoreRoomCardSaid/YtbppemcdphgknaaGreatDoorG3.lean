/- A part of the proofs over the seat YtbppemcdphgknaaGreatDoor. -/
import Derived.Test.YtbppemcdphgknaaGreatDoorG2
import Derived.Test.YtbppemcdphgknaaGreatDoorT4
import Derived.Test.YtbppemcdphgknaaGreatDoorV29
set_option linter.unusedVariables false
set_option linter.unusedSimpArgs false
set_option maxRecDepth 100000
set_option maxHeartbeats 40000000
namespace Go.Proofs.YtbppemcdphgknaaGreatDoor
open Go Go.Vm
set_option maxRecDepth 100000
set_option maxHeartbeats 40000000
set_option linter.unusedSimpArgs false
set_option linter.unusedVariables false
theorem shut_stq (m:Name) (x:Cf) (ts:List DV) {zs:List DV} (hz:zs=ts) {n:Nat} (hn:ts.length=n):Shut (stoD x ts) [m] (stCells m x n) [.prow zs]:=by
 subst hz;exact shut_sto m x zs hn
section
variable {x:Cf} {Ts:List Tab} {i:Nat} {xs:List DV} {j:Nat} {T:Tab}
theorem sScan (h:SB x Ts i xs) (hT:Ts[j]?=some T) (ver:Int):ATriple Tryz.prog gv R0 61 [.ref (0,0) 0,i64V j,i64V ver] [.abs (stoD x xs)] (prsV (scanT x.c.m T ver)) [.abs (stoD x xs)] none:=by
 have n0:=pure_D x.c.d
 have n1:=pure_Nd x.ns
 have hlx:=h.lx
 have hlt:=h.lt
 have hn:=h.ok.n1
 have hjl:=(List.getElem?_eq_some_iff.1 hT).1
 obtain⟨T',y,i2,hT',hy,hi2,ht⟩:=h.at (j:=j) (by omega)
 rw[hT] at hT';cases hT'
 have aN:=node_at x xs (by omega) (i:=j) (by omega)
 have hds:lset xs j y=xs:=dset_same hy
 have hgy:lget xs j=some y:=by rw[lget_eq];exact hy
 have aS:=tScan ht ver
 have n2:=pure_Pr (scanT x.c.m T ver)
 refine ATriple.of_bodyW (C:=cxSt) Tryz.func61 rfl (by kernel_rfl) (mixedOf _) rfl (by simp[okA,okC,okN,co,pure_R,pure_nil]) (by simp[okOb,okC,okN,pure_D,pure_Nd]) (by simp[okG,okA,okC,okN,co,pure_R,pure_nil,pure_E,pure_Pr]) (by simp[okOb,okC,okN,pure_D,pure_Nd]) (fun o ho=>by cases ho) 1 [.opn (0,0) [12]] fun E hE=>?_
 all_goals exact kb40
theorem sChain (h:SB x Ts i xs) (hT:Ts[j]?=some T) {k:Int} (hk:KIn k):ATriple Tryz.prog gv R0 54 [.ref (0,0) 0,i64V j,coV k] [.abs (stoD x xs)] (chV (chT T k)) [.abs (stoD x xs)] none:=by
 have n0:=pure_D x.c.d
 have n1:=pure_Nd x.ns
 have hlx:=h.lx
 have hlt:=h.lt
 have hn:=h.ok.n1
 have hjl:=(List.getElem?_eq_some_iff.1 hT).1
 obtain⟨T',y,i2,hT',hy,hi2,ht⟩:=h.at (j:=j) (by omega)
 rw[hT] at hT';cases hT'
 have aN:=node_at x xs (by omega) (i:=j) (by omega)
 have hds:lset xs j y=xs:=dset_same hy
 have hgy:lget xs j=some y:=by rw[lget_eq];exact hy
 have aS:=tChain ht hk
 have n2:=pure_E (chT T k)
 refine ATriple.of_bodyW (C:=cxSt) Tryz.func54 rfl (by kernel_rfl) (mixedOf _) rfl (by simp[okA,okC,okN,co,pure_R,pure_nil]) (by simp[okOb,okC,okN,pure_D,pure_Nd]) (by simp[okG,okA,okC,okN,co,pure_R,pure_nil,pure_E,pure_Pr]) (by simp[okOb,okC,okN,pure_D,pure_Nd]) (fun o ho=>by cases ho) 1 [.opn (0,0) [12]] fun E hE=>?_
 all_goals exact kb40
theorem sNext (h:SB x Ts i xs) (hT:Ts[j]?=some T) (k:Int):ATriple Tryz.prog gv R0 60 [.ref (0,0) 0,i64V j,u32V k] [.abs (stoD x xs)] (nxR (nxT T k)) [.abs (stoD x xs)] none:=by
 have n0:=pure_D x.c.d
 have n1:=pure_Nd x.ns
 have hlx:=h.lx
 have hlt:=h.lt
 have hn:=h.ok.n1
 have hjl:=(List.getElem?_eq_some_iff.1 hT).1
 obtain⟨T',y,i2,hT',hy,hi2,ht⟩:=h.at (j:=j) (by omega)
 rw[hT] at hT';cases hT'
 have aN:=node_at x xs (by omega) (i:=j) (by omega)
 have hds:lset xs j y=xs:=dset_same hy
 have hgy:lget xs j=some y:=by rw[lget_eq];exact hy
 have aS:=tNext ht k
 cases hq:nxT T k with
 | none=>
  rw[hq] at aS
  refine ATriple.of_bodyW (C:=cxSt) Tryz.func60 rfl (by kernel_rfl) (mixedOf _) rfl (by simp[okA,okC,okN,co,pure_R,pure_nil]) (by simp[okOb,okC,okN,pure_D,pure_Nd]) (by simp[okG,okA,okC,okN,co,pure_R,pure_nil,pure_E,pure_Pr,nxR,atV]) (by simp[okOb,okC,okN,pure_D,pure_Nd]) (fun o ho=>by cases ho) 1 [.opn (0,0) [15]] fun E hE=>?_
  all_goals exact kb41
 | some e=>
  rw[hq] at aS
  refine ATriple.of_bodyW (C:=cxSt) Tryz.func60 rfl (by kernel_rfl) (mixedOf _) rfl (by simp[okA,okC,okN,co,pure_R,pure_nil]) (by simp[okOb,okC,okN,pure_D,pure_Nd]) (by simp[okG,okA,okC,okN,co,pure_R,pure_nil,pure_E,pure_Pr,nxR,atV]) (by simp[okOb,okC,okN,pure_D,pure_Nd]) (fun o ho=>by cases ho) 1 [.opn (0,0) [15]] fun E hE=>?_
  all_goals exact kb41
theorem sAt (h:SB x Ts i xs) (hT:Ts[j]?=some T) {k:Int} (hk:KIn k) (ver:Int):ATriple Tryz.prog gv R0 97 [.ref (0,0) 0,i64V j,coV k,i64V ver] [.abs (stoD x xs)] (atV (atS x.c.m (chT T k) ver)) [.abs (stoD x xs)] none:=by
 have n0:=pure_D x.c.d
 have n1:=pure_Nd x.ns
 have hlx:=h.lx
 have hlt:=h.lt
 have hn:=h.ok.n1
 have hjl:=(List.getElem?_eq_some_iff.1 hT).1
 obtain⟨T',y,i2,hT',hy,hi2,ht⟩:=h.at (j:=j) (by omega)
 rw[hT] at hT';cases hT'
 have aN:=node_at x xs (by omega) (i:=j) (by omega)
 have hds:lset xs j y=xs:=dset_same hy
 have hgy:lget xs j=some y:=by rw[lget_eq];exact hy
 have aS:=tAt ht hk ver
 cases hq:atS x.c.m (chT T k) ver with
 | none=>
  rw[hq] at aS
  have n2:=pure_R ([]:List (Int×Int))
  have n3:=pure_nil
  refine ATriple.of_bodyW (C:=cxSt) Tryz.func97 rfl (by kernel_rfl) (mixedOf _) rfl (by simp[okA,okC,okN,co,pure_R,pure_nil]) (by simp[okOb,okC,okN,pure_D,pure_Nd]) (by simp[okG,okA,okC,okN,co,pure_R,pure_nil,pure_E,pure_Pr,nxR,atV]) (by simp[okOb,okC,okN,pure_D,pure_Nd]) (fun o ho=>by cases ho) 1 [.opn (0,0) [18]] fun E hE=>?_
  all_goals exact kb42
 | some e=>
  rw[hq] at aS
  have n2:=pure_R e.p
  have n3:=pure_R e.q
  refine ATriple.of_bodyW (C:=cxSt) Tryz.func97 rfl (by kernel_rfl) (mixedOf _) rfl (by simp[okA,okC,okN,co,pure_R,pure_nil]) (by simp[okOb,okC,okN,pure_D,pure_Nd]) (by simp[okG,okA,okC,okN,co,pure_R,pure_nil,pure_E,pure_Pr,nxR,atV]) (by simp[okOb,okC,okN,pure_D,pure_Nd]) (fun o ho=>by cases ho) 1 [.opn (0,0) [18]] fun E hE=>?_
  all_goals exact kb42
end
end Go.Proofs.YtbppemcdphgknaaGreatDoor
namespace Go.Proofs.YtbppemcdphgknaaGreatDoor
open Go Go.Vm
theorem SB.set {x:Cf} {Ts:List Tab} {i:Nat} {xs:List DV} (h:SB x Ts i xs) {j:Nat} {T:Tab} {y:DV} {k:Nat} (hk:k≤i+1) (ht:TB x.c.m x.keep x.cap T k y):SB x (Ts.set j T) (i+1) (xs.set j y) where
 ok:=h.ok
 lt:=by rw[List.length_set];exact h.lt
 lx:=by rw[List.length_set];exact h.lx
 tb:=fun n S z h1 h2=>by
  rcases set_get h1 with⟨rfl,rfl,_⟩|⟨hne,h3⟩
  ·rcases set_get h2 with⟨_,rfl,_⟩|⟨hne,_⟩
   ·exact⟨k,hk,ht⟩
   ·exact absurd rfl hne
  ·rcases set_get h2 with⟨rfl,_⟩|⟨_,h4⟩
   ·exact absurd rfl hne
   ·obtain⟨q,h5,h6⟩:=h.tb n S z h3 h4
    exact⟨q,by omega,h6⟩
section
variable {x:Cf} {Ts:List Tab} {i:Nat} {xs:List DV} {j:Nat} {T:Tab}
theorem sUndo (h:SB x Ts i xs) (hi:i<400) (hT:Ts[j]?=some T) {k:Int} (hk:KIn k) (ver:Int):∃ys,ATriple Tryz.prog gv R0 48 [.ref (0,0) 0,i64V j,coV k,i64V ver] [.abs (stoD x xs)] (.bool (tUndo x.c.m x.cap T k ver).1) [.abs (stoD x ys)] none∧SB x (Ts.set j (tUndo x.c.m x.cap T k ver).2) (i+1) ys:=by
 have n0:=pure_D x.c.d
 have n1:=pure_Nd x.ns
 have hlx:=h.lx
 have hlt:=h.lt
 have hn:=h.ok.n1
 have hjl:=(List.getElem?_eq_some_iff.1 hT).1
 obtain⟨T',y,i2,hT',hy,hi2,ht⟩:=h.at (j:=j) (by omega)
 rw[hT] at hT';cases hT'
 have aN:=node_at x xs (by omega) (i:=j) (by omega)
 have hds:lset xs j y=xs:=dset_same hy
 have hgy:lget xs j=some y:=by rw[lget_eq];exact hy
 have hsl:∀z:DV,lset xs j z=xs.set j z:=fun z=>lset_eq ..
 obtain⟨y1,i1,aU,h1,hi1⟩:=tUndo_ok ht (by omega) hk ver
 obtain⟨bu,T1,hTU⟩:∃bu T1,tUndo x.c.m x.cap T k ver=(bu,T1):=⟨_,_,rfl⟩
 rw[hTU] at aU h1
 rw[hTU]
 simp only at aU h1 ⊢
 refine⟨xs.set j y1,?_,h.set (by omega) h1⟩
 cases bu
 all_goals
  refine ATriple.of_bodyW (C:=cxSt) Tryz.func48 rfl (by kernel_rfl) (mixedOf _) rfl (by simp[okA,okC,okN,co,pure_R,pure_nil]) (by simp[okOb,okC,okN,pure_D,pure_Nd]) (by simp[okG,okA,okC,okN,co,pure_R,pure_nil,pure_E,pure_Pr,nxR,atV]) (by simp[okOb,okC,okN,pure_D,pure_Nd]) (fun o ho=>by cases ho) 1 [.opn (0,0) [15]] fun E hE=>?_
  repeat' (conv=>whnf);first
   | (refine bcase_of (fun hr=>?_) (fun hr=>?_)<;>(try simp only[bs] at hr)<;>try(exfalso;first|omega|(simp at hr;done)))
   | (apply And.intro;· first|exact True.intro|(show indep _ _=true;kernel_rfl)|exact n0|exact n1|exact n2|exact n3|exact⟨n2,trivial⟩|exact⟨n2,n3,trivial⟩|exact⟨by omega,by omega⟩|exact⟨rfl,by decide⟩|(show Nat.beq _ _=false;rfl)|exact nd12)
   | (apply Exists.intro;apply And.intro;· first|exact rfl|exact hgy)
   | (apply Exists.intro;apply Exists.intro;apply Exists.intro;apply And.intro;· first|(refine ATriple.callN (aN) ?_ ?_ ?_<;>rfl))
   | (apply Exists.intro;apply Exists.intro;apply And.intro;· first|(refine ATriple.callS (aU) ?_ ?_<;>(intro m d;rfl)))
   | fail
  all_goals (conv=>whnf)
  all_goals refine⟨[.shut (0,0) (stoD x (xs.set j y1))],?_⟩
  all_goals (conv=>whnf)
  all_goals refine⟨shut_stq (16,1) x (xs.set j y1) (hsl y1) (by simp),?_⟩
  all_goals (conv=>whnf)
  all_goals exact⟨rfl,rfl⟩
end
end Go.Proofs.YtbppemcdphgknaaGreatDoor
namespace Go.Proofs.YtbppemcdphgknaaGreatDoor
open Go Go.Vm
end Go.Proofs.YtbppemcdphgknaaGreatDoor
namespace Go.Proofs.YtbppemcdphgknaaGreatDoor
open Go Go.Vm
end Go.Proofs.YtbppemcdphgknaaGreatDoor
namespace Go.Proofs.YtbppemcdphgknaaGreatDoor
open Go Go.Vm
def sPutR (x:Cf) (Ts:List Tab) (j:Nat) (T:Tab) (k ver:Int) (c:En) (b:Bool) (f:Int):Int×List Tab:=
 if rightP x.c ((x.ns[j]?).getD 0) k then
  (if(tPut x.c.m x.keep x.cap T k ver c b f).1=0∧x.cap<(lenS (Ts.set j (tPut x.c.m x.keep x.cap T k ver c b f).2):Int) then(10,Ts.set j (tUndo x.c.m x.cap (tPut x.c.m x.keep x.cap T k ver c b f).2 k ver).2)
  else((tPut x.c.m x.keep x.cap T k ver c b f).1,Ts.set j (tPut x.c.m x.keep x.cap T k ver c b f).2))
 else(1,Ts)
theorem lenS_set:∀{Ts:List Tab} {j:Nat} {T T':Tab},Ts[j]?=some T→lenS (Ts.set j T')+T.length=lenS Ts+T'.length
 | [],_,_,_,h=>by simp at h
 | a::r,0,T,T',h=>by
  have:a=T:=by simpa using h
  subst this
  simp only[lenS,List.set_cons_zero,List.map_cons,List.sum_cons];omega
 | a::r,j+1,T,T',h=>by
  have:=lenS_set (Ts:=r) (j:=j) (T:=T) (T':=T') (by simpa using h)
  simp only[lenS,List.set_cons_succ,List.map_cons,List.sum_cons] at this ⊢;omega
theorem lenS_ge {Ts:List Tab} {j:Nat} {T:Tab} (h:Ts[j]?=some T):T.length≤lenS Ts:=by
 have:=lenS_set (T':=[]) h
 simp at this;omega
theorem del_ins {α:Type}:∀(l:List (Int×α)) (k:Int) (v:α),del (ins l k v) k=del l k
 | [],k,v=>by simp[ins,del]
 | a::r,k,v=>by
  unfold ins
  split
  ·rename_i h
   have:=del_ins r k v
   unfold del at this ⊢
   rw[List.filter_cons,List.filter_cons,this]
  ·split
   ·rename_i h1 h2
    unfold del
    rw[List.filter_cons,List.filter_cons,h2];simp
   ·rename_i h1 h2
    unfold del
    rw[List.filter_cons];simp
theorem set_eq {α:Type} {l:List α} {j:Nat} {a:α} (h:l[j]?=some a):l.set j a=l:=by
 refine List.ext_getElem? fun i=>?_
 rw[List.getElem?_set]
 split
 ·rename_i e
  subst e
  have:=(List.getElem?_eq_some_iff.1 h).1
  rw[if_pos this,h]
 ·rfl
theorem undo_new {m keep cap:Int} {T:Tab} {k ver f:Int} {c:En} {b:Bool} {l:List En} (hk:2≤keep) (hg:get T k=none) (hp:putA m keep [] ver c b f=some l) (hl:0<l.length):(tUndo m cap (ins T k l) k ver).2=T:=by
 have h1:l=[newE ver 1 c]:=by
  unfold putA at hp
  split at hp
  ·cases hp
  ·split at hp
   ·cases hp
   ·cases hp
    cases b with
    | false=>
     rw[show putS [] ver c false=[] from rfl] at hl
     unfold afterP at hl
     rw[if_neg (by simp;omega)] at hl
     simp at hl
    | true=>simp[putS,afterP];intro h;omega
 subst h1
 have hc:chT (ins T k [newE ver 1 c]) k=[newE ver 1 c]:=by unfold chT;rw[get_ins,if_pos rfl];rfl
 have hu:undoS m [newE ver 1 c] ver=[]:=by
  unfold undoS
  split
  ·rfl
  ·simp[newE]
 have hlv:lastV [newE ver 1 c] ver=true:=by simp[lastV,newE]
 unfold tUndo
 rw[hc,hlv,hu]
 simp only[if_true]
 unfold setT
 rw[if_pos (by simp[okT])]
 simp only[List.isEmpty_nil,if_true]
 rw[del_ins,del_none hg]
theorem sput_same {x:Cf} {Ts:List Tab} {j:Nat} {T:Tab} (hT:Ts[j]?=some T) (ht:TIn T) (hkeep:2≤x.keep) (hcap:(lenS Ts:Int)≤x.cap) (k ver:Int) (c:En) (b:Bool) (f:Int) (hR:rightP x.c ((x.ns[j]?).getD 0) k=true) :
  sPutR x Ts j T k ver c b f=((rPut x.c.m x.keep x.cap T k ver c b f (lenS Ts)).1,Ts.set j (rPut x.c.m x.keep x.cap T k ver c b f (lenS Ts)).2)∧(lenS (Ts.set j (rPut x.c.m x.keep x.cap T k ver c b f (lenS Ts)).2):Int)≤x.cap:=by
 obtain⟨hs,_,hin⟩:=ht
 have hset:Ts.set j T=Ts:=set_eq hT
 unfold sPutR
 rw[if_pos hR]
 unfold rPut tPut
 cases hp:putA x.c.m x.keep (chT T k) ver c b f with
 | none=>simp[hset,hcap]
 | some l=>
  simp only
  have hgn:(chT T k).length=0→get T k=none:=fun h=>by
   cases hg:get T k with
   | none=>rfl
   | some l'=>
    have:=(hin _ (get_mem hg)).2.2.1
    unfold chT at h
    rw[hg] at h
    exact absurd (List.length_eq_zero_iff.1 h) this
  have hls:=fun T':Tab=>lenS_set (T':=T') hT
  have hge:=lenS_ge hT
  by_cases hnew:(chT T k).length=0∧0<l.length
  ·obtain⟨hz,hl⟩:=hnew
   have hg:=hgn hz
   have hne:l.isEmpty=false:=by cases l with|nil=>simp at hl|cons a r=>rfl
   have hok:okT x.cap T k l=decide ((T.length:Int)<x.cap):=by unfold okT;rw[hne,hg];simp
   have hlen:(ins T k l).length=T.length+1:=ins_len_new l hg
   have h5:=hls (ins T k l)
   by_cases hc:(T.length:Int)<x.cap
   ·have hset2:setT x.cap T k l=ins T k l:=by unfold setT;rw[if_pos (by rw[hok];exact decide_eq_true hc),hne];rfl
    rw[hok,decide_eq_true hc,hset2]
    simp only[if_true]
    by_cases hfull:x.cap≤(lenS Ts:Int)
    ·have hpn:putA x.c.m x.keep [] ver c b f=some l:=by rw[←hp,List.length_eq_zero_iff.1 hz]
     have hu:=undo_new (cap:=x.cap) hkeep hg hpn hl
     rw[if_pos (by constructor<;>first|trivial|omega),if_pos ⟨hz,hl,hfull⟩,hu]
     exact⟨rfl,by simp only[hset];exact hcap⟩
    ·rw[if_neg (fun h=>by omega),if_neg (fun h=>hfull h.2.2)]
     have hlay:layT T k l=ins T k l:=by unfold layT;rw[hne];rfl
     rw[hlay]
     exact⟨rfl,by simp only;omega⟩
   ·have hset2:setT x.cap T k l=T:=by unfold setT;rw[if_neg (by rw[hok,decide_eq_false hc];simp)]
    rw[hok,decide_eq_false hc,hset2]
    have hfull:x.cap≤(lenS Ts:Int):=by omega
    simp only[Bool.false_eq_true,if_false]
    rw[if_neg (fun h=>by have:=h.1;omega),if_pos ⟨hz,hl,hfull⟩]
    simp[hset,hcap]
  ·have hok:okT x.cap T k l=true:=by
    unfold okT
    by_cases hl:l=[]
    ·subst hl;rfl
    ·have:(chT T k).length≠0:=fun h=>hnew ⟨h,by cases l with|nil=>exact absurd rfl hl|cons a r=>simp⟩
     rw[chT_some (fun h=>this (by rw[h];rfl))];simp
   have hset2:setT x.cap T k l=layT T k l:=by unfold setT layT;rw[if_pos hok]
   have hlen:(layT T k l).length≤T.length:=by
    unfold layT
    by_cases hl:l=[]
    ·subst hl
     simp only[List.isEmpty_nil,if_true]
     exact List.length_filter_le ..
    ·have h0:(chT T k).length≠0:=fun h=>hnew ⟨h,by cases l with|nil=>exact absurd rfl hl|cons a r=>simp⟩
     cases hg:get T k with
     | none=>unfold chT at h0;rw[hg] at h0;exact absurd rfl h0
     | some u=>
      have:l.isEmpty=false:=by cases l with|nil=>exact absurd rfl hl|cons a r=>rfl
      rw[this]
      simp only[Bool.false_eq_true,if_false]
      rw[ins_len_old l hs hg];exact Nat.le_refl _
   have h5:=hls (layT T k l)
   rw[hok,hset2]
   simp only[if_true]
   rw[if_neg (fun h=>by omega),if_neg (fun h=>hnew ⟨h.1,h.2.1⟩)]
   exact⟨rfl,by simp only;omega⟩
end Go.Proofs.YtbppemcdphgknaaGreatDoor
namespace Go.Proofs.YtbppemcdphgknaaGreatDoor
open Go Go.Vm
noncomputable def cxSp:Cx DV:=cxOf [(100,3),(42,7),(22,1),(26,1)]
theorem SB.up {x:Cf} {Ts:List Tab} {i:Nat} {xs:List DV} (h:SB x Ts i xs) {n:Nat} (hn:i≤n):SB x Ts n xs:=⟨h.ok,h.lt,h.lx,fun j T y h1 h2=>by
 obtain⟨k,h3,h4⟩:=h.tb j T y h1 h2
 exact⟨k,by omega,h4⟩⟩
theorem sPut {x:Cf} {Ts:List Tab} {i:Nat} {xs:List DV} {j:Nat} {T:Tab} (h:SB x Ts i xs) (hi:i<398) (hT:Ts[j]?=some T) {k:Int} (hk:KIn k) (ver:Int) {c:En} (hc:EnIn c) (b:Bool) (f:Int) :
  ∃ys,ATriple Tryz.prog gv R0 47 [.ref (0,0) 0,i64V j,coV k,i64V ver,cellE c,.bool b,i64V f] [.abs (stoD x xs)] (i64V (sPutR x Ts j T k ver c b f).1) [.abs (stoD x ys)] none∧SB x (sPutR x Ts j T k ver c b f).2 (i+2) ys:=by
 have n0:=pure_D x.c.d
 have n1:=pure_Nd x.ns
 have hlx:=h.lx
 have hlt:=h.lt
 have hn:=h.ok.n1
 have hjl:=(List.getElem?_eq_some_iff.1 hT).1
 obtain⟨T',y,i2,hT',hy,hi2,ht⟩:=h.at (j:=j) (by omega)
 rw[hT] at hT';cases hT'
 have aN:=node_at x xs (by omega) (i:=j) (by omega)
 have hds:lset xs j y=xs:=dset_same hy
 have hgy:lget xs j=some y:=by rw[lget_eq];exact hy
 have hsl:∀z:DV,lset xs j z=xs.set j z:=fun z=>lset_eq ..
 obtain⟨v,hv⟩:∃v,x.ns[j]?=some v:=⟨_,List.getElem?_eq_getElem (by omega)⟩
 have hvi:=h.ok.toCfIn.n v (List.mem_of_getElem? hv)
 have gv1:=getNd hv
 have c0:=right101 x.c h.ok.toCfIn.c hvi hk
 have n2:=pure_R c.p
 have n3:=pure_R c.q
 have l1:=lenNd x.ns
 cases hR:rightP x.c v k with
 | false=>
  rw[hR] at c0
  have hs:sPutR x Ts j T k ver c b f=(1,Ts):=by unfold sPutR;rw[hv];simp[hR]
  rw[hs]
  refine⟨xs,?_,h.up (by omega)⟩
  cases b
  all_goals
  refine ATriple.of_bodyW (C:=cxSp) Tryz.func47 rfl (by kernel_rfl) (mixedOf _) rfl (by simp[okA,okC,okN,co,pure_R,pure_nil]) (by simp[okOb,okC,okN,pure_D,pure_Nd]) (by simp[okG,okA,okC,okN,co,pure_R,pure_nil,pure_E,pure_Pr,nxR,atV]) (by simp[okOb,okC,okN,pure_D,pure_Nd]) (fun o ho=>by cases ho) 1 [.opn (0,0) [64]] fun E hE=>?_
  repeat' (conv=>whnf);first
   | (refine bcase_of (fun hr=>?_) (fun hr=>?_)<;>(try simp only[bs] at hr)<;>try(exfalso;first|omega|(simp at hr;done)))
   | (apply And.intro;· first|exact True.intro|(show indep _ _=true;kernel_rfl)|exact n0|exact n1|exact n2|exact n3|exact⟨by omega,by omega⟩|exact⟨rfl,by decide⟩|(show Nat.beq _ _=false;rfl)|exact nd12)
   | (apply Exists.intro;apply And.intro;· first|exact rfl|exact hgy|exact gv1|exact c0|exact hgy1)
   | (apply Exists.intro;apply Exists.intro;apply Exists.intro;apply And.intro;· first|(refine ATriple.callN (aN) ?_ ?_ ?_<;>rfl))
   | fail
  all_goals (conv=>whnf)
  all_goals refine⟨[.shut (0,0) (stoD x xs)],?_⟩
  all_goals (conv=>whnf)
  all_goals refine⟨shut_stq (65,1) x xs (rfl) (by simp),?_⟩
  all_goals (conv=>whnf)
  all_goals exact⟨rfl,rfl⟩
 | true=>
 rw[hR] at c0
 obtain⟨y1,i1,aP,h1,hi1⟩:=tPut_ok ht (by omega) hk ver hc b f
 obtain⟨er,T1,hTP⟩:∃er T1,tPut x.c.m x.keep x.cap T k ver c b f=(er,T1):=⟨_,_,rfl⟩
 rw[hTP] at aP h1
 simp only at aP h1
 have hS1:=h.set (j:=j) (by omega) h1
 have hl1:(xs.set j y1).length=xs.length:=by rw[List.length_set]
 have aL:=lenN42 hS1
 rw[hl1] at aL
 have hgy1:lget (xs.set j y1) j=some y1:=by rw[lget_eq,List.getElem?_set_self (by omega)]
 obtain⟨L,hL⟩:∃L:Int,(lenS (Ts.set j T1):Int)=L:=⟨_,rfl⟩
 rw[hL] at aL
 by_cases hfull:er=0∧x.cap<L
 case pos=>
  obtain⟨he,hf⟩:=hfull
  obtain⟨y2,i2',aU,h2,hi2'⟩:=tUndo_ok h1 (by omega) hk ver
  have hs:sPutR x Ts j T k ver c b f=(10,Ts.set j (tUndo x.c.m x.cap T1 k ver).2):=by unfold sPutR;rw[hv,hTP];simp only[Option.getD_some,hR,if_true,hL];rw[if_pos ⟨he,hf⟩]
  rw[hs]
  have hss:lset (xs.set j y1) j y2=xs.set j y2:=by rw[lset_eq,List.set_set]
  have hl2:(xs.set j y2).length=xs.length:=by rw[List.length_set]
  refine⟨xs.set j y2,?_,(h.up (n:=i+1) (by omega)).set (by omega) h2⟩
  cases b
  all_goals
  refine ATriple.of_bodyW (C:=cxSp) Tryz.func47 rfl (by kernel_rfl) (mixedOf _) rfl (by simp[okA,okC,okN,co,pure_R,pure_nil]) (by simp[okOb,okC,okN,pure_D,pure_Nd]) (by simp[okG,okA,okC,okN,co,pure_R,pure_nil,pure_E,pure_Pr,nxR,atV]) (by simp[okOb,okC,okN,pure_D,pure_Nd]) (fun o ho=>by cases ho) 1 [.opn (0,0) [64]] fun E hE=>?_
  repeat' (conv=>whnf);first
   | (refine bcase_of (fun hr=>?_) (fun hr=>?_)<;>(try simp only[bs] at hr)<;>try(exfalso;first|omega|(simp at hr;done)))
   | (apply And.intro;· first|exact True.intro|(show indep _ _=true;kernel_rfl)|exact n0|exact n1|exact n2|exact n3|exact⟨by omega,by omega⟩|exact⟨rfl,by decide⟩|(show Nat.beq _ _=false;rfl)|exact nd12)
   | (apply Exists.intro;apply And.intro;· first|exact rfl|exact hgy|exact gv1|exact c0|exact hgy1)
   | (apply Exists.intro;apply Exists.intro;apply Exists.intro;apply And.intro;· first|(refine ATriple.callN (aN) ?_ ?_ ?_<;>rfl))
   | rw[hsl y1]
   | (apply Exists.intro;apply Exists.intro;apply And.intro;· first|(refine ATriple.callS (aP) ?_ ?_<;>(intro m d;rfl))|(refine ATriple.callS (aU) ?_ ?_<;>(intro m d;rfl)))
   | (apply Exists.intro;apply And.intro;· first|(refine ATriple.callK (aL) ?_ ?_ ?_ ?_<;>first|rfl|(intro d;rfl)))
   | fail
  all_goals (conv=>whnf)
  all_goals refine⟨[.shut (0,0) (stoD x (xs.set j y2))],?_⟩
  all_goals (conv=>whnf)
  all_goals refine⟨shut_stq (65,1) x (xs.set j y2) (by first|rfl|exact hss) (by simp),?_⟩
  all_goals (conv=>whnf)
  all_goals exact⟨rfl,rfl⟩
 case neg=>
  have hs:sPutR x Ts j T k ver c b f=(er,Ts.set j T1):=by unfold sPutR;rw[hv,hTP];simp only[Option.getD_some,hR,if_true,hL];rw[if_neg hfull]
  rw[hs]
  refine⟨xs.set j y1,?_,hS1.up (by omega)⟩
  by_cases he:er=0
  case pos=>
   have hf:¬x.cap<L:=fun hf=>hfull ⟨he,hf⟩
   cases b
   all_goals
   refine ATriple.of_bodyW (C:=cxSp) Tryz.func47 rfl (by kernel_rfl) (mixedOf _) rfl (by simp[okA,okC,okN,co,pure_R,pure_nil]) (by simp[okOb,okC,okN,pure_D,pure_Nd]) (by simp[okG,okA,okC,okN,co,pure_R,pure_nil,pure_E,pure_Pr,nxR,atV]) (by simp[okOb,okC,okN,pure_D,pure_Nd]) (fun o ho=>by cases ho) 1 [.opn (0,0) [64]] fun E hE=>?_
   all_goals exact kb43
  case neg=>
   cases b
   all_goals
   refine ATriple.of_bodyW (C:=cxSp) Tryz.func47 rfl (by kernel_rfl) (mixedOf _) rfl (by simp[okA,okC,okN,co,pure_R,pure_nil]) (by simp[okOb,okC,okN,pure_D,pure_Nd]) (by simp[okG,okA,okC,okN,co,pure_R,pure_nil,pure_E,pure_Pr,nxR,atV]) (by simp[okOb,okC,okN,pure_D,pure_Nd]) (fun o ho=>by cases ho) 1 [.opn (0,0) [64]] fun E hE=>?_
   all_goals exact kb43
end Go.Proofs.YtbppemcdphgknaaGreatDoor
