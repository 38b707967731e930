/- A part of the proofs over the seat YtbppemcdphgknaaGreatDoor. -/
import Derived.Test.YtbppemcdphgknaaGreatDoorT2
import Derived.Test.YtbppemcdphgknaaGreatDoorC8
set_option linter.unusedVariables false
set_option linter.unusedSimpArgs false
set_option maxRecDepth 100000
set_option maxHeartbeats 40000000
namespace Go.Proofs.YtbppemcdphgknaaGreatDoor
open Go Go.Vm
set_option maxRecDepth 100000
set_option maxHeartbeats 40000000
set_option linter.unusedSimpArgs false
set_option linter.unusedVariables false
variable {M K C:Int} {Tb:Tab}
theorem TIn.ch (h:TIn Tb) (k:Int):ChIn (chT Tb k)∧(chT Tb k).length≤9:=by
 unfold chT
 cases hg:get Tb k with
 | none=>exact⟨⟨by simp,fun e he=>by cases he⟩,by simp⟩
 | some l=>exact⟨(h.2.2 _ (get_mem hg)).2.1,(h.2.2 _ (get_mem hg)).2.2.2⟩
def rPut (M K C:Int) (Tb:Tab) (k ver:Int) (c:En) (b:Bool) (floor all:Int):Int×Tab:=match putA M K (chT Tb k) ver c b floor with
 | none=>(1,Tb)
 | some l=>if(chT Tb k).length=0∧0<l.length∧C≤all then(10,Tb) else(0,layT Tb k l)
theorem rPut_ok (ht:TIn Tb) {k:Int} (hk:KIn k) (ver:Int) {c:En} (hc:EnIn c) (b:Bool) (floor all:Int) (hK:K≤8) :
  ATriple Tryz.prog gv R0 84 [.ref (0,0) 0,coV k,i64V ver,cellE c,.bool b,i64V floor,i64V all] [.box (rtV M K C Tb)] (i64V (rPut M K C Tb k ver c b floor all).1) [.box (rtV M K C (rPut M K C Tb k ver c b floor all).2)] none:=by
 have hch:=ht.ch k
 have a0:=rChain (M:=M) (K:=K) (C:=C) ht hk
 have c0:=Put13_ok M K ver floor (chT Tb k) c b hch.1 (by omega) hc
 have n0:=pure_E (chT Tb k)
 have n1:=pure_R c.p
 have n2:=pure_R c.q
 have lL:((chT Tb k).map encE).length=(chT Tb k).length:=by simp
 unfold rPut
 cases hp:putA M K (chT Tb k) ver c b floor with
 | none=>
  rw[hp] at c0
  dsimp only
  cases b
  all_goals
   refine ATriple.of_bodyW (C:=cxR) Tryz.func84 rfl (by kernel_rfl) (mixedOf _) rfl (by simp[okA,okC,okN,co,pure_R,pure_nil,pure_Tb]) (by simp[okOb,okC,okN,pure_R,pure_nil,pure_Tb]) (by simp[okG,okA,okC,okN,co,pure_R,pure_nil,pure_Tb]) (by simp[okOb,okC,okN,pure_R,pure_nil,pure_Tb]) (fun o ho=>by cases ho) 0 [] fun E hE=>?_
   exact go
 | some l=>
  rw[hp] at c0
  dsimp only
  have n3:=pure_E l
  have lP:(l.map encE).length=l.length:=by simp
  have a1:=rLay (M:=M) (K:=K) (C:=C) ht hk l
  obtain⟨T2,hT2⟩:∃z,z=layT Tb k l:=⟨_,rfl⟩
  rw[←hT2] at a1 ⊢
  by_cases hf:(chT Tb k).length=0∧0<l.length∧C≤all
  ·rw[if_pos hf]
   obtain⟨hf1,hf2,hf3⟩:=hf
   cases b
   all_goals
    refine ATriple.of_bodyW (C:=cxR) Tryz.func84 rfl (by kernel_rfl) (mixedOf _) rfl (by simp[okA,okC,okN,co,pure_R,pure_nil,pure_Tb]) (by simp[okOb,okC,okN,pure_R,pure_nil,pure_Tb]) (by simp[okG,okA,okC,okN,co,pure_R,pure_nil,pure_Tb]) (by simp[okOb,okC,okN,pure_R,pure_nil,pure_Tb]) (fun o ho=>by cases ho) 0 [] fun E hE=>?_
    exact go
  ·rw[if_neg hf]
   cases b
   all_goals
    refine ATriple.of_bodyW (C:=cxR) Tryz.func84 rfl (by kernel_rfl) (mixedOf _) rfl (by simp[okA,okC,okN,co,pure_R,pure_nil,pure_Tb]) (by simp[okOb,okC,okN,pure_R,pure_nil,pure_Tb]) (by simp[okG,okA,okC,okN,co,pure_R,pure_nil,pure_Tb]) (by simp[okOb,okC,okN,pure_R,pure_nil,pure_Tb]) (fun o ho=>by cases ho) 0 [] fun E hE=>?_
    exact go
def rUndo (M:Int) (Tb:Tab) (k ver:Int):Bool×Tab:=if lastV (chT Tb k) ver then(true,layT Tb k (undoS M (chT Tb k) ver)) else(false,Tb)
theorem rUndo_ok (ht:TIn Tb) {k:Int} (hk:KIn k) (ver:Int) :
  ATriple Tryz.prog gv R0 85 [.ref (0,0) 0,coV k,i64V ver] [.box (rtV M K C Tb)] (.bool (rUndo M Tb k ver).1) [.box (rtV M K C (rUndo M Tb k ver).2)] none:=by
 have hch:=ht.ch k
 have a0:=rChain (M:=M) (K:=K) (C:=C) ht hk
 have n0:=pure_E (chT Tb k)
 have lL:((chT Tb k).map encE).length=(chT Tb k).length:=by simp
 cases he:(chT Tb k)[(chT Tb k).length-1]? with
 | none=>
  have hz:(chT Tb k).length=0:=by have:=List.getElem?_eq_none_iff.1 he;omega
  have hu:rUndo M Tb k ver=(false,Tb):=by unfold rUndo lastV;rw[he];rfl
  rw[hu]
  refine ATriple.of_bodyW (C:=cxR) Tryz.func85 rfl (by kernel_rfl) (mixedOf _) rfl (by simp[okA,okC,okN,co,pure_Tb]) (by simp[okOb,okC,okN,pure_Tb]) (by simp[okG,okA,okC,okN,co,pure_Tb]) (by simp[okOb,okC,okN,pure_Tb]) (fun o ho=>by cases ho) 0 [] fun E hE=>?_
  exact go
 | some e=>
  have hz:=(List.getElem?_eq_some_iff.1 he).1
  have w0:IntKind.i64.wrap ((((chT Tb k).map encE).length:Int)-1)=(((chT Tb k).length-1:Nat):Int):=(wrap64 (by omega) (by omega)).trans (by omega)
  have c1:lget ((chT Tb k).map encE) ((((chT Tb k).length-1:Nat):Int)).toNat=some (encE e):=by rw[lget_eq,Int.toNat_natCast,List.getElem?_map,he];rfl
  by_cases hv:e.v=ver
  ·have hu:rUndo M Tb k ver=(true,layT Tb k (undoS M (chT Tb k) ver)):=by unfold rUndo lastV;rw[he];simp[hv]
   rw[hu]
   have c0:=Undo13_ok M (chT Tb k) ver hch.1
   have n3:=pure_E (undoS M (chT Tb k) ver)
   have a1:=rLay (M:=M) (K:=K) (C:=C) ht hk (undoS M (chT Tb k) ver)
   obtain⟨T2,hT2⟩:∃z,z=layT Tb k (undoS M (chT Tb k) ver):=⟨_,rfl⟩
   rw[←hT2] at a1 ⊢
   refine ATriple.of_bodyW (C:=cxR) Tryz.func85 rfl (by kernel_rfl) (mixedOf _) rfl (by simp[okA,okC,okN,co,pure_Tb]) (by simp[okOb,okC,okN,pure_Tb]) (by simp[okG,okA,okC,okN,co,pure_Tb]) (by simp[okOb,okC,okN,pure_Tb]) (fun o ho=>by cases ho) 0 [] fun E hE=>?_
   exact go
  ·have hu:rUndo M Tb k ver=(false,Tb):=by unfold rUndo lastV;rw[he];simp[hv]
   rw[hu]
   refine ATriple.of_bodyW (C:=cxR) Tryz.func85 rfl (by kernel_rfl) (mixedOf _) rfl (by simp[okA,okC,okN,co,pure_Tb]) (by simp[okOb,okC,okN,pure_Tb]) (by simp[okG,okA,okC,okN,co,pure_Tb]) (by simp[okOb,okC,okN,pure_Tb]) (fun o ho=>by cases ho) 0 [] fun E hE=>?_
   exact go
def rPrune (M:Int) (Tb:Tab) (k floor:Int):Bool×Tab:=if(chT Tb k).length=0 then(false,Tb) else(decide ((pruneS M (chT Tb k) floor).length=0),layT Tb k (pruneS M (chT Tb k) floor))
theorem rPrune_ok (ht:TIn Tb) {k:Int} (hk:KIn k) (floor:Int) :
  ATriple Tryz.prog gv R0 86 [.ref (0,0) 0,coV k,i64V floor] [.box (rtV M K C Tb)] (.bool (rPrune M Tb k floor).1) [.box (rtV M K C (rPrune M Tb k floor).2)] none:=by
 have hch:=ht.ch k
 have a0:=rChain (M:=M) (K:=K) (C:=C) ht hk
 have n0:=pure_E (chT Tb k)
 have lL:((chT Tb k).map encE).length=(chT Tb k).length:=by simp
 unfold rPrune
 by_cases hz:(chT Tb k).length=0
 ·rw[if_pos hz]
  refine ATriple.of_bodyW (C:=cxR) Tryz.func86 rfl (by kernel_rfl) (mixedOf _) rfl (by simp[okA,okC,okN,co,pure_Tb]) (by simp[okOb,okC,okN,pure_Tb]) (by simp[okG,okA,okC,okN,co,pure_Tb]) (by simp[okOb,okC,okN,pure_Tb]) (fun o ho=>by cases ho) 0 [] fun E hE=>?_
  exact go
 ·rw[if_neg hz]
  have c0:=Prune13_ok M (chT Tb k) floor hch.1
  have n3:=pure_E (pruneS M (chT Tb k) floor)
  have lP:((pruneS M (chT Tb k) floor).map encE).length=(pruneS M (chT Tb k) floor).length:=by simp
  have a1:=rLay (M:=M) (K:=K) (C:=C) ht hk (pruneS M (chT Tb k) floor)
  obtain⟨T2,hT2⟩:∃z,z=layT Tb k (pruneS M (chT Tb k) floor):=⟨_,rfl⟩
  dsimp only
  rw[←hT2] at a1 ⊢
  by_cases hp:(pruneS M (chT Tb k) floor).length=0
  ·rw[decide_eq_true hp]
   refine ATriple.of_bodyW (C:=cxR) Tryz.func86 rfl (by kernel_rfl) (mixedOf _) rfl (by simp[okA,okC,okN,co,pure_Tb]) (by simp[okOb,okC,okN,pure_Tb]) (by simp[okG,okA,okC,okN,co,pure_Tb]) (by simp[okOb,okC,okN,pure_Tb]) (fun o ho=>by cases ho) 0 [] fun E hE=>?_
   exact go
  ·rw[decide_eq_false hp]
   refine ATriple.of_bodyW (C:=cxR) Tryz.func86 rfl (by kernel_rfl) (mixedOf _) rfl (by simp[okA,okC,okN,co,pure_Tb]) (by simp[okOb,okC,okN,pure_Tb]) (by simp[okG,okA,okC,okN,co,pure_Tb]) (by simp[okOb,okC,okN,pure_Tb]) (fun o ho=>by cases ho) 0 [] fun E hE=>?_
   exact go
def goodT (m keep most:Int):Bool:=decide ((1≤m∧m≤2)∧(2≤keep∧keep≤8)∧0≤most∧most≤2000)
theorem good18 (m keep most:Int):PTriple Tryz.prog gv 18 [i64V m,i64V keep,i64V most] (.bool (goodT m keep most)):=by
 unfold goodT
 by_cases h:(1≤m∧m≤2)∧(2≤keep∧keep≤8)∧0≤most∧most≤2000
 ·rw[decide_eq_true h]
  obtain⟨⟨h1,h2⟩,⟨h3,h4⟩,h5,h6⟩:=h
  refine PTriple.of_body (C:=cx) Tryz.func18 rfl (by kernel_rfl) mixed fun E hE=>?_
  exact go
 ·rw[decide_eq_false h]
  refine PTriple.of_body (C:=cx) Tryz.func18 rfl (by kernel_rfl) mixed fun E hE=>?_
  exact go
end Go.Proofs.YtbppemcdphgknaaGreatDoor
namespace Go.Proofs.YtbppemcdphgknaaGreatDoor
open Go Go.Vm
variable {m keep cap:Int} {Tb:Tab} {i:Nat} {x:DV}
theorem capOf_eq {n:Int} (h:0≤n∧n≤2000):capOf n=n:=by unfold capOf;split<;>split<;>omega
theorem tNew (hg:(1≤m∧m≤2)∧(2≤keep∧keep≤8)∧0≤cap∧cap≤2000):∃x,ATriple Tryz.prog gv R0 27 [i64V m,i64V keep,i64V cap] [] (.ref (0,0) 0) [] (some (.abs x))∧TB m keep cap [] 0 x:=by
 obtain⟨⟨h1,h2⟩,⟨h3,h4⟩,h5,h6⟩:=hg
 have a0:=newF cap
 rw[capOf_eq ⟨h5,h6⟩] at a0
 have a1:=T.new_ok
 refine⟨tbD (slF cap 0 0 []) (T.trD [[]] [] 0 0 0) m keep,?_,⟨[],_,_,rfl,⟨⟨0,[],[[]],[],0,0,rfl,rfl,SL.start ⟨h5,h6⟩,T.TS.new,by simp,by simp⟩,by omega⟩,rfl⟩,⟨h1,h2⟩,⟨h3,h4⟩,fun e he=>(by cases he),fun e he=>(by cases he)⟩
 obtain⟨sl,hsl⟩:∃z,z=slF cap 0 0 []:=⟨_,rfl⟩
 obtain⟨tr,htr⟩:∃z,z=T.trD [[]] [] 0 0 0:=⟨_,rfl⟩
 rw[←hsl] at a0 ⊢
 rw[←htr] at a1 ⊢
 refine ATriple.of_bodyW (C:=cxB) Tryz.func27 rfl (by kernel_rfl) (mixedOf _) rfl (by simp[okA,okC,okN,co]) (by simp[okOb,okC,okN]) (by simp[okG,okA,okC,okN,co]) (by simp[okOb,okC,okN]) (fun o ho=>by cases ho;exact⟨by simp[okOb],rfl⟩) 0 [] fun E hE=>?_
 repeat' (conv=>whnf);first
  | (refine bcase_of (fun hr=>?_) (fun hr=>?_)<;>(try simp only[bs] at hr)<;>try(exfalso;first|omega|(simp at hr;done)))
  | (apply And.intro;· first|exact nd13)
  | (apply Exists.intro;apply And.intro;· first|exact rfl)
  | (apply Exists.intro;apply Exists.intro;apply Exists.intro;apply And.intro;· first|(refine ATriple.callN (a0) ?_ ?_ ?_<;>rfl)|(refine ATriple.callN (a1) ?_ ?_ ?_<;>rfl))
  | fail
 all_goals (conv=>whnf)
 all_goals (refine⟨[.shut (37,1) (tbD sl tr m keep)],?_⟩;(conv=>whnf);refine⟨shut_tb _ _ _ _ _ _,?_⟩;(conv=>whnf);exact⟨(37,1),by decide,rfl,rfl,rfl,rfl⟩)
theorem find_next {α:Type}:∀{q:List (Int×α)} {j:Nat} {e:Int×α},Sr q→q[j]?=some e→(q.find? fun x=>decide (e.1+1≤x.1))=q[j+1]?
 | [],_,_,_,h=>by simp at h
 | a::r,0,e,hs,h=>by
  have h':=List.pairwise_cons.1 hs
  simp at h;subst h
  rw[List.find?_cons_of_neg (by simp;omega)]
  cases r with
  | nil=>rfl
  | cons c t=>
   have:=h'.1 c (by simp)
   rw[List.find?_cons_of_pos (by simp;omega)];rfl
 | a::r,j+1,e,hs,h=>by
  have h':=List.pairwise_cons.1 hs
  have he:r[j]?=some e:=by simpa using h
  have:=h'.1 e (List.mem_of_getElem? he)
  rw[List.find?_cons_of_neg (by simp;omega),find_next h'.2 he];rfl
theorem find_first {α:Type} {q:List (Int×α)} (h:∀e∈q,0≤e.1):(q.find? fun x=>decide (0≤x.1))=q[0]?:=by
 cases q with
 | nil=>rfl
 | cons a r=>rw[List.find?_cons_of_pos (by simpa using h a (by simp))];rfl
theorem tab_get {q:Qt} {j:Nat} {e:Int×(Int×List En)} (h:q[j]?=some e):(tabQ q)[j]?=some (e.1,e.2.2):=by
 rw[tabQ,mp,List.getElem?_map,h];rfl
def stTS (ver:Int) (sl tr:DV) (m keep:Int) (o:Prs) (k p:Int) (b:Bool):St DV:=mkStX 70 2 [(0,.ref (0,0) 0),(1,i64V ver),(5,.rsl (66,1) 9 0 o.length),(6,u32V k),(7,i64V p),(8,.bool b)] [(65,.row 9 (o.map encPr) false),(70,.abs sl),(71,.abs tr)] [some (.box [.ref (71,1) 0,.ref (72,1) 0,i64V m,i64V keep])]
theorem tScan (h:TB m keep cap Tb i x) (ver:Int):ATriple Tryz.prog gv R0 21 [.ref (0,0) 0,i64V ver] [.abs x] (prsV (scanT m Tb ver)) [.abs x] none:=by
 have hkin:=h.kin
 obtain⟨q,sl,tr,rfl,ps,rfl⟩:=h.ex
 have hn:=ps.len
 have hsq:=ps.srt
 obtain⟨low,L,Lt,F,root,hh,rfl,rfl,hs,t,b1,b2⟩:=ps.ex
 have h9:=ts_h t (by rw[mp_len];exact hn)
 have hk0:∀e∈q,KIn e.1:=fun e he=>hkin (e.1,e.2.2) (List.mem_map.2 ⟨e,he,rfl⟩)
 have hG:∀e∈q,ATriple Tryz.prog gv R0 74 [.ref (0,0) 0,i64V e.2.1] [.abs (slF cap q.length low L)] (.tup [chV e.2.2,.bool true]) [.abs (slF cap q.length low L)] none:=fun e he=>by
  obtain⟨g0,g1⟩:=hs.pl e he
  have ho:=chOk (hs.ch e he).1
  exact getF hs.inv g0 g1 rfl ho.1 ho.2
 have hN:∀k,ATriple Tryz.prog gv T.R0 73 [.ref (0,0) 0,T.u32V k] [.abs (T.trD Lt F root hh q.length)] (T.nxV ((q.find? fun e=>decide (k≤e.1)).map fun e=>(e.1,e.2.1))) [.abs (T.trD Lt F root hh q.length)] none:=fun k=>by
  have:=T.next_ts t (by omega) q.length k
  rw[nx_q] at this;exact this
 have hch:=hs.ch
 obtain⟨sl,hsl⟩:∃z,z=slF cap q.length low L:=⟨_,rfl⟩
 obtain⟨tr,htr⟩:∃z,z=T.trD Lt F root hh q.length:=⟨_,rfl⟩
 rw[←hsl] at hG ⊢
 rw[←htr] at hN ⊢
 clear hsl htr hs t ps h b1 b2
 have a0:=hN 0
 rw[find_first fun e he=>(hk0 e he).1] at a0
 have key:∃k p b,((q[0]?=none∧k=0∧p=0∧b=false)∨(∃e,q[0]?=some e∧k=e.1∧p=e.2.1∧b=true))∧T.nxV ((q[0]?).map fun e=>(e.1,e.2.1))=.tup [u32V k,i64V p,.bool b]:=by
  cases hq:q[0]? with
  | none=>exact⟨0,0,false,.inl ⟨rfl,rfl,rfl,rfl⟩,rfl⟩
  | some e=>exact⟨e.1,e.2.1,true,.inr ⟨e,rfl,rfl,rfl,rfl⟩,rfl⟩
 obtain⟨k0,p0,bb,hst,hnv⟩:=key
 rw[hnv] at a0
 refine ATriple.of_bodyW (C:=cxB) Tryz.func21 rfl (by kernel_rfl) (mixedOf _) rfl (by simp[okA,okC,okN,co,pure_Pr]) (by simp[okOb,okC,okN,pure_Pr]) (by simp[okG,okA,okC,okN,co,pure_Pr]) (by simp[okOb,okC,okN,pure_Pr]) (fun o ho=>by cases ho) 2 [.opn (0,0) [70,71]] fun E hE=>?_
 repeat' (conv=>whnf);first
  | (refine bcase_of (fun hr=>?_) (fun hr=>?_)<;>(try simp only[bs] at hr)<;>try(exfalso;first|omega|(simp at hr;done)))
  | (apply And.intro;· first|exact nd13)
  | (apply Exists.intro;apply And.intro;· first|exact rfl)
  | (apply Exists.intro;apply Exists.intro;apply Exists.intro;apply And.intro;· first|(refine ATriple.callN (a0) ?_ ?_ ?_<;>rfl))
  | fail
 all_goals (conv=>whnf)
 all_goals refine VLoop.adopt 5 65 9 ?_
 all_goals (conv=>whnf)
 all_goals refine VLoop.norm [0,1,5,6,7,8] [65,70,71] ?_
 all_goals
  repeat' (conv=>whnf);first
   | (refine bcase_of (fun hr=>?_) (fun hr=>?_)<;>(try simp only[bs] at hr)<;>try(exfalso;first|omega|(simp at hr;done)))
   | (apply And.intro;· first|exact(fun e he=>nomatch he)|exact nd13)
   | (apply Exists.intro;apply And.intro;· first|exact rfl)
   | fail
 all_goals (conv=>whnf)
 all_goals (refine VLoop.inv (fun z:Nat×Prs×Int×Int×Bool=>stTS ver sl tr m keep z.2.1 z.2.2.1 z.2.2.2.1 z.2.2.2.2) (fun z=>z.1≤q.length∧z.2.1=scanT m ((tabQ q).take z.1) ver∧((q[z.1]?=none∧z.2.2.1=0∧z.2.2.2.1=0∧z.2.2.2.2=false)∨(∃e,q[z.1]?=some e∧z.2.2.1=e.1∧z.2.2.2.1=e.2.1∧z.2.2.2.2=true))) (fun z=>q.length-z.1) (0,[],k0,p0,_) ⟨Nat.zero_le _,rfl,by simpa[*] using hst⟩ rfl ?_)
 all_goals
  rintro⟨j,o,k,p,b⟩ ⟨hj,ho,hz⟩ ih
  simp only at hj ho hz ih
  show VLoop _ _ _ (stTS ver sl tr m keep o k p b) _
  have hlen:(tabQ q).length=q.length:=mp_len _ _
  have hol:o.length≤2000:=by rw[ho];have:=scanT_len m ((tabQ q).take j) ver;rw[List.length_take] at this;omega
  have pO:=pure_Pr o
  have lO:=lenPr o
  have rO:=raPr o (by omega)
  have z9:0+o.length≤(o.map encPr).length:=by simp
  have z8:PureEs (((o.map encPr).drop 0).take o.length):=by rw[takePr];exact pure_Pr o
  refine VLoop.unroll hE (mixedOf _) ?_
  rcases hz with⟨hq,rfl,rfl,rfl⟩|⟨e,hq,rfl,rfl,rfl⟩
  ·have hx':=List.getElem?_eq_none_iff.1 hq
   rw[List.take_of_length_le (by omega)] at ho
   subst ho
   repeat' (conv=>whnf);first
    | (refine bcase_of (fun hr=>?_) (fun hr=>?_)<;>(try simp only[bs] at hr)<;>try(exfalso;first|omega|(simp at hr;done)))
    | (apply And.intro;· first|exact pO|exact n0|exact n1|exact n2|exact n4|exact rO|exact z9|exact z8|exact z7|exact⟨by omega,by omega⟩|exact⟨rfl,z9⟩|exact nd13)
    | (apply Exists.intro;apply And.intro;· first|exact rfl)
    | fail
   all_goals (conv=>whnf)
   all_goals (refine⟨[.shut (0,0) (tbD sl tr m keep)],?_⟩;(conv=>whnf);refine⟨shut_tb _ _ _ _ _ _,?_⟩;(conv=>whnf);exact⟨congrArg (V.lst 9) (takePr _),rfl⟩)
  ·have hjl:=(List.getElem?_eq_some_iff.1 hq).1
   have hmem:=List.mem_of_getElem? hq
   have c1:=cAt_ok e.1 (hk0 e hmem)
   obtain⟨hk1,hk2⟩:=hk0 e hmem
   have a1:=hG e hmem
   have n0:=pure_E e.2.2
   have c0:=At_ok m e.2.2 ver (hch e hmem).1
   have hst2:=scanT_take (m:=m) (ver:=ver) (tab_get hq)
   have a2:=hN (e.1+1)
   rw[find_next hsq hq] at a2
   have key2:∃k2 p2 b2,((q[j+1]?=none∧k2=0∧p2=0∧b2=false)∨(∃e,q[j+1]?=some e∧k2=e.1∧p2=e.2.1∧b2=true))∧T.nxV ((q[j+1]?).map fun e=>(e.1,e.2.1))=.tup [u32V k2,i64V p2,.bool b2]:=by
    cases hq:q[j+1]? with
    | none=>exact⟨0,0,false,.inl ⟨rfl,rfl,rfl,rfl⟩,rfl⟩
    | some e=>exact⟨e.1,e.2.1,true,.inr ⟨e,rfl,rfl,rfl,rfl⟩,rfl⟩
   obtain⟨k2,p2,bb2,hz2,hnv2⟩:=key2
   rw[hnv2] at a2
   by_cases hmax:e.1+1<4294967296
   ·have w0:IntKind.u32.wrap (e.1+1)=e.1+1:=by rw[wrap32];omega
    cases hat:atS m e.2.2 ver with
    | none=>
     rw[hat] at c0 hst2
     repeat' (conv=>whnf);first
      | (refine bcase_of (fun hr=>?_) (fun hr=>?_)<;>(try simp only[bs] at hr)<;>try(exfalso;first|omega|(simp at hr;done)))
      | (apply And.intro;· first|exact pO|exact n0|exact n1|exact n2|exact n4|exact rO|exact z9|exact z8|exact z7|exact⟨by omega,by omega⟩|exact⟨rfl,z9⟩|exact nd13)
      | (apply Exists.intro;apply And.intro;· first|exact rfl|exact c0|exact c1)
      | (apply Exists.intro;apply Exists.intro;apply Exists.intro;apply And.intro;· first|(refine ATriple.callN (a1) ?_ ?_ ?_<;>rfl)|(refine ATriple.callN (a2) ?_ ?_ ?_<;>rfl))
      | rw[w0]
      | fail
     all_goals (conv=>whnf)
     all_goals refine VLoop.norm [0,1,5,6,7,8] [65,70,71] ?_
     all_goals
      repeat' (conv=>whnf);first
       | (refine bcase_of (fun hr=>?_) (fun hr=>?_)<;>(try simp only[bs] at hr)<;>try(exfalso;first|omega|(simp at hr;done)))
       | (apply And.intro;· first|exact pO|exact n0|exact n1|exact n2|exact n4|exact rO|exact z9|exact z8|exact z7|exact⟨by omega,by omega⟩|exact⟨rfl,z9⟩|exact nd13)
       | (apply Exists.intro;apply And.intro;· first|exact rfl|exact c0|exact c1)
       | (apply Exists.intro;apply Exists.intro;apply Exists.intro;apply And.intro;· first|(refine ATriple.callN (a1) ?_ ?_ ?_<;>rfl)|(refine ATriple.callN (a2) ?_ ?_ ?_<;>rfl))
       | rw[w0]
       | fail
     all_goals (conv=>whnf)
     all_goals first|exact ih (j+1,o,k2,p2,true) ⟨by simp only;omega,by simp only;rw[hst2,ho];simp,by simpa[*] using hz2⟩ (by simp only;omega)|exact ih (j+1,o,k2,p2,false) ⟨by simp only;omega,by simp only;rw[hst2,ho];simp,by simpa[*] using hz2⟩ (by simp only;omega)
    | some c=>
     rw[hat] at c0 hst2
     have hadd:=addPr o (e.1,c)
     have n1:=pure_R c.p
     have n2:=pure_R c.q
     have n4:PureEs (((o.map encPr).drop 0).take o.length++([encPr (e.1,c)].drop 0).take 1):=by rw[hadd];exact pure_Pr _
     repeat' (conv=>whnf);first
      | (refine bcase_of (fun hr=>?_) (fun hr=>?_)<;>(try simp only[bs] at hr)<;>try(exfalso;first|omega|(simp at hr;done)))
      | (apply And.intro;· first|exact pO|exact n0|exact n1|exact n2|exact n4|exact rO|exact z9|exact z8|exact z7|exact⟨by omega,by omega⟩|exact⟨rfl,z9⟩|exact nd13)
      | (apply Exists.intro;apply And.intro;· first|exact rfl|exact c0|exact c1)
      | (apply Exists.intro;apply Exists.intro;apply Exists.intro;apply And.intro;· first|(refine ATriple.callN (a1) ?_ ?_ ?_<;>rfl)|(refine ATriple.callN (a2) ?_ ?_ ?_<;>rfl))
      | rw[w0]
      | fail
     all_goals (conv=>whnf)
     all_goals refine VLoop.norm [0,1,5,6,7,8] [65,70,71] ?_
     all_goals
      repeat' (conv=>whnf);first
       | (refine bcase_of (fun hr=>?_) (fun hr=>?_)<;>(try simp only[bs] at hr)<;>try(exfalso;first|omega|(simp at hr;done)))
       | (apply And.intro;· first|exact pO|exact n0|exact n1|exact n2|exact n4|exact rO|exact z9|exact z8|exact z7|exact⟨by omega,by omega⟩|exact⟨rfl,z9⟩|exact nd13)
       | (apply Exists.intro;apply And.intro;· first|exact rfl|exact c0|exact c1)
       | (apply Exists.intro;apply Exists.intro;apply Exists.intro;apply And.intro;· first|(refine ATriple.callN (a1) ?_ ?_ ?_<;>rfl)|(refine ATriple.callN (a2) ?_ ?_ ?_<;>rfl))
       | rw[w0]
       | fail
     all_goals (conv=>whnf)
     all_goals first|(have:=ih (j+1,o++[(e.1,c)],k2,p2,true) ⟨by simp only;omega,by simp only;rw[hst2,ho],by simpa[*] using hz2⟩ (by simp only;omega);simp only[stTS,List.length_append,List.length_singleton] at this;rw[←hadd] at this;exact this)|(have:=ih (j+1,o++[(e.1,c)],k2,p2,false) ⟨by simp only;omega,by simp only;rw[hst2,ho],by simpa[*] using hz2⟩ (by simp only;omega);simp only[stTS,List.length_append,List.length_singleton] at this;rw[←hadd] at this;exact this)
   ·have w0:IntKind.u32.wrap (e.1+1)=0:=by rw[wrap32];omega
    have hend:(tabQ q).length≤j+1:=by
     refine Nat.le_of_not_lt fun hc=>?_
     have h1:q[j+1]?=some (q[j+1]'(by omega)):=List.getElem?_eq_getElem _
     have h2:=(List.pairwise_iff_getElem.1 hsq) j (j+1) hjl (by omega) (by omega)
     rw[List.getElem?_eq_getElem hjl] at hq
     have h3:=hk0 _ (List.mem_of_getElem? h1)
     have h4:=h3.2
     rw[Option.some.inj hq] at h2
     omega
    rw[List.take_of_length_le (by omega)] at hst2
    cases hat:atS m e.2.2 ver with
    | none=>
     rw[hat] at c0 hst2
     have ho':o=scanT m (tabQ q) ver:=by rw[hst2,ho];simp
     repeat' (conv=>whnf);first
      | (refine bcase_of (fun hr=>?_) (fun hr=>?_)<;>(try simp only[bs] at hr)<;>try(exfalso;first|omega|(simp at hr;done)))
      | (apply And.intro;· first|exact pO|exact n0|exact n1|exact n2|exact n4|exact rO|exact z9|exact z8|exact z7|exact⟨by omega,by omega⟩|exact⟨rfl,z9⟩|exact nd13)
      | (apply Exists.intro;apply And.intro;· first|exact rfl|exact c0|exact c1)
      | (apply Exists.intro;apply Exists.intro;apply Exists.intro;apply And.intro;· first|(refine ATriple.callN (a1) ?_ ?_ ?_<;>rfl)|(refine ATriple.callN (a2) ?_ ?_ ?_<;>rfl))
      | rw[w0]
      | fail
     all_goals (conv=>whnf)
     all_goals (refine⟨[.shut (0,0) (tbD sl tr m keep)],?_⟩;(conv=>whnf);refine⟨shut_tb _ _ _ _ _ _,?_⟩;(conv=>whnf);exact⟨congrArg (V.lst 9) ((takePr _).trans (by rw[ho'])),rfl⟩)
    | some c=>
     rw[hat] at c0 hst2
     have hadd:=addPr o (e.1,c)
     have n1:=pure_R c.p
     have n2:=pure_R c.q
     have n4:PureEs (((((o.map encPr).drop 0).take o.length++([encPr (e.1,c)].drop 0).take 1).drop 0).take (o.length+1)):=by rw[hadd,List.drop_zero];exact fun x hx=>pure_Pr _ x (List.mem_of_mem_take hx)
     have z7:0+(o.length+1)≤(((o.map encPr).drop 0).take o.length++([encPr (e.1,c)].drop 0).take 1).length:=by rw[hadd];simp
     have ho':o++[(e.1,c)]=scanT m (tabQ q) ver:=by rw[hst2,ho]
     repeat' (conv=>whnf);first
      | (refine bcase_of (fun hr=>?_) (fun hr=>?_)<;>(try simp only[bs] at hr)<;>try(exfalso;first|omega|(simp at hr;done)))
      | (apply And.intro;· first|exact pO|exact n0|exact n1|exact n2|exact n4|exact rO|exact z9|exact z8|exact z7|exact⟨by omega,by omega⟩|exact⟨rfl,z9⟩|exact nd13)
      | (apply Exists.intro;apply And.intro;· first|exact rfl|exact c0|exact c1)
      | (apply Exists.intro;apply Exists.intro;apply Exists.intro;apply And.intro;· first|(refine ATriple.callN (a1) ?_ ?_ ?_<;>rfl)|(refine ATriple.callN (a2) ?_ ?_ ?_<;>rfl))
      | rw[w0]
      | fail
     all_goals (conv=>whnf)
     all_goals (refine⟨[.shut (0,0) (tbD sl tr m keep)],?_⟩;(conv=>whnf);refine⟨shut_tb _ _ _ _ _ _,?_⟩;(conv=>whnf);exact⟨congrArg (V.lst 9) (show((((o.map encPr).drop 0).take o.length++([encPr (e.1,c)].drop 0).take 1).drop 0).take (o.length+1)=_ by rw[hadd,List.drop_zero,List.take_of_length_le (by simp),ho']),rfl⟩)
end Go.Proofs.YtbppemcdphgknaaGreatDoor
namespace Go.Proofs.YtbppemcdphgknaaGreatDoor
open Go Go.Vm
theorem goU {P:Prop} (h:P:=by
 repeat' (conv=>whnf);first
  | (refine bcase_of (fun hr=>?_) (fun hr=>?_)<;>(try simp only[bs] at hr)<;>try(exfalso;first|omega|(simp at hr;done)|(simp_all;done)))
  | (apply And.intro;· first|exact nd11|exact n0|exact n1|exact n2|exact n3|exact n4|exact n5|exact n6|exact n7|exact n8|exact n9|exact⟨by decide,by decide⟩|exact⟨nb rfl,allOne_of rfl⟩|exact allOne_of rfl|exact⟨rfl,rfl⟩|exact pure_of rfl|exact⟨by omega,by omega⟩|exact⟨nb rfl,nb rfl⟩|exact⟨by simp,by simp⟩)
  | (apply Exists.intro;apply And.intro;· first|exact rfl|exact c0|exact c1|exact c2|exact c3|exact c4|exact c5|exact c6|exact c7|exact c8|exact c9)
  | (apply Exists.intro;apply Exists.intro;apply Exists.intro;apply And.intro;· first|(refine ATriple.callN a0 ?_ ?_ ?_<;>rfl)|(refine ATriple.callN a1 ?_ ?_ ?_<;>rfl)|(refine ATriple.callN a2 ?_ ?_ ?_<;>rfl)|(refine ATriple.callN a3 ?_ ?_ ?_<;>rfl)|(refine ATriple.callN a4 ?_ ?_ ?_<;>rfl)|(refine ATriple.callN a5 ?_ ?_ ?_<;>rfl)|(refine ATriple.callN a6 ?_ ?_ ?_<;>rfl)|(refine ATriple.callN a7 ?_ ?_ ?_<;>rfl)|(refine ATriple.callN a8 ?_ ?_ ?_<;>rfl)|(refine ATriple.callN a9 ?_ ?_ ?_<;>rfl))
  | (apply Exists.intro;apply And.intro;· first|(refine ATriple.callK a0 ?_ ?_ ?_ ?_<;>first|rfl|(intro d;rfl))|(refine ATriple.callK a1 ?_ ?_ ?_ ?_<;>first|rfl|(intro d;rfl))|(refine ATriple.callK a2 ?_ ?_ ?_ ?_<;>first|rfl|(intro d;rfl))|(refine ATriple.callK a3 ?_ ?_ ?_ ?_<;>first|rfl|(intro d;rfl))|(refine ATriple.callK a4 ?_ ?_ ?_ ?_<;>first|rfl|(intro d;rfl))|(refine ATriple.callK a5 ?_ ?_ ?_ ?_<;>first|rfl|(intro d;rfl))|(refine ATriple.callK a6 ?_ ?_ ?_ ?_<;>first|rfl|(intro d;rfl))|(refine ATriple.callK a7 ?_ ?_ ?_ ?_<;>first|rfl|(intro d;rfl))|(refine ATriple.callK a8 ?_ ?_ ?_ ?_<;>first|rfl|(intro d;rfl))|(refine ATriple.callK a9 ?_ ?_ ?_ ?_<;>first|rfl|(intro d;rfl)))
  | (refine VLoop.unroll hE (mixedOf _) ?_)
  | rw[w0]|rw[w1]|rw[w2]|rw[w3]|rw[w4]
  | fail
 all_goals (conv=>whnf)
 all_goals first|exact e0|exact e1|exact e2|exact⟨rfl,rfl⟩|rfl|(refine⟨[],?_⟩;(conv=>whnf);exact⟨rfl,rfl⟩)):P:=h
def NilV (v' v:V):Prop:=∀ρ M x,VRel ρ M v' x→VRel ρ M v x
inductive NilVs:List V→List V→Prop
 | nil:NilVs [] []
 | cons {a b:V} {l l':List V}:NilV a b→NilVs l l'→NilVs (a::l) (b::l')
theorem NilV.refl (v:V):NilV v v:=fun _ _ _ h=>h
theorem NilV.nils (sz:Nat):NilV .nils (.lst sz []):=fun _ _ _ h=>h.lst_of_nils
theorem NilVs.rel {l l':List V} (h:NilVs l l') {ρ:Rho} {M:Mem}:∀{vs:List Value},VsRel ρ M l vs→VsRel ρ M l' vs:=by
 induction h with
 | nil=>exact fun h=>h
 | cons h0 _ ih=>intro vs h;obtain⟨v',r,rfl,h1,h2⟩:=h.uncons;exact .cons (h0 _ _ _ h1) (ih h2)
theorem NilV.agg {l l':List V} (h:NilVs l l'):NilV (.agg l) (.agg l'):=fun ρ M x hx=>by
 cases hx with
 | agg h1 h2=>have h3:=h.rel ⟨h1,h2⟩;exact .agg h3.1 h3.2
theorem NilV.tup {l l':List V} (h:NilVs l l'):NilV (.tup l) (.tup l'):=fun ρ M x hx=>by
 cases hx with
 | tup h1 h2=>have h3:=h.rel ⟨h1,h2⟩;exact .tup h3.1 h3.2
theorem nv {P:Program} {G:Nat→V} {f:FuncId} {args args':List V} {r r':V} (h:PTriple P G f args r)
  (ha:NilVs args' args:=by repeat first|exact NilVs.nil|exact NilV.refl _|exact NilV.nils _|(refine NilVs.cons ?_ ?_)|(refine NilV.agg ?_)|(refine NilV.tup ?_))
  (hr:NilV r r':=by repeat first|exact NilVs.nil|exact NilV.refl _|exact NilV.nils _|(refine NilVs.cons ?_ ?_)|(refine NilV.agg ?_)|(refine NilV.tup ?_)):PTriple P G f args' r':=
 h.weak (fun _ _ h=>ha.rel h) fun _ _ h=>hr _ _ _ h
theorem lay8 (v:Int):PTriple Tryz.prog gv 138 [.nils,i64V v,i64V 1] (bagV [(v,1)]):=by
 refine PTriple.of_body (C:=cx) Tryz.func138 rfl (by kernel_rfl) mixed fun E hE=>?_
 exact goU
theorem goodB_one (v:Int):goodB [(v,1)]=true:=by simp[goodB,bgo]
theorem made1 (v:Int) (hv:in64 v):PTriple Tryz.prog gv 139 [i64V 1,i64V 1,.agg [bagV [(v,1)],.nils]] (.agg [i64V 1,i64V v,i64V 0,bagV [(v,1)],.nils,.bool true]):=by
 have h6:RIn [(v,1)]:=fun r hr=>by obtain rfl:=List.mem_singleton.1 hr;exact⟨hv,by unfold in64;omega⟩
 have hs:wsum [(v,1)]=v:=by simp[wsum]
 have c0:=Wide8_ok [(v,1)] (by simp) h6 (goodB_one v)
 rw[hs] at c0
 have c1:=ok103 v _ rfl
 rw[show fit v=(v,true) by unfold fit;exact if_pos hv] at c1
 have hg:goodC 1 1 v 0 [(v,1)] []=true:=by simp[goodC,partOk,goodB_one,hs,cntB]
 have c2:PTriple Tryz.prog gv 144 [i64V 1,.agg [i64V 1,i64V v,i64V 0,bagV [(v,1)],.nils]] (.bool true):=by
  have:=cellGood9_ok 1 1 v 0 [(v,1)] [] (by simp) (by simp) h6 (fun r hr=>by cases hr) hv (by unfold in64;omega)
  rw[hg] at this
  exact nv this
 have n0:=pure_R [(v,1)]
 refine PTriple.of_body (C:=cx) Tryz.func139 rfl (by kernel_rfl) mixed fun E hE=>?_
 exact goU
theorem of1 (v:Int) (hv:in64 v):PTriple Tryz.prog gv 99 [i64V 1,.lst 6 [[u8V 0,u8V 0,u8V 0,u8V 0,i64V v,i64V v]]] (.agg [i64V 1,i64V v,i64V 0,bagV [(v,1)],.nils,.bool true]):=by
 have c0:=lay8 v
 have c1:=made1 v hv
 have n0:=pure_R [(v,1)]
 have n1:PureEs [[u8V 0,u8V 0,u8V 0,u8V 0,i64V v,i64V v]]:=pure_of rfl
 refine PTriple.of_body (C:=cx) Tryz.func99 rfl (by kernel_rfl) mixed fun E hE=>?_
 exact goU
theorem cellOf1 (v:Int) (hv:in64 v):PTriple Tryz.prog gv 72 [i64V 1,i64V v] (cellV 1 v 0 [(v,1)] []):=by
 have c0:=of1 v hv
 have n0:=pure_R [(v,1)]
 have n1:PureEs [[u8V 0,u8V 0,u8V 0,u8V 0,i64V v,i64V v]]:=pure_of rfl
 refine nv (args:=[i64V 1,i64V v]) (r:=.agg [i64V 1,i64V v,i64V 0,bagV [(v,1)],.nils]) ?_
 refine PTriple.of_body (C:=cx) Tryz.func72 rfl (by kernel_rfl) mixed fun E hE=>?_
 exact goU
end Go.Proofs.YtbppemcdphgknaaGreatDoor
namespace Go.Proofs.YtbppemcdphgknaaGreatDoor
open Go Go.Vm
variable {m keep cap:Int} {Tb:Tab} {i:Nat} {x:DV}
theorem okT_iff (ht:TIn Tb) {k:Int} {l:List En}:okT cap Tb k l=false↔((chT Tb k).length=0∧0<l.length∧cap≤(Tb.length:Int)):=by
 have h1:(get Tb k).isSome=false↔(chT Tb k).length=0:=by
  unfold chT
  cases hg:get Tb k with
  | none=>simp
  | some u=>
   have:=(ht.2.2 _ (get_mem hg)).2.2.1
   simpa using this
 unfold okT
 rw[Bool.or_eq_false_iff,Bool.or_eq_false_iff,h1]
 have h2:l.isEmpty=false↔0<l.length:=by cases l<;>simp
 rw[h2,decide_eq_false_iff_not]
 constructor
 ·rintro⟨⟨a,b⟩,c⟩;exact⟨b,a,by omega⟩
 ·rintro⟨a,b,c⟩;exact⟨⟨b,a⟩,by omega⟩
theorem set_lay {k:Int} {l:List En} (h:okT cap Tb k l=true):setT cap Tb k l=layT Tb k l:=by
 unfold setT layT;rw[if_pos h]
theorem tput_same (ht:TIn Tb) (k ver:Int) (c:En) (b:Bool) (floor:Int):rPut m keep cap Tb k ver c b floor Tb.length=tPut m keep cap Tb k ver c b floor:=by
 unfold rPut tPut
 cases hp:putA m keep (chT Tb k) ver c b floor with
 | none=>rfl
 | some l=>
  dsimp only
  cases ho:okT cap Tb k l with
  | false=>
   rw[if_pos ((okT_iff ht).1 ho),if_neg (by simp)]
   unfold setT;rw[ho];rfl
  | true=>
   rw[if_neg (fun hc=>by rw[(okT_iff ht).2 hc] at ho;cases ho),set_lay ho];rfl
theorem undo_same (k ver:Int):rUndo m Tb k ver=tUndo m cap Tb k ver:=by
 unfold rUndo tUndo
 cases hv:lastV (chT Tb k) ver with
 | false=>rfl
 | true=>
  have hne:chT Tb k≠[]:=fun h=>by rw[h] at hv;cases hv
  rw[if_pos rfl,if_pos rfl,set_lay (okT_there hne _)]
theorem prune_same (ht:TIn Tb) (k floor:Int):rPrune m Tb k floor=tPrune m cap Tb k floor:=by
 unfold rPrune tPrune
 by_cases h:(chT Tb k).length=0
 ·rw[if_pos h]
  have h0:chT Tb k=[]:=List.eq_nil_of_length_eq_zero h
  rw[h0]
  have h1:pruneS m [] floor=[]:=by unfold pruneS;split<;>rfl
  rw[h1]
  have hn:setT cap Tb k []=Tb:=by
   unfold setT
   rw[show okT cap Tb k []=true by simp[okT],if_pos rfl]
   cases hg:get Tb k with
   | none=>exact del_none hg
   | some u=>
    have:=(ht.2.2 _ (get_mem hg)).2.2.1
    unfold chT at h0;rw[hg] at h0
    exact absurd h0 this
  rw[hn];simp
 ·rw[if_neg h]
  have hne:chT Tb k≠[]:=fun h0=>h (by rw[h0];rfl)
  rw[set_lay (okT_there hne _)]
  simp[hne]
structure Act where
 kd:Int
 k:Int
 ver:Int
 fl:Int
 c:En
 i:Bool
def encA (a:Act):List V:=[u8V a.kd]++co a.k++[i64V a.ver,i64V a.fl,i64V a.c.n,i64V a.c.a,i64V a.c.b,bagV a.c.p,bagV a.c.q,.bool a.i]
abbrev actV (a:Act):V:=.agg (encA a)
abbrev actsV (l:List Act):V:=.lst 13 (l.map encA)
theorem pure_A (l:List Act):PureEs (l.map encA):=fun e he v hv=>by
 obtain⟨x,_,rfl⟩:=List.mem_map.1 he
 simp[encA,co] at hv
 rcases hv with rfl|rfl|rfl|rfl|rfl|rfl|rfl|rfl|rfl|rfl|rfl|rfl|rfl
 all_goals first|exact .int _ _|exact .lst (pure_R _)|exact .bool _
theorem lenA (l:List Act):(l.map encA).length=l.length:=by simp
theorem getA {l:List Act} {i:Nat} {a:Act} (h:l[i]?=some a):lget (l.map encA) ((i:Int)).toNat=some (encA a):=by
 rw[lget_eq,Int.toNat_natCast,List.getElem?_map,h];rfl
def lightA (l:List Act):Bool:=decide (l.length≤50)&&l.all fun a=>lightB a.c.p a.c.q
def stLt (l:List Act) (i:Nat):St DV:=mkSt 20 [(0,actsV l),(3,i64V i)] [] []
theorem light16 (l:List Act):PTriple Tryz.prog gv 16 [actsV l] (.bool (lightA l)):=by
 have pA:=pure_A l
 have lA:=lenA l
 generalize hR:lightA l=R
 by_cases h50:l.length≤50
 case neg=>
  obtain rfl:R=false:=by rw[←hR];simp[lightA,h50]
  refine PTriple.of_body (C:=cx) Tryz.func16 rfl (by kernel_rfl) mixed fun E hE=>?_
  exact go
 have hR':(l.drop 0).all (fun a=>lightB a.c.p a.c.q)=R:=by rw[←hR];simp[lightA,h50]
 refine PTriple.of_body (C:=cx) Tryz.func16 rfl (by kernel_rfl) mixed fun E hE=>?_
 repeat' (conv=>whnf);first
  | (refine bcase_of (fun hr=>?_) (fun hr=>?_)<;>(try simp only[bs] at hr)<;>try(exfalso;first|omega|(simp at hr;done)))
  | (apply And.intro;· first|exact pA|exact nd13)
  | (apply Exists.intro;apply And.intro;· first|exact rfl)
  | fail
 all_goals (conv=>whnf)
 refine VLoop.norm [0,3] [] ?_
 repeat' (conv=>whnf);first
  | (refine bcase_of (fun hr=>?_) (fun hr=>?_)<;>(try simp only[bs] at hr)<;>try(exfalso;first|omega|(simp at hr;done)))
  | (apply And.intro;· first|exact pA|exact nd13)
  | (apply Exists.intro;apply And.intro;· first|exact rfl)
  | fail
 all_goals (conv=>whnf)
 refine VLoop.inv (fun i:Nat=>stLt l i) (fun i=>i≤l.length∧(l.drop i).all (fun a=>lightB a.c.p a.c.q)=R) (fun i=>l.length-i) 0 ⟨Nat.zero_le _,hR'⟩ rfl ?_
 intro i ⟨hi,hrl⟩ ih
 have hw:IntKind.i64.wrap ((i:Int)+1)=((i+1:Nat):Int):=wrap64 (by omega) (by omega)
 refine VLoop.unroll hE mixed ?_
 cases hx:l[i]? with
 | none=>
  have hx':=List.getElem?_eq_none_iff.1 hx
  rw[List.drop_of_length_le (by omega)] at hrl
  obtain rfl:R=true:=hrl.symm
  repeat' (conv=>whnf);first
   | (refine bcase_of (fun hr=>?_) (fun hr=>?_)<;>(try simp only[bs] at hr)<;>try(exfalso;first|omega|(simp at hr;done)))
   | (apply And.intro;· first|exact pA|exact n1|exact n2|exact⟨by omega,by omega⟩|exact nd13)
   | (apply Exists.intro;apply And.intro;· first|exact rfl)
   | fail
  all_goals (conv=>whnf)
  all_goals rfl
 | some a=>
  have hi':=(List.getElem?_eq_some_iff.1 hx).1
  have gi:=getA hx
  have c0:=lightB_ok a.c.n a.c.a a.c.b a.c.p a.c.q
  rw[drop_get hx,List.all_cons] at hrl
  have n1:=pure_R a.c.p
  have n2:=pure_R a.c.q
  cases hb:lightB a.c.p a.c.q with
  | false=>
   rw[hb] at c0 hrl
   obtain rfl:R=false:=by rw[←hrl];rfl
   repeat' (conv=>whnf);first
    | (refine bcase_of (fun hr=>?_) (fun hr=>?_)<;>(try simp only[bs] at hr)<;>try(exfalso;first|omega|(simp at hr;done)))
    | (apply And.intro;· first|exact pA|exact n1|exact n2|exact⟨by omega,by omega⟩|exact nd13)
    | (apply Exists.intro;apply And.intro;· first|exact rfl|exact gi|exact c0)
    | rw[hw]
    | fail
   all_goals (conv=>whnf)
   all_goals rfl
  | true=>
   rw[hb,Bool.true_and] at hrl
   rw[hb] at c0
   repeat' (conv=>whnf);first
    | (refine bcase_of (fun hr=>?_) (fun hr=>?_)<;>(try simp only[bs] at hr)<;>try(exfalso;first|omega|(simp at hr;done)))
    | (apply And.intro;· first|exact pA|exact n1|exact n2|exact⟨by omega,by omega⟩|exact nd13)
    | (apply Exists.intro;apply And.intro;· first|exact rfl|exact gi|exact c0)
    | rw[hw]
    | fail
   all_goals (conv=>whnf)
   all_goals refine VLoop.norm [0,3] [] ?_
   repeat' (conv=>whnf);first
    | (refine bcase_of (fun hr=>?_) (fun hr=>?_)<;>(try simp only[bs] at hr)<;>try(exfalso;first|omega|(simp at hr;done)))
    | (apply And.intro;· first|exact pA|exact n1|exact n2|exact⟨by omega,by omega⟩|exact nd13)
    | (apply Exists.intro;apply And.intro;· first|exact rfl|exact gi|exact c0)
    | rw[hw]
    | fail
   all_goals (conv=>whnf)
   all_goals exact ih (i+1) ⟨by omega,hrl⟩ (by omega)
theorem getPr {o:Prs} {i:Nat} {e:Int×En} (h:o[i]?=some e):lget (o.map encPr) ((i:Int)).toNat=some (encPr e):=by
 rw[lget_eq,Int.toNat_natCast,List.getElem?_map,h];rfl
def stSP (o:Prs) (i:Nat):St DV:=mkSt 42 [(0,prsV o),(1,prsV o),(5,i64V i)] [] []
theorem samePr (o:Prs) (hl:o.length≤100000) (ho:∀e∈o,EnOk e.2):PTriple Tryz.prog gv 25 [prsV o,prsV o] (.bool true):=by
 have pO:=pure_Pr o
 have lO:=lenPr o
 refine PTriple.of_body (C:=cx) Tryz.func25 rfl (by kernel_rfl) mixed fun E hE=>?_
 repeat' (conv=>whnf);first
  | (refine bcase_of (fun hr=>?_) (fun hr=>?_)<;>(try simp only[bs] at hr)<;>try(exfalso;first|omega|(simp at hr;done)))
  | (apply And.intro;· first|exact pO|exact nd13)
  | (apply Exists.intro;apply And.intro;· first|exact rfl)
  | fail
 all_goals (conv=>whnf)
 refine VLoop.norm [0,1,5] [] ?_
 repeat' (conv=>whnf);first
  | (refine bcase_of (fun hr=>?_) (fun hr=>?_)<;>(try simp only[bs] at hr)<;>try(exfalso;first|omega|(simp at hr;done)))
  | (apply And.intro;· first|exact pO|exact nd13)
  | (apply Exists.intro;apply And.intro;· first|exact rfl)
  | fail
 all_goals (conv=>whnf)
 refine VLoop.inv (fun i:Nat=>stSP o i) (fun i=>i≤o.length) (fun i=>o.length-i) 0 (Nat.zero_le _) rfl ?_
 intro i hi ih
 have hw:IntKind.i64.wrap ((i:Int)+1)=((i+1:Nat):Int):=wrap64 (by omega) (by omega)
 refine VLoop.unroll hE mixed ?_
 cases hx:o[i]? with
 | none=>
  have hx':=List.getElem?_eq_none_iff.1 hx
  repeat' (conv=>whnf);first
   | (refine bcase_of (fun hr=>?_) (fun hr=>?_)<;>(try simp only[bs] at hr)<;>try(exfalso;first|omega|(simp at hr;done)))
   | (apply And.intro;· first|exact pO|exact n1|exact n2|exact⟨by omega,by omega⟩|exact nd13)
   | (apply Exists.intro;apply And.intro;· first|exact rfl)
   | fail
  all_goals (conv=>whnf)
  all_goals rfl
 | some e=>
  have hi':=(List.getElem?_eq_some_iff.1 hx).1
  have gi:=getPr hx
  have hok:=ho e (List.mem_of_getElem? hx)
  have c0:=same9_ok e.2.n e.2.a e.2.b e.2.n e.2.a e.2.b e.2.p e.2.q e.2.p e.2.q hok.1 hok.2 hok.1 hok.2
  rw[decide_eq_true ⟨rfl,rfl,rfl,rfl,rfl⟩] at c0
  have n1:=pure_R e.2.p
  have n2:=pure_R e.2.q
  repeat' (conv=>whnf);first
   | (refine bcase_of (fun hr=>?_) (fun hr=>?_)<;>(try simp only[bs] at hr)<;>try(exfalso;first|omega|(simp at hr;done)))
   | (apply And.intro;· first|exact pO|exact n1|exact n2|exact⟨by omega,by omega⟩|exact nd13)
   | (apply Exists.intro;apply And.intro;· first|exact rfl|exact gi|exact c0)
   | rw[hw]
   | fail
  all_goals (conv=>whnf)
  all_goals refine VLoop.norm [0,1,5] [] ?_
  repeat' (conv=>whnf);first
   | (refine bcase_of (fun hr=>?_) (fun hr=>?_)<;>(try simp only[bs] at hr)<;>try(exfalso;first|omega|(simp at hr;done)))
   | (apply And.intro;· first|exact pO|exact n1|exact n2|exact⟨by omega,by omega⟩|exact nd13)
   | (apply Exists.intro;apply And.intro;· first|exact rfl|exact gi|exact c0)
   | rw[hw]
   | fail
  all_goals (conv=>whnf)
  all_goals exact ih (i+1) (by omega) (by omega)
end Go.Proofs.YtbppemcdphgknaaGreatDoor
