/- A part of the proofs over the seat YtbppemcdphgknaaGreatDoor. -/
import Derived.Test.YtbppemcdphgknaaGreatDoorT2
import Derived.Test.YtbppemcdphgknaaGreatDoorC8
set_option linter.unusedVariables false
set_option linter.unusedSimpArgs false
set_option maxRecDepth 100000
set_option maxHeartbeats 40000000
namespace Go.Proofs.YtbppemcdphgknaaGreatDoor
open Go Go.Vm
set_option maxRecDepth 100000
set_option maxHeartbeats 40000000
set_option linter.unusedSimpArgs false
set_option linter.unusedVariables false
variable {M K C:Int} {Tb:Tab}
theorem TIn.ch (h:TIn Tb) (k:Int):ChIn (chT Tb k)∧(chT Tb k).length≤9:=by
 unfold chT
 cases hg:get Tb k with
 | none=>exact⟨⟨by simp,fun e he=>by cases he⟩,by simp⟩
 | some l=>exact⟨(h.2.2 _ (get_mem hg)).2.1,(h.2.2 _ (get_mem hg)).2.2.2⟩
def rPut (M K C:Int) (Tb:Tab) (k ver:Int) (c:En) (b:Bool) (floor all:Int):Int×Tab:=match putA M K (chT Tb k) ver c b floor with
 | none=>(1,Tb)
 | some l=>if(chT Tb k).length=0∧0<l.length∧C≤all then(10,Tb) else(0,layT Tb k l)
end Go.Proofs.YtbppemcdphgknaaGreatDoor
namespace Go.Proofs.YtbppemcdphgknaaGreatDoor
open Go Go.Vm
variable {m keep cap:Int} {Tb:Tab} {i:Nat} {x:DV}
theorem capOf_eq {n:Int} (h:0≤n∧n≤2000):capOf n=n:=by unfold capOf;split<;>split<;>omega
theorem tNew (hg:(1≤m∧m≤2)∧(2≤keep∧keep≤8)∧0≤cap∧cap≤2000):∃x,ATriple Tryz.prog gv R0 27 [i64V m,i64V keep,i64V cap] [] (.ref (0,0) 0) [] (some (.abs x))∧TB m keep cap [] 0 x:=by
 obtain⟨⟨h1,h2⟩,⟨h3,h4⟩,h5,h6⟩:=hg
 have a0:=newF cap
 rw[capOf_eq ⟨h5,h6⟩] at a0
 have a1:=T.new_ok
 refine⟨tbD (slF cap 0 0 []) (T.trD [[]] [] 0 0 0) m keep,?_,⟨[],_,_,rfl,⟨⟨0,[],[[]],[],0,0,rfl,rfl,SL.start ⟨h5,h6⟩,T.TS.new,by simp,by simp⟩,by omega⟩,rfl⟩,⟨h1,h2⟩,⟨h3,h4⟩,fun e he=>(by cases he),fun e he=>(by cases he)⟩
 obtain⟨sl,hsl⟩:∃z,z=slF cap 0 0 []:=⟨_,rfl⟩
 obtain⟨tr,htr⟩:∃z,z=T.trD [[]] [] 0 0 0:=⟨_,rfl⟩
 rw[←hsl] at a0 ⊢
 rw[←htr] at a1 ⊢
 refine ATriple.of_bodyW (C:=cxB) Tryz.func27 rfl (by kernel_rfl) (mixedOf _) rfl (by simp[okA,okC,okN,co]) (by simp[okOb,okC,okN]) (by simp[okG,okA,okC,okN,co]) (by simp[okOb,okC,okN]) (fun o ho=>by cases ho;exact⟨by simp[okOb],rfl⟩) 0 [] fun E hE=>?_
 repeat' (conv=>whnf);first
  | (refine bcase_of (fun hr=>?_) (fun hr=>?_)<;>(try simp only[bs] at hr)<;>try(exfalso;first|omega|(simp at hr;done)))
  | (apply And.intro;· first|exact nd12)
  | (apply Exists.intro;apply And.intro;· first|exact rfl)
  | (apply Exists.intro;apply Exists.intro;apply Exists.intro;apply And.intro;· first|(refine ATriple.callN (a0) ?_ ?_ ?_<;>rfl)|(refine ATriple.callN (a1) ?_ ?_ ?_<;>rfl))
  | fail
 all_goals (conv=>whnf)
 all_goals (refine⟨[.shut (37,1) (tbD sl tr m keep)],?_⟩;(conv=>whnf);refine⟨shut_tb _ _ _ _ _ _,?_⟩;(conv=>whnf);exact⟨(37,1),by decide,rfl,rfl,rfl,rfl⟩)
theorem find_next {α:Type}:∀{q:List (Int×α)} {j:Nat} {e:Int×α},Sr q→q[j]?=some e→(q.find? fun x=>decide (e.1+1≤x.1))=q[j+1]?
 | [],_,_,_,h=>by simp at h
 | a::r,0,e,hs,h=>by
  have h':=List.pairwise_cons.1 hs
  simp at h;subst h
  rw[List.find?_cons_of_neg (by simp;omega)]
  cases r with
  | nil=>rfl
  | cons c t=>
   have:=h'.1 c (by simp)
   rw[List.find?_cons_of_pos (by simp;omega)];rfl
 | a::r,j+1,e,hs,h=>by
  have h':=List.pairwise_cons.1 hs
  have he:r[j]?=some e:=by simpa using h
  have:=h'.1 e (List.mem_of_getElem? he)
  rw[List.find?_cons_of_neg (by simp;omega),find_next h'.2 he];rfl
theorem find_first {α:Type} {q:List (Int×α)} (h:∀e∈q,0≤e.1):(q.find? fun x=>decide (0≤x.1))=q[0]?:=by
 cases q with
 | nil=>rfl
 | cons a r=>rw[List.find?_cons_of_pos (by simpa using h a (by simp))];rfl
theorem tab_get {q:Qt} {j:Nat} {e:Int×(Int×List En)} (h:q[j]?=some e):(tabQ q)[j]?=some (e.1,e.2.2):=by
 rw[tabQ,mp,List.getElem?_map,h];rfl
def stTS (ver:Int) (sl tr:DV) (m keep:Int) (o:Prs) (k p:Int) (b:Bool):St DV:=mkStX 70 2 [(0,.ref (0,0) 0),(1,i64V ver),(5,.rsl (66,1) 9 0 o.length),(6,u32V k),(7,i64V p),(8,.bool b)] [(65,.row 9 (o.map encPr) false),(70,.abs sl),(71,.abs tr)] [some (.box [.ref (71,1) 0,.ref (72,1) 0,i64V m,i64V keep])]
theorem tScan (h:TB m keep cap Tb i x) (ver:Int):ATriple Tryz.prog gv R0 21 [.ref (0,0) 0,i64V ver] [.abs x] (prsV (scanT m Tb ver)) [.abs x] none:=by
 have hkin:=h.kin
 obtain⟨q,sl,tr,rfl,ps,rfl⟩:=h.ex
 have hn:=ps.len
 have hsq:=ps.srt
 obtain⟨low,L,Lt,F,root,hh,rfl,rfl,hs,t,b1,b2⟩:=ps.ex
 have h9:=ts_h t (by rw[mp_len];exact hn)
 have hk0:∀e∈q,KIn e.1:=fun e he=>hkin (e.1,e.2.2) (List.mem_map.2 ⟨e,he,rfl⟩)
 have hG:∀e∈q,ATriple Tryz.prog gv R0 74 [.ref (0,0) 0,i64V e.2.1] [.abs (slF cap q.length low L)] (.tup [chV e.2.2,.bool true]) [.abs (slF cap q.length low L)] none:=fun e he=>by
  obtain⟨g0,g1⟩:=hs.pl e he
  have ho:=chOk (hs.ch e he).1
  exact getF hs.inv g0 g1 rfl ho.1 ho.2
 have hN:∀k,ATriple Tryz.prog gv T.R0 73 [.ref (0,0) 0,T.u32V k] [.abs (T.trD Lt F root hh q.length)] (T.nxV ((q.find? fun e=>decide (k≤e.1)).map fun e=>(e.1,e.2.1))) [.abs (T.trD Lt F root hh q.length)] none:=fun k=>by
  have:=T.next_ts t (by omega) q.length k
  rw[nx_q] at this;exact this
 have hch:=hs.ch
 obtain⟨sl,hsl⟩:∃z,z=slF cap q.length low L:=⟨_,rfl⟩
 obtain⟨tr,htr⟩:∃z,z=T.trD Lt F root hh q.length:=⟨_,rfl⟩
 rw[←hsl] at hG ⊢
 rw[←htr] at hN ⊢
 clear hsl htr hs t ps h b1 b2
 have a0:=hN 0
 rw[find_first fun e he=>(hk0 e he).1] at a0
 have key:∃k p b,((q[0]?=none∧k=0∧p=0∧b=false)∨(∃e,q[0]?=some e∧k=e.1∧p=e.2.1∧b=true))∧T.nxV ((q[0]?).map fun e=>(e.1,e.2.1))=.tup [u32V k,i64V p,.bool b]:=by
  cases hq:q[0]? with
  | none=>exact⟨0,0,false,.inl ⟨rfl,rfl,rfl,rfl⟩,rfl⟩
  | some e=>exact⟨e.1,e.2.1,true,.inr ⟨e,rfl,rfl,rfl,rfl⟩,rfl⟩
 obtain⟨k0,p0,bb,hst,hnv⟩:=key
 rw[hnv] at a0
 refine ATriple.of_bodyW (C:=cxB) Tryz.func21 rfl (by kernel_rfl) (mixedOf _) rfl (by simp[okA,okC,okN,co,pure_Pr]) (by simp[okOb,okC,okN,pure_Pr]) (by simp[okG,okA,okC,okN,co,pure_Pr]) (by simp[okOb,okC,okN,pure_Pr]) (fun o ho=>by cases ho) 2 [.opn (0,0) [70,71]] fun E hE=>?_
 repeat' (conv=>whnf);first
  | (refine bcase_of (fun hr=>?_) (fun hr=>?_)<;>(try simp only[bs] at hr)<;>try(exfalso;first|omega|(simp at hr;done)))
  | (apply And.intro;· first|exact nd12)
  | (apply Exists.intro;apply And.intro;· first|exact rfl)
  | (apply Exists.intro;apply Exists.intro;apply Exists.intro;apply And.intro;· first|(refine ATriple.callN (a0) ?_ ?_ ?_<;>rfl))
  | fail
 all_goals (conv=>whnf)
 all_goals refine VLoop.adopt 5 65 9 ?_
 all_goals (conv=>whnf)
 all_goals refine VLoop.norm [0,1,5,6,7,8] [65,70,71] ?_
 all_goals
  repeat' (conv=>whnf);first
   | (refine bcase_of (fun hr=>?_) (fun hr=>?_)<;>(try simp only[bs] at hr)<;>try(exfalso;first|omega|(simp at hr;done)))
   | (apply And.intro;· first|exact(fun e he=>nomatch he)|exact nd12)
   | (apply Exists.intro;apply And.intro;· first|exact rfl)
   | fail
 all_goals (conv=>whnf)
 all_goals (refine VLoop.inv (fun z:Nat×Prs×Int×Int×Bool=>stTS ver sl tr m keep z.2.1 z.2.2.1 z.2.2.2.1 z.2.2.2.2) (fun z=>z.1≤q.length∧z.2.1=scanT m ((tabQ q).take z.1) ver∧((q[z.1]?=none∧z.2.2.1=0∧z.2.2.2.1=0∧z.2.2.2.2=false)∨(∃e,q[z.1]?=some e∧z.2.2.1=e.1∧z.2.2.2.1=e.2.1∧z.2.2.2.2=true))) (fun z=>q.length-z.1) (0,[],k0,p0,_) ⟨Nat.zero_le _,rfl,by simpa[*] using hst⟩ rfl ?_)
 all_goals
  rintro⟨j,o,k,p,b⟩ ⟨hj,ho,hz⟩ ih
  simp only at hj ho hz ih
  show VLoop _ _ _ (stTS ver sl tr m keep o k p b) _
  have hlen:(tabQ q).length=q.length:=mp_len _ _
  have hol:o.length≤2000:=by rw[ho];have:=scanT_len m ((tabQ q).take j) ver;rw[List.length_take] at this;omega
  have pO:=pure_Pr o
  have lO:=lenPr o
  have rO:=raPr o (by omega)
  have z9:0+o.length≤(o.map encPr).length:=by simp
  have z8:PureEs (((o.map encPr).drop 0).take o.length):=by rw[takePr];exact pure_Pr o
  refine VLoop.unroll hE (mixedOf _) ?_
  rcases hz with⟨hq,rfl,rfl,rfl⟩|⟨e,hq,rfl,rfl,rfl⟩
  ·have hx':=List.getElem?_eq_none_iff.1 hq
   rw[List.take_of_length_le (by omega)] at ho
   subst ho
   repeat' (conv=>whnf);first
    | (refine bcase_of (fun hr=>?_) (fun hr=>?_)<;>(try simp only[bs] at hr)<;>try(exfalso;first|omega|(simp at hr;done)))
    | (apply And.intro;· first|exact pO|exact n0|exact n1|exact n2|exact n4|exact rO|exact z9|exact z8|exact z7|exact⟨by omega,by omega⟩|exact⟨rfl,z9⟩|exact nd12)
    | (apply Exists.intro;apply And.intro;· first|exact rfl)
    | fail
   all_goals (conv=>whnf)
   all_goals (refine⟨[.shut (0,0) (tbD sl tr m keep)],?_⟩;(conv=>whnf);refine⟨shut_tb _ _ _ _ _ _,?_⟩;(conv=>whnf);exact⟨congrArg (V.lst 9) (takePr _),rfl⟩)
  ·have hjl:=(List.getElem?_eq_some_iff.1 hq).1
   have hmem:=List.mem_of_getElem? hq
   have c1:=cAt_ok e.1 (hk0 e hmem)
   obtain⟨hk1,hk2⟩:=hk0 e hmem
   have a1:=hG e hmem
   have n0:=pure_E e.2.2
   have c0:=At_ok m e.2.2 ver (hch e hmem).1
   have hst2:=scanT_take (m:=m) (ver:=ver) (tab_get hq)
   have a2:=hN (e.1+1)
   rw[find_next hsq hq] at a2
   have key2:∃k2 p2 b2,((q[j+1]?=none∧k2=0∧p2=0∧b2=false)∨(∃e,q[j+1]?=some e∧k2=e.1∧p2=e.2.1∧b2=true))∧T.nxV ((q[j+1]?).map fun e=>(e.1,e.2.1))=.tup [u32V k2,i64V p2,.bool b2]:=by
    cases hq:q[j+1]? with
    | none=>exact⟨0,0,false,.inl ⟨rfl,rfl,rfl,rfl⟩,rfl⟩
    | some e=>exact⟨e.1,e.2.1,true,.inr ⟨e,rfl,rfl,rfl,rfl⟩,rfl⟩
   obtain⟨k2,p2,bb2,hz2,hnv2⟩:=key2
   rw[hnv2] at a2
   by_cases hmax:e.1+1<4294967296
   ·have w0:IntKind.u32.wrap (e.1+1)=e.1+1:=by rw[wrap32];omega
    cases hat:atS m e.2.2 ver with
    | none=>
     rw[hat] at c0 hst2
     repeat' (conv=>whnf);first
      | (refine bcase_of (fun hr=>?_) (fun hr=>?_)<;>(try simp only[bs] at hr)<;>try(exfalso;first|omega|(simp at hr;done)))
      | (apply And.intro;· first|exact pO|exact n0|exact n1|exact n2|exact n4|exact rO|exact z9|exact z8|exact z7|exact⟨by omega,by omega⟩|exact⟨rfl,z9⟩|exact nd12)
      | (apply Exists.intro;apply And.intro;· first|exact rfl|exact c0|exact c1)
      | (apply Exists.intro;apply Exists.intro;apply Exists.intro;apply And.intro;· first|(refine ATriple.callN (a1) ?_ ?_ ?_<;>rfl)|(refine ATriple.callN (a2) ?_ ?_ ?_<;>rfl))
      | rw[w0]
      | fail
     all_goals (conv=>whnf)
     all_goals refine VLoop.norm [0,1,5,6,7,8] [65,70,71] ?_
     all_goals
      repeat' (conv=>whnf);first
       | (refine bcase_of (fun hr=>?_) (fun hr=>?_)<;>(try simp only[bs] at hr)<;>try(exfalso;first|omega|(simp at hr;done)))
       | (apply And.intro;· first|exact pO|exact n0|exact n1|exact n2|exact n4|exact rO|exact z9|exact z8|exact z7|exact⟨by omega,by omega⟩|exact⟨rfl,z9⟩|exact nd12)
       | (apply Exists.intro;apply And.intro;· first|exact rfl|exact c0|exact c1)
       | (apply Exists.intro;apply Exists.intro;apply Exists.intro;apply And.intro;· first|(refine ATriple.callN (a1) ?_ ?_ ?_<;>rfl)|(refine ATriple.callN (a2) ?_ ?_ ?_<;>rfl))
       | rw[w0]
       | fail
     all_goals (conv=>whnf)
     all_goals first|exact ih (j+1,o,k2,p2,true) ⟨by simp only;omega,by simp only;rw[hst2,ho];simp,by simpa[*] using hz2⟩ (by simp only;omega)|exact ih (j+1,o,k2,p2,false) ⟨by simp only;omega,by simp only;rw[hst2,ho];simp,by simpa[*] using hz2⟩ (by simp only;omega)
    | some c=>
     rw[hat] at c0 hst2
     have hadd:=addPr o (e.1,c)
     have n1:=pure_R c.p
     have n2:=pure_R c.q
     have n4:PureEs (((o.map encPr).drop 0).take o.length++([encPr (e.1,c)].drop 0).take 1):=by rw[hadd];exact pure_Pr _
     repeat' (conv=>whnf);first
      | (refine bcase_of (fun hr=>?_) (fun hr=>?_)<;>(try simp only[bs] at hr)<;>try(exfalso;first|omega|(simp at hr;done)))
      | (apply And.intro;· first|exact pO|exact n0|exact n1|exact n2|exact n4|exact rO|exact z9|exact z8|exact z7|exact⟨by omega,by omega⟩|exact⟨rfl,z9⟩|exact nd12)
      | (apply Exists.intro;apply And.intro;· first|exact rfl|exact c0|exact c1)
      | (apply Exists.intro;apply Exists.intro;apply Exists.intro;apply And.intro;· first|(refine ATriple.callN (a1) ?_ ?_ ?_<;>rfl)|(refine ATriple.callN (a2) ?_ ?_ ?_<;>rfl))
      | rw[w0]
      | fail
     all_goals (conv=>whnf)
     all_goals refine VLoop.norm [0,1,5,6,7,8] [65,70,71] ?_
     all_goals
      repeat' (conv=>whnf);first
       | (refine bcase_of (fun hr=>?_) (fun hr=>?_)<;>(try simp only[bs] at hr)<;>try(exfalso;first|omega|(simp at hr;done)))
       | (apply And.intro;· first|exact pO|exact n0|exact n1|exact n2|exact n4|exact rO|exact z9|exact z8|exact z7|exact⟨by omega,by omega⟩|exact⟨rfl,z9⟩|exact nd12)
       | (apply Exists.intro;apply And.intro;· first|exact rfl|exact c0|exact c1)
       | (apply Exists.intro;apply Exists.intro;apply Exists.intro;apply And.intro;· first|(refine ATriple.callN (a1) ?_ ?_ ?_<;>rfl)|(refine ATriple.callN (a2) ?_ ?_ ?_<;>rfl))
       | rw[w0]
       | fail
     all_goals (conv=>whnf)
     all_goals first|(have:=ih (j+1,o++[(e.1,c)],k2,p2,true) ⟨by simp only;omega,by simp only;rw[hst2,ho],by simpa[*] using hz2⟩ (by simp only;omega);simp only[stTS,List.length_append,List.length_singleton] at this;rw[←hadd] at this;exact this)|(have:=ih (j+1,o++[(e.1,c)],k2,p2,false) ⟨by simp only;omega,by simp only;rw[hst2,ho],by simpa[*] using hz2⟩ (by simp only;omega);simp only[stTS,List.length_append,List.length_singleton] at this;rw[←hadd] at this;exact this)
   ·have w0:IntKind.u32.wrap (e.1+1)=0:=by rw[wrap32];omega
    have hend:(tabQ q).length≤j+1:=by
     refine Nat.le_of_not_lt fun hc=>?_
     have h1:q[j+1]?=some (q[j+1]'(by omega)):=List.getElem?_eq_getElem _
     have h2:=(List.pairwise_iff_getElem.1 hsq) j (j+1) hjl (by omega) (by omega)
     rw[List.getElem?_eq_getElem hjl] at hq
     have h3:=hk0 _ (List.mem_of_getElem? h1)
     have h4:=h3.2
     rw[Option.some.inj hq] at h2
     omega
    rw[List.take_of_length_le (by omega)] at hst2
    cases hat:atS m e.2.2 ver with
    | none=>
     rw[hat] at c0 hst2
     have ho':o=scanT m (tabQ q) ver:=by rw[hst2,ho];simp
     repeat' (conv=>whnf);first
      | (refine bcase_of (fun hr=>?_) (fun hr=>?_)<;>(try simp only[bs] at hr)<;>try(exfalso;first|omega|(simp at hr;done)))
      | (apply And.intro;· first|exact pO|exact n0|exact n1|exact n2|exact n4|exact rO|exact z9|exact z8|exact z7|exact⟨by omega,by omega⟩|exact⟨rfl,z9⟩|exact nd12)
      | (apply Exists.intro;apply And.intro;· first|exact rfl|exact c0|exact c1)
      | (apply Exists.intro;apply Exists.intro;apply Exists.intro;apply And.intro;· first|(refine ATriple.callN (a1) ?_ ?_ ?_<;>rfl)|(refine ATriple.callN (a2) ?_ ?_ ?_<;>rfl))
      | rw[w0]
      | fail
     all_goals (conv=>whnf)
     all_goals (refine⟨[.shut (0,0) (tbD sl tr m keep)],?_⟩;(conv=>whnf);refine⟨shut_tb _ _ _ _ _ _,?_⟩;(conv=>whnf);exact⟨congrArg (V.lst 9) ((takePr _).trans (by rw[ho'])),rfl⟩)
    | some c=>
     rw[hat] at c0 hst2
     have hadd:=addPr o (e.1,c)
     have n1:=pure_R c.p
     have n2:=pure_R c.q
     have n4:PureEs (((((o.map encPr).drop 0).take o.length++([encPr (e.1,c)].drop 0).take 1).drop 0).take (o.length+1)):=by rw[hadd,List.drop_zero];exact fun x hx=>pure_Pr _ x (List.mem_of_mem_take hx)
     have z7:0+(o.length+1)≤(((o.map encPr).drop 0).take o.length++([encPr (e.1,c)].drop 0).take 1).length:=by rw[hadd];simp
     have ho':o++[(e.1,c)]=scanT m (tabQ q) ver:=by rw[hst2,ho]
     repeat' (conv=>whnf);first
      | (refine bcase_of (fun hr=>?_) (fun hr=>?_)<;>(try simp only[bs] at hr)<;>try(exfalso;first|omega|(simp at hr;done)))
      | (apply And.intro;· first|exact pO|exact n0|exact n1|exact n2|exact n4|exact rO|exact z9|exact z8|exact z7|exact⟨by omega,by omega⟩|exact⟨rfl,z9⟩|exact nd12)
      | (apply Exists.intro;apply And.intro;· first|exact rfl|exact c0|exact c1)
      | (apply Exists.intro;apply Exists.intro;apply Exists.intro;apply And.intro;· first|(refine ATriple.callN (a1) ?_ ?_ ?_<;>rfl)|(refine ATriple.callN (a2) ?_ ?_ ?_<;>rfl))
      | rw[w0]
      | fail
     all_goals (conv=>whnf)
     all_goals (refine⟨[.shut (0,0) (tbD sl tr m keep)],?_⟩;(conv=>whnf);refine⟨shut_tb _ _ _ _ _ _,?_⟩;(conv=>whnf);exact⟨congrArg (V.lst 9) (show((((o.map encPr).drop 0).take o.length++([encPr (e.1,c)].drop 0).take 1).drop 0).take (o.length+1)=_ by rw[hadd,List.drop_zero,List.take_of_length_le (by simp),ho']),rfl⟩)
end Go.Proofs.YtbppemcdphgknaaGreatDoor
namespace Go.Proofs.YtbppemcdphgknaaGreatDoor
open Go Go.Vm
theorem goU {P:Prop} (h:P:=by
 repeat' (conv=>whnf);first
  | (refine bcase_of (fun hr=>?_) (fun hr=>?_)<;>(try simp only[bs] at hr)<;>try(exfalso;first|omega|(simp at hr;done)|(simp_all;done)))
  | (apply And.intro;· first|exact nd10|exact n0|exact n1|exact n2|exact n3|exact n4|exact n5|exact n6|exact n7|exact n8|exact n9|exact⟨by decide,by decide⟩|exact⟨nb rfl,allOne_of rfl⟩|exact allOne_of rfl|exact⟨rfl,rfl⟩|exact pure_of rfl|exact⟨by omega,by omega⟩|exact⟨nb rfl,nb rfl⟩|exact⟨by simp,by simp⟩)
  | (apply Exists.intro;apply And.intro;· first|exact rfl|exact c0|exact c1|exact c2|exact c3|exact c4|exact c5|exact c6|exact c7|exact c8|exact c9)
  | (apply Exists.intro;apply Exists.intro;apply Exists.intro;apply And.intro;· first|(refine ATriple.callN a0 ?_ ?_ ?_<;>rfl)|(refine ATriple.callN a1 ?_ ?_ ?_<;>rfl)|(refine ATriple.callN a2 ?_ ?_ ?_<;>rfl)|(refine ATriple.callN a3 ?_ ?_ ?_<;>rfl)|(refine ATriple.callN a4 ?_ ?_ ?_<;>rfl)|(refine ATriple.callN a5 ?_ ?_ ?_<;>rfl)|(refine ATriple.callN a6 ?_ ?_ ?_<;>rfl)|(refine ATriple.callN a7 ?_ ?_ ?_<;>rfl)|(refine ATriple.callN a8 ?_ ?_ ?_<;>rfl)|(refine ATriple.callN a9 ?_ ?_ ?_<;>rfl))
  | (apply Exists.intro;apply And.intro;· first|(refine ATriple.callK a0 ?_ ?_ ?_ ?_<;>first|rfl|(intro d;rfl))|(refine ATriple.callK a1 ?_ ?_ ?_ ?_<;>first|rfl|(intro d;rfl))|(refine ATriple.callK a2 ?_ ?_ ?_ ?_<;>first|rfl|(intro d;rfl))|(refine ATriple.callK a3 ?_ ?_ ?_ ?_<;>first|rfl|(intro d;rfl))|(refine ATriple.callK a4 ?_ ?_ ?_ ?_<;>first|rfl|(intro d;rfl))|(refine ATriple.callK a5 ?_ ?_ ?_ ?_<;>first|rfl|(intro d;rfl))|(refine ATriple.callK a6 ?_ ?_ ?_ ?_<;>first|rfl|(intro d;rfl))|(refine ATriple.callK a7 ?_ ?_ ?_ ?_<;>first|rfl|(intro d;rfl))|(refine ATriple.callK a8 ?_ ?_ ?_ ?_<;>first|rfl|(intro d;rfl))|(refine ATriple.callK a9 ?_ ?_ ?_ ?_<;>first|rfl|(intro d;rfl)))
  | (refine VLoop.unroll hE (mixedOf _) ?_)
  | rw[w0]|rw[w1]|rw[w2]|rw[w3]|rw[w4]
  | fail
 all_goals (conv=>whnf)
 all_goals first|exact e0|exact e1|exact e2|exact⟨rfl,rfl⟩|rfl|(refine⟨[],?_⟩;(conv=>whnf);exact⟨rfl,rfl⟩)):P:=h
def NilV (v' v:V):Prop:=∀ρ M x,VRel ρ M v' x→VRel ρ M v x
inductive NilVs:List V→List V→Prop
 | nil:NilVs [] []
 | cons {a b:V} {l l':List V}:NilV a b→NilVs l l'→NilVs (a::l) (b::l')
theorem NilV.refl (v:V):NilV v v:=fun _ _ _ h=>h
theorem NilV.nils (sz:Nat):NilV .nils (.lst sz []):=fun _ _ _ h=>h.lst_of_nils
theorem NilVs.rel {l l':List V} (h:NilVs l l') {ρ:Rho} {M:Mem}:∀{vs:List Value},VsRel ρ M l vs→VsRel ρ M l' vs:=by
 induction h with
 | nil=>exact fun h=>h
 | cons h0 _ ih=>intro vs h;obtain⟨v',r,rfl,h1,h2⟩:=h.uncons;exact .cons (h0 _ _ _ h1) (ih h2)
theorem NilV.agg {l l':List V} (h:NilVs l l'):NilV (.agg l) (.agg l'):=fun ρ M x hx=>by
 cases hx with
 | agg h1 h2=>have h3:=h.rel ⟨h1,h2⟩;exact .agg h3.1 h3.2
theorem NilV.tup {l l':List V} (h:NilVs l l'):NilV (.tup l) (.tup l'):=fun ρ M x hx=>by
 cases hx with
 | tup h1 h2=>have h3:=h.rel ⟨h1,h2⟩;exact .tup h3.1 h3.2
theorem nv {P:Program} {G:Nat→V} {f:FuncId} {args args':List V} {r r':V} (h:PTriple P G f args r)
  (ha:NilVs args' args:=by repeat first|exact NilVs.nil|exact NilV.refl _|exact NilV.nils _|(refine NilVs.cons ?_ ?_)|(refine NilV.agg ?_)|(refine NilV.tup ?_))
  (hr:NilV r r':=by repeat first|exact NilVs.nil|exact NilV.refl _|exact NilV.nils _|(refine NilVs.cons ?_ ?_)|(refine NilV.agg ?_)|(refine NilV.tup ?_)):PTriple P G f args' r':=
 h.weak (fun _ _ h=>ha.rel h) fun _ _ h=>hr _ _ _ h
theorem lay8 (v:Int):PTriple Tryz.prog gv 138 [.nils,i64V v,i64V 1] (bagV [(v,1)]):=by
 refine PTriple.of_body (C:=cx) Tryz.func138 rfl (by kernel_rfl) mixed fun E hE=>?_
 exact goU
theorem goodB_one (v:Int):goodB [(v,1)]=true:=by simp[goodB,bgo]
theorem made1 (v:Int) (hv:in64 v):PTriple Tryz.prog gv 139 [i64V 1,i64V 1,.agg [bagV [(v,1)],.nils]] (.agg [i64V 1,i64V v,i64V 0,bagV [(v,1)],.nils,.bool true]):=by
 have h6:RIn [(v,1)]:=fun r hr=>by obtain rfl:=List.mem_singleton.1 hr;exact⟨hv,by unfold in64;omega⟩
 have hs:wsum [(v,1)]=v:=by simp[wsum]
 have c0:=Wide8_ok [(v,1)] (by simp) h6 (goodB_one v)
 rw[hs] at c0
 have c1:=ok103 v _ rfl
 rw[show fit v=(v,true) by unfold fit;exact if_pos hv] at c1
 have hg:goodC 1 1 v 0 [(v,1)] []=true:=by simp[goodC,partOk,goodB_one,hs,cntB]
 have c2:PTriple Tryz.prog gv 144 [i64V 1,.agg [i64V 1,i64V v,i64V 0,bagV [(v,1)],.nils]] (.bool true):=by
  have:=cellGood9_ok 1 1 v 0 [(v,1)] [] (by simp) (by simp) h6 (fun r hr=>by cases hr) hv (by unfold in64;omega)
  rw[hg] at this
  exact nv this
 have n0:=pure_R [(v,1)]
 refine PTriple.of_body (C:=cx) Tryz.func139 rfl (by kernel_rfl) mixed fun E hE=>?_
 exact goU
theorem of1 (v:Int) (hv:in64 v):PTriple Tryz.prog gv 99 [i64V 1,.lst 6 [[u8V 0,u8V 0,u8V 0,u8V 0,i64V v,i64V v]]] (.agg [i64V 1,i64V v,i64V 0,bagV [(v,1)],.nils,.bool true]):=by
 have c0:=lay8 v
 have c1:=made1 v hv
 have n0:=pure_R [(v,1)]
 have n1:PureEs [[u8V 0,u8V 0,u8V 0,u8V 0,i64V v,i64V v]]:=pure_of rfl
 refine PTriple.of_body (C:=cx) Tryz.func99 rfl (by kernel_rfl) mixed fun E hE=>?_
 exact goU
end Go.Proofs.YtbppemcdphgknaaGreatDoor
namespace Go.Proofs.YtbppemcdphgknaaGreatDoor
open Go Go.Vm
variable {m keep cap:Int} {Tb:Tab} {i:Nat} {x:DV}
structure Act where
 kd:Int
 k:Int
 ver:Int
 fl:Int
 c:En
 i:Bool
end Go.Proofs.YtbppemcdphgknaaGreatDoor
