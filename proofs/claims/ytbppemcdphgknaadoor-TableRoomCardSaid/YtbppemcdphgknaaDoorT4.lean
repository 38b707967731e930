/- A part of the proofs over the seat YtbppemcdphgknaaDoor. -/
import Derived.Test.YtbppemcdphgknaaDoorT3
set_option linter.unusedVariables false
set_option linter.unusedSimpArgs false
set_option maxRecDepth 100000
set_option maxHeartbeats 40000000
namespace Go.Proofs.YtbppemcdphgknaaDoor
open Go Go.Vm
set_option maxRecDepth 100000
set_option maxHeartbeats 40000000
set_option linter.unusedSimpArgs false
set_option linter.unusedVariables false
noncomputable def cxL:Cx DV:=cxOf [(32,1),(71,1),(39,1),(30,1),(34,5),(33,5),(70,5),(35,5),(38,5)]
def e5:En:=⟨0,0,1,5,0,[(5,1)],[]⟩
def e1:En:=⟨0,0,1,1,0,[(1,1)],[]⟩
theorem in64s {n:Int} (h : -100≤n∧n≤100):in64 n:=by unfold in64;omega
theorem e5_in:EnIn e5:=⟨by decide,by decide,fun r hr=>by obtain rfl:=List.mem_singleton.1 hr;exact⟨in64s (by decide),in64s (by decide)⟩,fun r hr=>(by cases hr),in64s (by decide),in64s (by decide)⟩
def kA:Int:=16777216
def t5:Tab:=[(kA,[⟨1,1,1,5,0,[(5,1)],[]⟩])]
theorem w1:tPut 1 2 1 [] kA 1 e5 true 0=(0,t5):=by kernel_rfl
theorem w2:tPut 1 2 1 t5 0 1 e5 true 0=(10,t5):=by kernel_rfl
theorem w3:tUndo 1 1 t5 kA 1=(true,[]):=by kernel_rfl
theorem w4:tPut 1 2 0 [] kA 1 e5 true 0=(10,[]):=by kernel_rfl
theorem wakes19:PTriple Tryd.prog gv 36 [] (.bool true):=by
 have c0:=cellOf1 5 (in64s (by decide))
 have hk:KIn kA:=⟨by decide,by decide⟩
 have h0':KIn 0:=⟨by decide,by decide⟩
 obtain⟨x0,q0,h0⟩:=tNew (m:=1) (keep:=2) (cap:=1) ⟨⟨by decide,by decide⟩,⟨by decide,by decide⟩,by decide,by decide⟩
 obtain⟨x1,i1,q1,h1,j1⟩:=tPut_ok h0 (by omega) hk 1 e5_in true 0
 rw[w1] at q1 h1
 obtain⟨x2,i2,q2,h2,j2⟩:=tPut_ok h1 (by omega) h0' 1 e5_in true 0
 rw[w2] at q2 h2
 have q3:=tAt h2 hk 1
 rw[show atS 1 (chT t5 kA) 1=some ⟨1,1,1,5,0,[(5,1)],[]⟩ by kernel_rfl] at q3
 have q4:=tScan h2 1
 rw[show scanT 1 t5 1=[(kA,⟨1,1,1,5,0,[(5,1)],[]⟩)] by kernel_rfl] at q4
 have q5:=tNext h2 0
 rw[show nxT t5 0=some (kA,[⟨1,1,1,5,0,[(5,1)],[]⟩]) by kernel_rfl] at q5
 have q6:=tLen h2
 obtain⟨x3,i3,q7,h3,j3⟩:=tUndo_ok h2 (by omega) hk 1
 rw[w3] at q7 h3
 have q8:=tLen h3
 obtain⟨y0,q9,g0⟩:=tNew (m:=1) (keep:=2) (cap:=0) ⟨⟨by decide,by decide⟩,⟨by decide,by decide⟩,by decide,by decide⟩
 obtain⟨y1,i4,q10,g1,j4⟩:=tPut_ok g0 (by omega) hk 1 e5_in true 0
 rw[w4] at q10 g1
 have n0:=pure_R [(5,1)]
 have n1:=pure_nil
 have n2:=pure_Pr [(kA,⟨1,1,1,5,0,[(5,1)],[]⟩)]
 clear h0 h1 h2 h3 g0 g1
 refine PTriple.of_body (C:=cxL) Tryd.func36 rfl (by kernel_rfl) (mixedOf _) fun E hE=>?_
 repeat' (conv=>whnf);first
  | (refine bcase_of (fun hr=>?_) (fun hr=>?_)<;>(try simp only[bs] at hr)<;>try(exfalso;first|omega|(simp at hr;done)))
  | (apply And.intro;· first|exact n0|exact n1|exact n2|exact⟨by simp,by simp⟩|exact nd12)
  | (apply Exists.intro;apply And.intro;· first|exact rfl|exact c0)
  | (apply Exists.intro;apply Exists.intro;apply Exists.intro;apply And.intro;· first|(refine ATriple.callN (q0) ?_ ?_ ?_<;>rfl)|(refine ATriple.callN (q1) ?_ ?_ ?_<;>rfl)|(refine ATriple.callN (q2) ?_ ?_ ?_<;>rfl)|(refine ATriple.callN (q7) ?_ ?_ ?_<;>rfl)|(refine ATriple.callN (q9) ?_ ?_ ?_<;>rfl)|(refine ATriple.callN (q10) ?_ ?_ ?_<;>rfl))
  | (apply Exists.intro;apply And.intro;· first|(refine ATriple.callK (q3) ?_ ?_ ?_ ?_<;>first|rfl|(intro d;rfl))|(refine ATriple.callK (q4) ?_ ?_ ?_ ?_<;>first|rfl|(intro d;rfl))|(refine ATriple.callK (q5) ?_ ?_ ?_ ?_<;>first|rfl|(intro d;rfl))|(refine ATriple.callK (q6) ?_ ?_ ?_ ?_<;>first|rfl|(intro d;rfl))|(refine ATriple.callK (q8) ?_ ?_ ?_ ?_<;>first|rfl|(intro d;rfl)))
  | fail
 all_goals (conv=>whnf)
 all_goals rfl
end Go.Proofs.YtbppemcdphgknaaDoor
namespace Go.Proofs.YtbppemcdphgknaaDoor
open Go Go.Vm
def cw (v:Int):En:=⟨0,0,1,v,0,[(v,1)],[]⟩
def cz:En:=⟨0,0,0,0,0,[],[]⟩
def g1 (v:Int):En:=newE 1 1 (cw v)
def g2 (v:Int):En:=newE 2 2 (cw v)
def g3:En:=newE 3 3 cz
theorem cw_in {v:Int} (hv:in64 v):EnIn (cw v):=⟨by simp[cw],by simp[cw],fun r hr=>by obtain rfl:=List.mem_singleton.1 hr;exact⟨hv,in64s (n:=1) (by decide)⟩,fun r hr=>(by cases hr),hv,in64s (n:=0) (by decide)⟩
theorem cz_in:EnIn cz:=⟨by decide,by decide,fun r hr=>(by cases hr),fun r hr=>(by cases hr),in64s (by decide),in64s (by decide)⟩
theorem goodC1 (v:Int):goodC 1 1 v 0 [(v,1)] []=true:=by simp[goodC,partOk,goodB_one,wsum,cntB]
theorem pu1 (v f:Int):putA 1 2 [] 1 (cw v) true f=some [g1 v]:=by
 have h:okP 1 2 [] 1 (cw v) true=true:=by simp[okP,goodL,gch,lastLe,mayC,cw,goodC1]
 unfold putA;rw[h];simp[putS,afterP,g1]
theorem pu2 (v:Int):putA 1 2 [g1 v] 2 (cw v) true 0=some [g1 v,g2 v]:=by
 have h:okP 1 2 [g1 v] 2 (cw v) true=true:=by simp[okP,goodL,gch,lastLe,mayC,mayE,cw,goodC1,g1,newE,known,is,was]
 unfold putA;rw[h];simp[putS,afterP,g1,g2,newE,is,ofV]
theorem pu3 (v:Int):putA 1 2 [g1 v,g2 v] 3 cz false 0=some [g1 v,g2 v,g3]:=by
 have h:okP 1 2 [g1 v,g2 v] 3 cz false=true:=by simp[okP,goodL,gch,lastLe,mayC,mayE,cw,goodC1,g1,g2,newE,known,is,was,cz,zeroC]
 unfold putA;rw[h];simp[putS,afterP,g1,g2,g3,newE,is,ofV]
theorem pu4 (v:Int):putA 1 2 [] 3 (cw v) true 0=some [newE 3 1 (cw v)]:=by
 have h:okP 1 2 [] 3 (cw v) true=true:=by simp[okP,goodL,gch,lastLe,mayC,cw,goodC1]
 unfold putA;rw[h];simp[putS,afterP]
theorem pu5 (v:Int):putA 1 2 [] 4 (cw v) true 3=some [newE 4 1 (cw v)]:=by
 have h:okP 1 2 [] 4 (cw v) true=true:=by simp[okP,goodL,gch,lastLe,mayC,cw,goodC1]
 unfold putA;rw[h];simp[putS,afterP]
theorem pr2 (v:Int):pruneS 1 [g1 v,g2 v,g3] 2=[g2 v,g3]:=by
 have h:goodL 1 [g1 v,g2 v,g3]=true:=by simp[goodL,gch,mayC,mayE,cw,goodC1,g1,g2,g3,newE,known,is,was,cz,zeroC]
 unfold pruneS;rw[h];simp[cutN,g1,g2,g3,newE]
theorem pr3 (v:Int):pruneS 1 [g2 v,g3] 3=[]:=by
 have h:goodL 1 [g2 v,g3]=true:=by simp[goodL,gch,mayC,mayE,cw,goodC1,g2,g3,newE,known,is,was,cz,zeroC]
 unfold pruneS;rw[h];simp[cutN,g2,g3,newE]
section
variable {m keep cap:Int} {Tb:Tab} {k ver floor:Int} {c:En} {b:Bool} {l u:List En}
theorem put_old (hp:putA m keep u ver c b floor=some l) (hne:l≠[]) (hg:get Tb k=some u):tPut m keep cap Tb k ver c b floor=(0,ins Tb k l):=by
 have hc:chT Tb k=u:=by unfold chT;rw[hg];rfl
 unfold tPut;rw[hc,hp];simp[okT,setT,hg,hne]
theorem put_new (hp:putA m keep [] ver c b floor=some l) (hne:l≠[]) (hg:get Tb k=none) (hc:(Tb.length:Int)<cap):tPut m keep cap Tb k ver c b floor=(0,ins Tb k l):=by
 have hc2:chT Tb k=[]:=by unfold chT;rw[hg];rfl
 unfold tPut;rw[hc2,hp];simp[okT,setT,hg,hne,hc]
theorem put_full (hp:putA m keep [] ver c b floor=some l) (hne:l≠[]) (hg:get Tb k=none) (hc:¬(Tb.length:Int)<cap):tPut m keep cap Tb k ver c b floor=(10,Tb):=by
 have hc2:chT Tb k=[]:=by unfold chT;rw[hg];rfl
 unfold tPut;rw[hc2,hp];simp[okT,setT,hg,hne];omega
end
def kP (n:Nat):Int:=((n % 3:Nat):Int)*16777216+((n / 3 % 3:Nat):Int)*65536
theorem kP_in (n:Nat):KIn (kP n):=by unfold KIn kP;omega
theorem kP_inj:∀i<9,∀j<9,kP i=kP j→i=j:=by decide
def TP (v:Int):Nat→Tab
 | 0=>[]
 | n+1=>ins (TP v n) (kP n) [g1 v]
theorem get_TP (v:Int):∀{n:Nat},n≤9→∀{i:Nat},i<9→get (TP v n) (kP i)=if i<n then some [g1 v] else none
 | 0,_,i,_=>by simp[TP,get]
 | n+1,h,i,hi=>by
  rw[TP,get_ins,get_TP v (by omega) hi]
  by_cases hk:kP n=kP i
  ·have:=kP_inj n (by omega) i hi hk
   subst this;simp
  ·rw[if_neg hk]
   have:i≠n:=fun h=>hk (by rw[h])
   by_cases h1:i<n
   ·rw[if_pos h1,if_pos (by omega)]
   ·rw[if_neg h1,if_neg (by omega)]
theorem srt_TP (v:Int):∀n,Sr (TP v n)
 | 0=>List.Pairwise.nil
 | n+1=>(srt_TP v n).ins _ _
theorem len_TP (v:Int):∀{n:Nat},n≤9→(TP v n).length=n
 | 0,_=>rfl
 | n+1,h=>by
  rw[TP,ins_len_new _ (by rw[get_TP v (by omega) (by omega),if_neg (by omega)]),len_TP v (by omega)]
theorem room_put (v:Int) {i most:Nat} (hi:i<9) (hm:most≤8):tPut 1 2 most (TP v (min i most)) (kP i) 1 (cw v) true 0=if i<most then(0,TP v (min (i+1) most)) else(10,TP v (min (i+1) most)):=by
 by_cases h:i<most
 ·rw[if_pos h,put_new (pu1 v 0) (by simp) (by rw[get_TP v (by omega) hi,if_neg (by omega)]) (by rw[len_TP v (by omega)];omega),show min i most=i by omega,show min (i+1) most=i+1 by omega];rfl
 ·rw[if_neg h,put_full (pu1 v 0) (by simp) (by rw[get_TP v (by omega) hi,if_neg (by omega)]) (by rw[len_TP v (by omega)];omega),show min i most=most by omega,show min (i+1) most=most by omega]
theorem room_ch (v:Int) {i most:Nat} (hi:i<9) (hm:most≤i):chT (TP v most) (kP i)=[]:=by
 unfold chT;rw[get_TP v (by omega) hi,if_neg (by omega)];rfl
structure RoomR (v:Int) (most i:Nat) (A1 A2 A3 A4 A5:Tab):Prop where
 s1:tPut 1 2 most (TP v most) (kP i) 2 (cw v) true 0=(0,A1)
 s2:tPut 1 2 most A1 (kP i) 3 cz false 0=(0,A2)
 s3:tPut 1 2 most A2 (kP 8) 3 (cw v) true 0=(10,A2)
 l2:A2.length=most
 s4:tPrune 1 most A2 (kP i) 2=(false,A3)
 s5:tPrune 1 most A3 (kP i) 3=(true,A4)
 l4:A4.length+1=most
 s6:tPut 1 2 most A4 (kP 8) 4 (cw v) true 3=(0,A5)
 l5:A5.length=most
theorem room_all (v:Int) {i most:Nat} (hi:i<most) (hm:most≤8):∃A1 A2 A3 A4 A5,RoomR v most i A1 A2 A3 A4 A5:=by
 have h8:kP i≠kP 8:=fun h=>by have:=kP_inj i (by omega) 8 (by omega) h;omega
 have ga:get (TP v most) (kP i)=some [g1 v]:=by rw[get_TP v (by omega) (by omega),if_pos hi]
 have gb:get (TP v most) (kP 8)=none:=by rw[get_TP v (by omega) (by omega),if_neg (by omega)]
 obtain⟨A,hA⟩:∃A,A=TP v most:=⟨_,rfl⟩
 have hs:Sr A:=by rw[hA];exact srt_TP v most
 have hl:A.length=most:=by rw[hA];exact len_TP v (by omega)
 rw[←hA] at ga gb
 have g1':∀x,get (ins A (kP i) x) (kP i)=some x:=fun x=>by rw[get_ins,if_pos rfl]
 have ge:∀(B:Tab) (x:List En),get (ins B (kP i) x) (kP i)=some x:=fun B x=>by rw[get_ins,if_pos rfl]
 have gn:∀(B:Tab) (x:List En),get (ins B (kP i) x) (kP 8)=get B (kP 8):=fun B x=>by rw[get_ins,if_neg h8]
 have L1:(ins A (kP i) [g1 v,g2 v]).length=most:=by rw[ins_len_old _ hs ga,hl]
 have S1:=hs.ins (kP i) [g1 v,g2 v]
 have L2:(ins (ins A (kP i) [g1 v,g2 v]) (kP i) [g1 v,g2 v,g3]).length=most:=by rw[ins_len_old _ S1 (ge _ _),L1]
 have S2:=S1.ins (kP i) [g1 v,g2 v,g3]
 obtain⟨A2,hA2⟩:∃A2,A2=ins (ins A (kP i) [g1 v,g2 v]) (kP i) [g1 v,g2 v,g3]:=⟨_,rfl⟩
 have a2:get A2 (kP i)=some [g1 v,g2 v,g3]:=by rw[hA2];exact ge _ _
 have b2:get A2 (kP 8)=none:=by rw[hA2,gn,gn,gb]
 have c2:chT A2 (kP i)=[g1 v,g2 v,g3]:=by unfold chT;rw[a2];rfl
 rw[←hA2] at L2 S2
 obtain⟨A3,hA3⟩:∃A3,A3=ins A2 (kP i) [g2 v,g3]:=⟨_,rfl⟩
 have a3:get A3 (kP i)=some [g2 v,g3]:=by rw[hA3];exact ge _ _
 have b3:get A3 (kP 8)=none:=by rw[hA3,gn,b2]
 have c3:chT A3 (kP i)=[g2 v,g3]:=by unfold chT;rw[a3];rfl
 have L3:A3.length=most:=by rw[hA3,ins_len_old _ S2 a2,L2]
 have S3:Sr A3:=by rw[hA3];exact S2.ins _ _
 have L4:(del A3 (kP i)).length+1=most:=by rw[del_len S3 a3,L3]
 have b4:get (del A3 (kP i)) (kP 8)=none:=by rw[get_del,if_neg h8,b3]
 refine⟨ins A (kP i) [g1 v,g2 v],A2,A3,del A3 (kP i),ins (del A3 (kP i)) (kP 8) [newE 4 1 (cw v)],?_,?_,?_,L2,?_,?_,L4,?_,?_⟩
 ·rw[←hA];exact put_old (pu2 v) (by simp) ga
 ·rw[hA2];exact put_old (pu3 v) (by simp) (ge _ _)
 ·exact put_full (pu4 v) (by simp) b2 (by rw[L2];omega)
 ·unfold tPrune;rw[c2,pr2];simp[setT,okT,a2,hA3]
 ·unfold tPrune;rw[c3,pr3];simp[setT,okT,a3]
 ·exact put_new (pu5 v) (by simp) b4 (by omega)
 ·rw[ins_len_new _ b4];exact L4
end Go.Proofs.YtbppemcdphgknaaDoor
namespace Go.Proofs.YtbppemcdphgknaaDoor
open Go Go.Vm
theorem place_ok (n:Nat) (hn:n<9):PTriple Tryd.prog gv 37 [u8V n] (coV (kP n)):=by
 have h:n=0∨n=1∨n=2∨n=3∨n=4∨n=5∨n=6∨n=7∨n=8:=by omega
 rcases h with rfl|rfl|rfl|rfl|rfl|rfl|rfl|rfl|rfl
 all_goals
  refine PTriple.of_body (C:=cx) Tryd.func37 rfl (by kernel_rfl) mixed fun E hE=>?_
  exact goU
def bxC (v:Int):List V:=[i64V 1,i64V v,i64V 0,bagV [(v,1)],bagV []]
def stRm (n v:Int) (most i:Nat) (x:DV):St DV:=mkSt 119 [(1,u8V n),(7,i64V most),(8,.ref (19,1) 0),(9,.ref (10,1) 0),(10,i64V ((min i most:Nat):Int)),(11,u8V i)] [(9,.box (bxC v)),(18,.abs x)] []
theorem tableRoom_ok (room n v:Int) (hr:0≤room∧room<256) (hn:0≤n∧n<256) (hv:in64 v):PTriple Tryd.prog gv 10 [u8V room,u8V n,i64V v] (.bool true):=by
 obtain⟨most,hm,hmr⟩:∃most:Nat,most≤8∧IntKind.i64.wrap (room.tmod 9)=(most:Int):=by
  refine⟨(room.tmod 9).toNat,?_,?_⟩
  ·rw[Int.tmod_eq_emod_of_nonneg hr.1];omega
  ·rw[Int.tmod_eq_emod_of_nonneg hr.1,wrap64 (by omega) (by omega)];omega
 obtain⟨x0,q0,h0⟩:=tNew (m:=1) (keep:=2) (cap:=most) ⟨⟨by decide,by decide⟩,⟨by decide,by decide⟩,by omega,by omega⟩
 have c0:=cellOf1 v hv
 have cW:=wakes19
 have n0:=pure_R [(v,1)]
 have n1:=pure_nil
 refine PTriple.of_body (C:=cxL) Tryd.func10 rfl (by kernel_rfl) (mixedOf _) fun E hE=>?_
 repeat' (conv=>whnf);first
  | (refine bcase_of (fun hr=>?_) (fun hr=>?_)<;>(try simp only[bs] at hr)<;>try(exfalso;first|omega|(simp at hr;done)))
  | (apply And.intro;· first|(show indep _ _=true;kernel_rfl)|exact n0|exact n1|exact⟨by omega,by omega⟩|exact⟨rfl,by decide⟩|(show Nat.beq _ _=false;rfl)|exact⟨by simp,by simp⟩|exact nd12)
  | (apply Exists.intro;apply And.intro;· first|exact rfl|exact c0)
  | (apply Exists.intro;apply Exists.intro;apply Exists.intro;apply And.intro;· first|(refine ATriple.callN (q0) ?_ ?_ ?_<;>rfl))
  | rw[hmr]
  | fail
 all_goals (conv=>whnf)
 refine VLoop.norm [1,7,8,9,10,11] [9,18] ?_
 repeat' (conv=>whnf);first
  | (refine bcase_of (fun hr=>?_) (fun hr=>?_)<;>(try simp only[bs] at hr)<;>try(exfalso;first|omega|(simp at hr;done)))
  | (apply And.intro;· first|(show indep _ _=true;kernel_rfl)|exact n0|exact n1|exact⟨by omega,by omega⟩|exact⟨rfl,by decide⟩|(show Nat.beq _ _=false;rfl)|exact⟨by simp,by simp⟩|exact nd12)
  | (apply Exists.intro;apply And.intro;· first|exact rfl|exact c0)
  | (apply Exists.intro;apply Exists.intro;apply Exists.intro;apply And.intro;· first|(refine ATriple.callN (q0) ?_ ?_ ?_<;>rfl))
  | rw[hmr]
  | fail
 all_goals (conv=>whnf)
 refine VLoop.inv (fun z:Nat×Nat×DV=>stRm n v most z.1 z.2.2) (fun z=>z.1≤9∧z.2.1≤z.1∧TB 1 2 most (TP v (min z.1 most)) z.2.1 z.2.2) (fun z=>9-z.1) (0,0,x0) ⟨by simp only;omega,by simp only;omega,by simp only;rw[Nat.zero_min];exact h0⟩ (by unfold stRm;rw[Nat.zero_min];rfl) ?_
 rintro⟨i,j,x⟩ ⟨hi,hj,hT⟩ ih
 simp only at hi hj hT ih
 refine VLoop.unroll hE (mixedOf _) ?_
 by_cases hi9:i<9
 case pos=>
  have hw8:IntKind.u8.wrap ((i:Int)+1)=((i+1:Nat):Int):=by rw[wrap8];omega
  have c7:=place_ok i hi9
  obtain⟨x',j',aP,hT',hj'⟩:=tPut_ok hT (by omega) (kP_in i) 1 (cw_in hv) true 0
  rw[room_put v hi9 hm] at aP hT'
  by_cases him:i<most
  case pos=>
   rw[if_pos him] at aP hT'
   simp only at aP hT'
   have hw6:IntKind.i64.wrap (((min i most:Nat):Int)+1)=((min (i+1) most:Nat):Int):=(wrap64 (by omega) (by omega)).trans (by omega)
   have kL:=tLen hT'
   rw[len_TP v (by omega)] at kL
   repeat' (conv=>whnf);first
    | (refine bcase_of (fun hr=>?_) (fun hr=>?_)<;>(try simp only[bs] at hr)<;>try(exfalso;first|omega|(simp at hr;done)))
    | (apply And.intro;· first|(show indep _ _=true;kernel_rfl)|exact n0|exact n1|exact⟨by omega,by omega⟩|exact⟨rfl,by decide⟩|(show Nat.beq _ _=false;rfl)|exact⟨by simp,by simp⟩|exact nd12)
    | (apply Exists.intro;apply And.intro;· first|exact rfl|exact c7)
    | (apply Exists.intro;apply Exists.intro;apply Exists.intro;apply And.intro;· first|(refine ATriple.callN (aP) ?_ ?_ ?_<;>rfl))
    | rw[hw8]
    | rw[hw6]
    | (apply Exists.intro;apply And.intro;· first|(refine ATriple.callK (kL) ?_ ?_ ?_ ?_<;>first|rfl|(intro d;rfl))|(refine ATriple.callK (kC) ?_ ?_ ?_ ?_<;>first|rfl|(intro d;rfl)))
    | fail
   all_goals (conv=>whnf)
   all_goals refine VLoop.norm [1,7,8,9,10,11] [9,18] ?_
   repeat' (conv=>whnf);first
    | (refine bcase_of (fun hr=>?_) (fun hr=>?_)<;>(try simp only[bs] at hr)<;>try(exfalso;first|omega|(simp at hr;done)))
    | (apply And.intro;· first|(show indep _ _=true;kernel_rfl)|exact n0|exact n1|exact⟨by omega,by omega⟩|exact⟨rfl,by decide⟩|(show Nat.beq _ _=false;rfl)|exact⟨by simp,by simp⟩|exact nd12)
    | (apply Exists.intro;apply And.intro;· first|exact rfl|exact c7)
    | (apply Exists.intro;apply Exists.intro;apply Exists.intro;apply And.intro;· first|(refine ATriple.callN (aP) ?_ ?_ ?_<;>rfl))
    | rw[hw8]
    | rw[hw6]
    | (apply Exists.intro;apply And.intro;· first|(refine ATriple.callK (kL) ?_ ?_ ?_ ?_<;>first|rfl|(intro d;rfl))|(refine ATriple.callK (kC) ?_ ?_ ?_ ?_<;>first|rfl|(intro d;rfl)))
    | fail
   all_goals (conv=>whnf)
   exact ih (i+1,j',x') ⟨by simp only;omega,by simp only;omega,hT'⟩ (by simp only;omega)
  case neg=>
   rw[if_neg him] at aP hT'
   simp only at aP hT'
   have hm1:min (i+1) most=most:=by omega
   have hm2:min i most=most:=by omega
   have kL:=tLen hT'
   rw[len_TP v (by omega)] at kL
   have kC:=tChain hT' (kP_in i)
   rw[hm1,room_ch v hi9 (by omega)] at kC
   rw[hm1] at kL
   repeat' (conv=>whnf);first
    | (refine bcase_of (fun hr=>?_) (fun hr=>?_)<;>(try simp only[bs] at hr)<;>try(exfalso;first|omega|(simp at hr;done)))
    | (apply And.intro;· first|(show indep _ _=true;kernel_rfl)|exact n0|exact n1|exact⟨by omega,by omega⟩|exact⟨rfl,by decide⟩|(show Nat.beq _ _=false;rfl)|exact⟨by simp,by simp⟩|exact nd12)
    | (apply Exists.intro;apply And.intro;· first|exact rfl|exact c7)
    | (apply Exists.intro;apply Exists.intro;apply Exists.intro;apply And.intro;· first|(refine ATriple.callN (aP) ?_ ?_ ?_<;>rfl))
    | rw[hw8]
    | rw[hw6]
    | (apply Exists.intro;apply And.intro;· first|(refine ATriple.callK (kL) ?_ ?_ ?_ ?_<;>first|rfl|(intro d;rfl))|(refine ATriple.callK (kC) ?_ ?_ ?_ ?_<;>first|rfl|(intro d;rfl)))
    | fail
   all_goals (conv=>whnf)
   all_goals refine VLoop.norm [1,7,8,9,10,11] [9,18] ?_
   repeat' (conv=>whnf);first
    | (refine bcase_of (fun hr=>?_) (fun hr=>?_)<;>(try simp only[bs] at hr)<;>try(exfalso;first|omega|(simp at hr;done)))
    | (apply And.intro;· first|(show indep _ _=true;kernel_rfl)|exact n0|exact n1|exact⟨by omega,by omega⟩|exact⟨rfl,by decide⟩|(show Nat.beq _ _=false;rfl)|exact⟨by simp,by simp⟩|exact nd12)
    | (apply Exists.intro;apply And.intro;· first|exact rfl|exact c7)
    | (apply Exists.intro;apply Exists.intro;apply Exists.intro;apply And.intro;· first|(refine ATriple.callN (aP) ?_ ?_ ?_<;>rfl))
    | rw[hw8]
    | rw[hw6]
    | (apply Exists.intro;apply And.intro;· first|(refine ATriple.callK (kL) ?_ ?_ ?_ ?_<;>first|rfl|(intro d;rfl))|(refine ATriple.callK (kC) ?_ ?_ ?_ ?_<;>first|rfl|(intro d;rfl)))
    | fail
   all_goals (conv=>whnf)
   have:=ih (i+1,j',x') ⟨by simp only;omega,by simp only;omega,hT'⟩ (by simp only;omega)
   simp only[stRm,show min (i+1) most=min i most by omega] at this
   exact this
 case neg=>
  have hm2:min i most=most:=by omega
  rw[hm2] at hT
  by_cases h0m:most=0
  case pos=>
   repeat' (conv=>whnf);first
    | (refine bcase_of (fun hr=>?_) (fun hr=>?_)<;>(try simp only[bs] at hr)<;>try(exfalso;first|omega|(simp at hr;done)))
    | (apply And.intro;· first|(show indep _ _=true;kernel_rfl)|exact n0|exact n1|exact⟨by omega,by omega⟩|exact⟨rfl,by decide⟩|(show Nat.beq _ _=false;rfl)|exact⟨by simp,by simp⟩|exact nd12)
    | (apply Exists.intro;apply And.intro;· first|exact rfl|exact cW)
    | fail
   all_goals (conv=>whnf)
   all_goals rfl
  case neg=>
   obtain⟨p,hp,hpm⟩:∃p:Nat,p<most∧n.tmod (most:Int)=(p:Int):=by
    refine⟨(n.tmod most).toNat,?_,?_⟩
    ·rw[Int.tmod_eq_emod_of_nonneg hn.1]
     have:=Int.emod_lt_of_pos n (b:=(most:Int)) (by omega)
     have:=Int.emod_nonneg n (b:=(most:Int)) (by omega)
     omega
    ·rw[Int.tmod_eq_emod_of_nonneg hn.1]
     have:=Int.emod_nonneg n (b:=(most:Int)) (by omega)
     omega
   have hmz:(most:Int)≠0:=by omega
   have hm8:IntKind.u8.wrap (most:Int)=(most:Int):=by rw[wrap8];omega
   have hw1:IntKind.i64.wrap ((most:Int)-1)=(most:Int)-1:=wrap64 (by omega) (by omega)
   obtain⟨A1,A2,A3,A4,A5,r1,r2,r3,r4,r5,r6,r7,r8,r9⟩:=room_all v hp hm
   have c7:=place_ok p (by omega)
   have c8:=place_ok 8 (by omega)
   obtain⟨x1,j1,p1,t1,e1⟩:=tPut_ok hT (by omega) (kP_in p) 2 (cw_in hv) true 0
   rw[r1] at p1 t1
   obtain⟨x2,j2,p2,t2,e2⟩:=tPut_ok t1 (by omega) (kP_in p) 3 cz_in false 0
   rw[r2] at p2 t2
   obtain⟨x3,j3,p3,t3,e3⟩:=tPut_ok t2 (by omega) (kP_in 8) 3 (cw_in hv) true 0
   rw[r3] at p3 t3
   have k3:=tLen t3
   obtain⟨x4,j4,p4,t4,e4⟩:=tPrune_ok t3 (by omega) (kP_in p) 2
   rw[r5] at p4 t4
   obtain⟨x5,j5,p5,t5,e5⟩:=tPrune_ok t4 (by omega) (kP_in p) 3
   rw[r6] at p5 t5
   have k5:=tLen t5
   obtain⟨x6,j6,p6,t6,e6⟩:=tPut_ok t5 (by omega) (kP_in 8) 4 (cw_in hv) true 3
   rw[r8] at p6 t6
   have k6:=tLen t6
   simp only at p1 p2 p3 p4 p5 p6 k3 k5 k6
   rw[r4] at k3
   rw[show(A4.length:Int)=(most:Int)-1 by omega] at k5
   rw[r9] at k6
   have p2':ATriple Tryd.prog gv R0 32 [.ref (0,0) 0,coV (kP p),i64V 3,.agg [i64V 0,i64V 0,i64V 0,.nils,.nils],.bool false,i64V 0] [.abs x1] (i64V 0) [.abs x2] none:=anv p2 (by simp[okA,okC,okN,co])
   clear t1 t2 t3 t4 t5 t6 ih r1 r2 r3 r5 r6 r8 p2
   generalize kP p=kp at c7 p1 p2' p4 p5
   generalize kP 8=k8 at c8 p3 p6
   repeat' (conv=>whnf);first
    | (refine bcase_of (fun hr=>?_) (fun hr=>?_)<;>(try simp only[bs] at hr)<;>try(exfalso;first|omega|(simp at hr;done)))
    | (apply And.intro;· first|(show indep _ _=true;kernel_rfl)|exact n0|exact n1|exact⟨by omega,by omega⟩|exact⟨rfl,by decide⟩|(show Nat.beq _ _=false;rfl)|exact⟨by simp,by simp⟩|exact hmz|exact nd12)
    | (apply Exists.intro;apply And.intro;· first|exact rfl|exact cW|exact c7|exact c8)
    | (apply Exists.intro;apply Exists.intro;apply Exists.intro;apply And.intro;· first|(refine ATriple.callN (p1) ?_ ?_ ?_<;>rfl)|(refine ATriple.callN (p2') ?_ ?_ ?_<;>rfl)|(refine ATriple.callN (p3) ?_ ?_ ?_<;>rfl)|(refine ATriple.callN (p4) ?_ ?_ ?_<;>rfl)|(refine ATriple.callN (p5) ?_ ?_ ?_<;>rfl)|(refine ATriple.callN (p6) ?_ ?_ ?_<;>rfl))
    | rw[hm8]
    | rw[hpm]
    | rw[hw1]
    | (apply Exists.intro;apply And.intro;· first|(refine ATriple.callK (k3) ?_ ?_ ?_ ?_<;>first|rfl|(intro d;rfl))|(refine ATriple.callK (k5) ?_ ?_ ?_ ?_<;>first|rfl|(intro d;rfl))|(refine ATriple.callK (k6) ?_ ?_ ?_ ?_<;>first|rfl|(intro d;rfl)))
    | fail
   all_goals (conv=>whnf)
   all_goals rfl
end Go.Proofs.YtbppemcdphgknaaDoor
