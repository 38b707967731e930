/- A part of the proofs over the seat YtbppemcdphgknaaGreatDoor. -/
import Derived.Test.YtbppemcdphgknaaGreatDoorG3
import Derived.Test.YtbppemcdphgknaaGreatDoorV29
set_option linter.unusedVariables false
set_option linter.unusedSimpArgs false
set_option maxRecDepth 100000
set_option maxHeartbeats 40000000
namespace Go.Proofs.YtbppemcdphgknaaGreatDoor
open Go Go.Vm
set_option maxRecDepth 100000
set_option maxHeartbeats 40000000
set_option linter.unusedSimpArgs false
set_option linter.unusedVariables false
theorem NilV.lst {sz:Nat} {es es':List (List V)} (hl:es.length=es'.length) (h:∀(i:Nat) (e e':List V),es[i]?=some e→es'[i]?=some e'→e.length=e'.length∧∀(k:Nat) (v v':V),e[k]?=some v→e'[k]?=some v'→NilV v v'):NilV (.lst sz es) (.lst sz es'):=fun ρ M x hx=>by
 cases hx with
 | lst0=>
  have:es'=[]:=List.length_eq_zero_iff.1 (by rw[←hl];rfl)
  subst this
  exact .lst0
 | lst vals h1 h2 h3 h4=>
  rw[hl]
  refine .lst vals (fun e he=>?_) (fun i k e v hi hk=>?_) (fun i k hi hk=>h3 i k (by omega) hk) (by omega)
  ·obtain⟨i,hi⟩:=List.mem_iff_getElem?.1 he
   have hil:=(List.getElem?_eq_some_iff.1 hi).1
   have h0:es[i]?=some (es[i]'(by omega)):=List.getElem?_eq_getElem (by omega)
   rw[←(h i _ e h0 hi).1]
   exact h1 _ (List.mem_of_getElem? h0)
  ·have hil:=(List.getElem?_eq_some_iff.1 hi).1
   have hkl:=(List.getElem?_eq_some_iff.1 hk).1
   have h0:es[i]?=some (es[i]'(by omega)):=List.getElem?_eq_getElem (by omega)
   obtain⟨h5,h6⟩:=h i _ e h0 hi
   have h7:(es[i]'(by omega))[k]?=some ((es[i]'(by omega))[k]'(by omega)):=List.getElem?_eq_getElem (by omega)
   exact h6 k _ v h7 hk ρ M _ (h2 i k _ _ h0 h7)
def x2 (r:Int):Cf:=⟨⟨[⟨[9],[]⟩],1⟩,[16777216,0],2,r,1⟩
def x2V (r:Int):V:=.agg [.lst 2 [[.lst 1 [[i64V 9]],.nils]],i64V 1,.lst 4 [[u8V 1,u8V 0,u8V 0,u8V 0],[u8V 0,u8V 0,u8V 0,u8V 0]],i64V 2,i64V r,i64V 1]
theorem x2_nil (r:Int):NilV (x2V r) (cfV (x2 r)):=by
 refine NilV.agg (.cons (NilV.lst rfl fun i e e' h1 h2=>?_) (.cons (.refl _) (.cons (.refl _) (.cons (.refl _) (.cons (.refl _) (.cons (.refl _) .nil))))))
 match i,h1,h2 with
 | 0,h1,h2=>
  simp only[x2,List.map_cons,List.map_nil,List.getElem?_cons_zero,Option.some.injEq] at h1 h2
  subst h1;subst h2
  refine⟨rfl,fun k v v' h3 h4=>?_⟩
  match k,h3,h4 with
  | 0,h3,h4=>simp at h3 h4;subst h3;subst h4;exact .refl _
  | 1,h3,h4=>simp at h3 h4;subst h3;subst h4;exact .nils 1
  | k+2,h3,_=>simp at h3
 | i+1,h1,_=>simp at h1
theorem two45 (r:Int):PTriple Tryz.prog gv 45 [i64V r] (cfV (x2 r)):=by
 have m0:PureEs [[V.lst 1 [[i64V 9]],V.nils]]:=fun e he v hv=>by
  rw[List.mem_singleton.1 he] at hv
  simp only[List.mem_cons,List.not_mem_nil,or_false] at hv
  rcases hv with rfl|rfl
  ·exact .lst (pure_N [9])
  ·exact .nils
 have m1:PureEs [[i64V 9]]:=pure_N [9]
 refine PTriple.of_vwp (C:=cx) Tryz.func45 rfl (by kernel_rfl) fun E hE=>?_
 refine VWp.seq (vcode_sound hE mixed ?_)
 show VWp _ _ _ _ _
 refine VWp.seq (vcode_sound hE mixed ?_)
 repeat' (conv=>whnf);first
  | (refine bcase_of (fun hr=>?_) (fun hr=>?_)<;>(try simp only[bs] at hr)<;>try(exfalso;first|omega|(simp at hr;done)))
  | (apply And.intro;· first|(show indep _ _=true;kernel_rfl)|exact m0|exact m1|exact⟨rfl,by decide⟩|(show Nat.beq _ _=false;rfl)|exact pure_of rfl|exact nd12)
  | (apply Exists.intro;apply And.intro;· first|exact rfl)
  | fail
 show VWp _ _ _ _ _
 refine VWp.weak (Weak.snapR (n:=(7,1)) (m:=(5,1)) (i:=0) (k:=0) rfl rfl rfl rfl (by decide) (by decide)) ?_
 refine VWp.weak (Weak.snap (n:=(4,1)) (i:=0) rfl rfl rfl (by decide)) ?_
 refine vcode_sound hE mixed ?_
 repeat' (conv=>whnf);first
  | (refine bcase_of (fun hr=>?_) (fun hr=>?_)<;>(try simp only[bs] at hr)<;>try(exfalso;first|omega|(simp at hr;done)))
  | (apply And.intro;· first|(show indep _ _=true;kernel_rfl)|exact m0|exact m1|exact⟨rfl,by decide⟩|(show Nat.beq _ _=false;rfl)|exact pure_of rfl|exact nd12)
  | (apply Exists.intro;apply And.intro;· first|exact rfl)
  | fail
 refine⟨x2V r,x2_nil r,?_⟩
 repeat' (conv=>whnf);first
  | (refine bcase_of (fun hr=>?_) (fun hr=>?_)<;>(try simp only[bs] at hr)<;>try(exfalso;first|omega|(simp at hr;done)))
  | (apply And.intro;· first|(show indep _ _=true;kernel_rfl)|exact m0|exact m1|exact⟨rfl,by decide⟩|(show Nat.beq _ _=false;rfl)|exact pure_of rfl|exact nd12)
  | (apply Exists.intro;apply And.intro;· first|exact rfl)
  | fail
 all_goals (conv=>whnf)
 all_goals rfl
end Go.Proofs.YtbppemcdphgknaaGreatDoor
namespace Go.Proofs.YtbppemcdphgknaaGreatDoor
open Go Go.Vm
theorem cell46 (v:Int) (hv:in64 v):PTriple Tryz.prog gv 46 [i64V 1,i64V v] (cellV 1 v 0 [(v,1)] []):=by
 have c0:=of1 v hv
 have n0:=pure_R [(v,1)]
 have n1:PureEs [[u8V 0,u8V 0,u8V 0,u8V 0,i64V v,i64V v]]:=pure_of rfl
 refine nv (args:=[i64V 1,i64V v]) (r:=.agg [i64V 1,i64V v,i64V 0,bagV [(v,1)],.nils]) ?_
 refine PTriple.of_body (C:=cx) Tryz.func46 rfl (by kernel_rfl) mixed fun E hE=>?_
 exact goU
theorem x2_in (r:Int):CfIn (x2 r) where
 c:=⟨by simp[x2],fun d hd=>by obtain rfl:=List.mem_singleton.1 hd;exact⟨by decide,by decide,fun l hl=>by cases hl⟩⟩
 l:=by simp[x2]
 n:=fun e he=>by
  simp only[x2,List.mem_cons,List.not_mem_nil,or_false] at he
  rcases he with rfl|rfl<;>exact⟨by decide,by decide⟩
theorem x2_good (r:Int):goodF (x2 r)=inR 0 2000 r:=by
 have h:goodN (x2 r).c (x2 r).ns=true:=by kernel_rfl
 unfold goodF
 rw[h]
 show(true&&(inR 2 8 2&&(inR 0 2000 r&&inR 1 1048576 1)))=_
 rw[show inR 2 8 2=true from rfl,show inR 1 1048576 1=true from rfl]
 cases inR 0 2000 r<;>rfl
theorem new_two {r:Int} (hr:0≤r∧r≤2000):∃x0,YTriple Tryz.prog gv R0 44 [cfV (x2 r)] (.tup [.ref (0,0) 0,i64V 0]) [.abs (stoD (x2 r) [x0,x0])]∧SB (x2 r) [[],[]] 0 [x0,x0]:=by
 have hg:goodF (x2 r)=true:=by rw[x2_good];exact decide_eq_true hr
 obtain⟨x0,h0,y0⟩:=new44 (x2 r) (x2_in r) hg
 refine⟨x0,y0,goodF_ok (x2_in r) hg,rfl,rfl,fun j T y h1 h2=>?_⟩
 match j,h1,h2 with
 | 0,h1,h2=>cases h1;cases h2;exact⟨0,Nat.le_refl _,h0⟩
 | 1,h1,h2=>cases h1;cases h2;exact⟨0,Nat.le_refl _,h0⟩
 | j+2,h1,_=>simp at h1
noncomputable def cxW9:Cx DV:=cxOf [(44,8),(47,1),(48,1),(97,5),(60,5),(61,5),(54,5),(42,5)]
def kB:Int:=50331648
def t9:Tab:=[(kB,[⟨1,1,1,5,0,[(5,1)],[]⟩])]
theorem v1:sPutR (x2 1) [[],[]] 1 [] kB 1 e5 true 0=(0,[[],t9]):=by kernel_rfl
theorem v2:sPutR (x2 1) [[],t9] 0 [] 0 1 e5 true 0=(10,[[],t9]):=by kernel_rfl
theorem v3:sPutR (x2 1) [[],t9] 0 [] kB 1 e5 true 0=(1,[[],t9]):=by kernel_rfl
theorem wakes43:PTriple Tryz.prog gv 43 [] (.bool true):=by
 have c0:=cell46 5 (in64s (by decide))
 have c1:=two45 1
 have c2:=two45 (-1)
 have c3:=good59 (x2 1) (x2_in 1)
 rw[show goodF (x2 1)=true from(x2_good 1).trans rfl] at c3
 have c4:=good59 (x2 (-1)) (x2_in (-1))
 rw[show goodF (x2 (-1))=false from(x2_good (-1)).trans rfl] at c4
 have hk:KIn kB:=⟨by decide,by decide⟩
 have h0':KIn 0:=⟨by decide,by decide⟩
 obtain⟨x0,y0,h0⟩:=new_two (r:=1) ⟨by decide,by decide⟩
 obtain⟨s1,q1,h1⟩:=sPut (j:=1) (T:=[]) h0 (by omega) rfl hk 1 e5_in true 0
 rw[v1] at q1 h1
 simp only at q1 h1
 obtain⟨s2,q2,h2⟩:=sPut (j:=0) (T:=[]) h1 (by omega) rfl h0' 1 e5_in true 0
 rw[v2] at q2 h2
 simp only at q2 h2
 obtain⟨s3,q3,h3⟩:=sPut (j:=0) (T:=[]) h2 (by omega) rfl hk 1 e5_in true 0
 rw[v3] at q3 h3
 simp only at q3 h3
 have q4:=sAt (j:=1) (T:=t9) h3 rfl hk 1
 rw[show atS (x2 1).c.m (chT t9 kB) 1=some ⟨1,1,1,5,0,[(5,1)],[]⟩ by kernel_rfl] at q4
 have q5:=sAt (j:=0) (T:=[]) h3 rfl h0' 1
 rw[show atS (x2 1).c.m (chT [] 0) 1=none by kernel_rfl] at q5
 have q6:=sScan (j:=1) (T:=t9) h3 rfl 1
 rw[show scanT (x2 1).c.m t9 1=[(kB,⟨1,1,1,5,0,[(5,1)],[]⟩)] by kernel_rfl] at q6
 have q7:=sNext (j:=1) (T:=t9) h3 rfl 0
 rw[show nxT t9 0=some (kB,[⟨1,1,1,5,0,[(5,1)],[]⟩]) by kernel_rfl] at q7
 have q8:=lenA42 h3
 rw[show lenS [[],t9]=1 by kernel_rfl] at q8
 have q9:=sChain (j:=1) (T:=t9) h3 rfl hk
 rw[show chT t9 kB=[⟨1,1,1,5,0,[(5,1)],[]⟩] by kernel_rfl] at q9
 have n0:=pure_R [(5,1)]
 have n1:=pure_nil
 have n2:=pure_Pr [(kB,⟨1,1,1,5,0,[(5,1)],[]⟩)]
 have n3:=pure_E [⟨1,1,1,5,0,[(5,1)],[]⟩]
 have m0:=pure_D (x2 1).c.d
 have m1:=pure_Nd (x2 1).ns
 clear h0 h1 h2 h3
 refine PTriple.of_body (C:=cxW9) Tryz.func43 rfl (by kernel_rfl) (mixedOf _) fun E hE=>?_
 repeat' (conv=>whnf);first
  | (refine bcase_of (fun hr=>?_) (fun hr=>?_)<;>(try simp only[bs] at hr)<;>try(exfalso;first|omega|(simp at hr;done)))
  | (apply And.intro;· first|(show indep _ _=true;kernel_rfl)|exact n0|exact n1|exact n2|exact n3|exact m0|exact m1|exact⟨by simp,by simp⟩|exact⟨rfl,by decide⟩|(show Nat.beq _ _=false;rfl)|exact nd12)
  | (apply Exists.intro;apply And.intro;· first|exact rfl|exact c0|exact c1|exact c2|exact c3|exact c4)
  | (apply Exists.intro;apply Exists.intro;apply Exists.intro;apply And.intro;· first|(refine ATriple.callN (q1) ?_ ?_ ?_<;>rfl)|(refine ATriple.callN (q2) ?_ ?_ ?_<;>rfl)|(refine ATriple.callN (q3) ?_ ?_ ?_<;>rfl))
  | (apply Exists.intro;apply Exists.intro;apply And.intro;· exact y0)
  | (apply Exists.intro;apply And.intro;· first|(refine ATriple.callK (q4) ?_ ?_ ?_ ?_<;>first|rfl|(intro d;rfl))|(refine ATriple.callK (q5) ?_ ?_ ?_ ?_<;>first|rfl|(intro d;rfl))|(refine ATriple.callK (q6) ?_ ?_ ?_ ?_<;>first|rfl|(intro d;rfl))|(refine ATriple.callK (q7) ?_ ?_ ?_ ?_<;>first|rfl|(intro d;rfl))|(refine ATriple.callK (q8) ?_ ?_ ?_ ?_<;>first|rfl|(intro d;rfl))|(refine ATriple.callK (q9) ?_ ?_ ?_ ?_<;>first|rfl|(intro d;rfl)))
  | fail
 all_goals (conv=>whnf)
 all_goals rfl
end Go.Proofs.YtbppemcdphgknaaGreatDoor
namespace Go.Proofs.YtbppemcdphgknaaGreatDoor
open Go Go.Vm
def cw (v:Int):En:=⟨0,0,1,v,0,[(v,1)],[]⟩
def g1 (v:Int):En:=newE 1 1 (cw v)
theorem cw_in {v:Int} (hv:in64 v):EnIn (cw v):=⟨by simp[cw],by simp[cw],fun r hr=>by obtain rfl:=List.mem_singleton.1 hr;exact⟨hv,in64s (n:=1) (by decide)⟩,fun r hr=>(by cases hr),hv,in64s (n:=0) (by decide)⟩
theorem goodC1 (v:Int):goodC 1 1 v 0 [(v,1)] []=true:=by simp[goodC,partOk,goodB_one,wsum,cntB]
theorem pu1 (v f:Int):putA 1 2 [] 1 (cw v) true f=some [g1 v]:=by
 have h:okP 1 2 [] 1 (cw v) true=true:=by simp[okP,goodL,gch,lastLe,mayC,cw,goodC1]
 unfold putA;rw[h];simp[putS,afterP,g1]
theorem pu2 (v:Int):putA 1 2 [g1 v] 1 (cw v) true 0=some [g1 v]:=by
 have h:okP 1 2 [g1 v] 1 (cw v) true=true:=by simp[okP,goodL,gch,lastLe,mayC,mayE,cw,goodC1,g1,newE,known,is,was]
 unfold putA;rw[h];simp[putS,afterP,g1,newE,is,was,ofV,thenV,known]
def kF (i:Nat):Int:=(i:Int)*16777216
theorem kF_in {i:Nat} (h:i<256):KIn (kF i):=by unfold KIn kF;omega
theorem kF_co {i:Nat} (h:i<256):coV (kF i)=.agg [u8V i,u8V 0,u8V 0,u8V 0]:=by
 unfold kF
 show V.agg [u8V _,u8V _,u8V _,u8V _]=_
 rw[show((i:Int)*16777216) / 16777216=i by omega,show((i:Int)*16777216) / 65536 % 256=0 by omega,show((i:Int)*16777216) / 256 % 256=0 by omega,show((i:Int)*16777216) % 256=0 by omega]
def FT (v:Int):Nat→Tab
 | 0=>[]
 | n+1=>FT v n++[(kF n,[g1 v])]
theorem FT_lt (v:Int):∀{n:Nat},∀e∈FT v n,e.1<kF n
 | 0,e,he=>by cases he
 | n+1,e,he=>by
  rcases List.mem_append.1 he with he|he
  ·have:=FT_lt v e he
   unfold kF at *;omega
  ·rw[List.mem_singleton.1 he]
   show kF n<kF (n+1)
   unfold kF;omega
theorem ins_end {α:Type}:∀{l:List (Int×α)} {k:Int} {x:α},(∀e∈l,e.1<k)→ins l k x=l++[(k,x)]
 | [],_,_,_=>rfl
 | a::r,k,x,h=>by
  unfold ins
  rw[if_pos (h a (by simp)),ins_end fun e he=>h e (by simp[he])];rfl
theorem get_end {α:Type}:∀{l:List (Int×α)} {k:Int} {x:α},(∀e∈l,e.1<k)→get (l++[(k,x)]) k=some x
 | [],_,_,_=>by simp[get]
 | a::r,k,x,h=>by
  have h1:=h a (by simp)
  show get (a::(r++[(k,x)])) k=_
  unfold get
  rw[if_neg (by omega),get_end fun e he=>h e (by simp[he])]
theorem get_above {α:Type}:∀{l:List (Int×α)} {k:Int},(∀e∈l,e.1<k)→get l k=none
 | [],_,_=>rfl
 | a::r,k,h=>by
  have h1:=h a (by simp)
  unfold get
  rw[if_neg (by omega),get_above fun e he=>h e (by simp[he])]
theorem FT_len (v:Int):∀n,(FT v n).length=n
 | 0=>rfl
 | n+1=>by simp[FT,FT_len v n]
def WT (v:Int):Bool→Tab
 | true=>[(0,[g1 v])]
 | false=>[]
def TS (v:Int) (w:Bool) (n:Nat):List Tab:=[WT v w,FT v n]
def tot (w:Bool) (n:Nat):Nat:=match w with
 | true=>n+1
 | false=>n
theorem TS_len (v:Int) (w:Bool) (n:Nat):lenS (TS v w n)=tot w n:=by
 cases w<;>simp[lenS,TS,WT,FT_len,tot,Nat.add_comm]
theorem right_w (r:Int):rightP (x2 r).c (((x2 r).ns[0]?).getD 0) 0=true:=by kernel_rfl
theorem right_f (r:Int) {n:Nat} (hn:n<9):rightP (x2 r).c (((x2 r).ns[1]?).getD 0) (kF n)=true:=by
 have h:n=0∨n=1∨n=2∨n=3∨n=4∨n=5∨n=6∨n=7∨n=8:=by omega
 rcases h with rfl|rfl|rfl|rfl|rfl|rfl|rfl|rfl|rfl<;>(show rightP _ _ _=true;kernel_rfl)
section
variable {r v:Int} {w:Bool} {n:Nat}
theorem chW (v:Int):chT (WT v true) 0=[g1 v]:=by simp[chT,WT,get]
theorem chF (v:Int) (n:Nat):chT (FT v n) (kF n)=[]:=by unfold chT;rw[get_above (FT_lt v)];rfl
theorem room_a (h:(tot true n:Int)≤r) (ht:TIn (WT v true)):sPutR (x2 r) (TS v true n) 0 (WT v true) 0 1 (cw v) true 0=(0,TS v true n):=by
 have hc:(lenS (TS v true n):Int)≤(x2 r).cap:=by rw[TS_len];exact h
 rw[(sput_same (Ts:=TS v true n) rfl ht (by show(2:Int)≤2;omega) hc 0 1 (cw v) true 0 (right_w r)).1]
 have:rPut (x2 r).c.m (x2 r).keep (x2 r).cap (WT v true) 0 1 (cw v) true 0 (lenS (TS v true n))=(0,WT v true):=by
  unfold rPut
  rw[chW]
  show(match putA 1 2 [g1 v] 1 (cw v) true 0 with|none=>_|some l=>_)=_
  rw[pu2]
  simp[layT,WT,ins]
 rw[this];rfl
theorem room_b (h:(tot false n:Int)<r) (ht:TIn (WT v false)):sPutR (x2 r) (TS v false n) 0 (WT v false) 0 1 (cw v) true 0=(0,TS v true n):=by
 have hc:(lenS (TS v false n):Int)≤(x2 r).cap:=by rw[TS_len];show(tot false n:Int)≤r;omega
 rw[(sput_same (Ts:=TS v false n) rfl ht (by show(2:Int)≤2;omega) hc 0 1 (cw v) true 0 (right_w r)).1]
 have:rPut (x2 r).c.m (x2 r).keep (x2 r).cap (WT v false) 0 1 (cw v) true 0 (lenS (TS v false n))=(0,WT v true):=by
  unfold rPut
  show(match putA 1 2 [] 1 (cw v) true 0 with|none=>_|some l=>_)=_
  rw[pu1]
  have h2:¬(x2 r).cap≤(tot false n:Int):=by show ¬r≤(tot false n:Int);omega
  simp only[TS_len]
  rw[if_neg (fun h=>h2 h.2.2)]
  simp[layT,WT,ins]
 rw[this];rfl
theorem room_c (h:(tot false n:Int)=r) (ht:TIn (WT v false)):sPutR (x2 r) (TS v false n) 0 (WT v false) 0 1 (cw v) true 0=(10,TS v false n):=by
 have hc:(lenS (TS v false n):Int)≤(x2 r).cap:=by rw[TS_len];show(tot false n:Int)≤r;omega
 rw[(sput_same (Ts:=TS v false n) rfl ht (by show(2:Int)≤2;omega) hc 0 1 (cw v) true 0 (right_w r)).1]
 have:rPut (x2 r).c.m (x2 r).keep (x2 r).cap (WT v false) 0 1 (cw v) true 0 (lenS (TS v false n))=(10,WT v false):=by
  have h3:(x2 r).cap≤(tot false n:Int):=by show r≤(tot false n:Int);omega
  unfold rPut
  show(match putA 1 2 [] 1 (cw v) true 0 with|none=>_|some l=>_)=_
  rw[pu1]
  simp only[TS_len]
  rw[if_pos ⟨rfl,by simp,h3⟩]
 rw[this];rfl
theorem room_d (h:(tot w n:Int)<r) (hn:n<9) (ht:TIn (FT v n)):sPutR (x2 r) (TS v w n) 1 (FT v n) (kF n) 1 (cw v) true 0=(0,TS v w (n+1)):=by
 have hc:(lenS (TS v w n):Int)≤(x2 r).cap:=by rw[TS_len];show(tot w n:Int)≤r;omega
 rw[(sput_same (Ts:=TS v w n) rfl ht (by show(2:Int)≤2;omega) hc (kF n) 1 (cw v) true 0 (right_f r hn)).1]
 have:rPut (x2 r).c.m (x2 r).keep (x2 r).cap (FT v n) (kF n) 1 (cw v) true 0 (lenS (TS v w n))=(0,FT v (n+1)):=by
  unfold rPut
  rw[chF]
  show(match putA 1 2 [] 1 (cw v) true 0 with|none=>_|some l=>_)=_
  rw[pu1]
  have h2:¬(x2 r).cap≤(tot w n:Int):=by show ¬r≤(tot w n:Int);omega
  simp only[TS_len]
  rw[if_neg (fun h=>h2 h.2.2)]
  simp[layT,ins_end (FT_lt v),FT]
 rw[this];rfl
theorem room_e (h:(tot w n:Int)=r) (hn:n<9) (ht:TIn (FT v n)):sPutR (x2 r) (TS v w n) 1 (FT v n) (kF n) 1 (cw v) true 0=(10,TS v w n):=by
 have hc:(lenS (TS v w n):Int)≤(x2 r).cap:=by rw[TS_len];show(tot w n:Int)≤r;omega
 rw[(sput_same (Ts:=TS v w n) rfl ht (by show(2:Int)≤2;omega) hc (kF n) 1 (cw v) true 0 (right_f r hn)).1]
 have:rPut (x2 r).c.m (x2 r).keep (x2 r).cap (FT v n) (kF n) 1 (cw v) true 0 (lenS (TS v w n))=(10,FT v n):=by
  have h3:(x2 r).cap≤(tot w n:Int):=by show r≤(tot w n:Int);omega
  unfold rPut
  rw[chF]
  show(match putA 1 2 [] 1 (cw v) true 0 with|none=>_|some l=>_)=_
  rw[pu1]
  simp only[TS_len]
  rw[if_pos ⟨rfl,by simp,h3⟩]
 rw[this];rfl
theorem room_u (n:Nat):tUndo (x2 r).c.m (x2 r).cap (FT v (n+1)) (kF n) 1=(true,FT v n):=by
 have hc:chT (FT v (n+1)) (kF n)=[g1 v]:=by unfold chT;rw[show FT v (n+1)=FT v n++[(kF n,[g1 v])] from rfl,get_end (FT_lt v)];rfl
 have hu:undoS (x2 r).c.m [g1 v] 1=[]:=by
  unfold undoS
  split
  ·rfl
  ·simp[g1,newE]
 have hl:lastV [g1 v] 1=true:=by simp[lastV,g1,newE]
 unfold tUndo
 rw[hc,hl,hu]
 simp only[if_true]
 unfold setT
 rw[if_pos (by simp[okT])]
 simp only[List.isEmpty_nil,if_true]
 rw[show FT v (n+1)=FT v n++[(kF n,[g1 v])] from rfl]
 unfold del
 rw[List.filter_append,List.filter_eq_self.2 fun x hx=>by have:=FT_lt v x hx;simp;omega]
 simp
end
end Go.Proofs.YtbppemcdphgknaaGreatDoor
namespace Go.Proofs.YtbppemcdphgknaaGreatDoor
open Go Go.Vm
def encB (t:Bool):List V:=[.bool t]
abbrev BR (l:List Bool):List (List V):=l.map encB
theorem pure_B (l:List Bool):PureEs (BR l):=fun e he v hv=>by
 obtain⟨x,_,rfl⟩:=List.mem_map.1 he
 rw[List.mem_singleton.1 hv]
 exact .bool _
theorem lenB (l:List Bool):(BR l).length=l.length:=by simp
theorem getB {l:List Bool} {i:Nat} {t:Bool} (h:l[i]?=some t):lget (BR l) ((i:Int)).toNat=some [.bool t]:=by
 rw[lget_eq,Int.toNat_natCast,List.getElem?_map,h];rfl
def bxC (v:Int):List V:=[i64V 1,i64V v,i64V 0,bagV [(v,1)],bagV []]
def stSR (l:List Bool) (r v:Int) (xs:List DV) (w:Bool) (n k:Nat):St DV:=mkSt 124 [(1,.lst 1 (BR l)),(7,i64V r),(8,.ref (30,1) 0),(10,.ref (11,1) 0),(11,i64V (tot w n)),(12,i64V n),(13,.bool w),(14,i64V k)] [(10,.box (bxC v)),(29,.abs (stoD (x2 r) xs))] []
theorem storeRoom_ok (room v:Int) (l:List Bool) (hr:0≤room∧room<256) (hv:in64 v):PTriple Tryz.prog gv 7 [u8V room,.lst 1 (BR l),i64V v] (.bool true):=by
 obtain⟨r,hr9,hrm⟩:∃r:Int,(0≤r∧r≤9)∧IntKind.i64.wrap (room.tmod 10)=r:=by
  refine⟨room.tmod 10,?_,?_⟩
  ·rw[Int.tmod_eq_emod_of_nonneg hr.1];omega
  ·rw[Int.tmod_eq_emod_of_nonneg hr.1];exact wrap64 (by omega) (by omega)
 have cW:=wakes43
 have c0:=cell46 v hv
 have c1:=two45 r
 have n0:=pure_R [(v,1)]
 have n1:=pure_nil
 have n2:=pure_B l
 have lB:=lenB l
 have m0:=pure_D (x2 r).c.d
 have m1:=pure_Nd (x2 r).ns
 by_cases hl:l.length≤40
 case neg=>
  refine PTriple.of_body (C:=cxW9) Tryz.func7 rfl (by kernel_rfl) (mixedOf _) fun E hE=>?_
  repeat' (conv=>whnf);first
   | (refine bcase_of (fun hr=>?_) (fun hr=>?_)<;>(try simp only[bs] at hr)<;>try(exfalso;first|omega|(simp at hr;done)))
   | (apply And.intro;· first|(show indep _ _=true;kernel_rfl)|exact n0|exact n1|exact n2|exact m0|exact m1|exact⟨by omega,by omega⟩|exact⟨by simp,by simp⟩|exact⟨rfl,by decide⟩|(show Nat.beq _ _=false;rfl)|exact nd12)
   | (apply Exists.intro;apply And.intro;· first|exact rfl|exact cW)
   | fail
  all_goals (conv=>whnf)
  all_goals rfl
 case pos=>
 obtain⟨x0,y0,h0⟩:=new_two (r:=r) ⟨hr9.1,by omega⟩
 refine PTriple.of_body (C:=cxW9) Tryz.func7 rfl (by kernel_rfl) (mixedOf _) fun E hE=>?_
 repeat' (conv=>whnf);first
  | (refine bcase_of (fun hr=>?_) (fun hr=>?_)<;>(try simp only[bs] at hr)<;>try(exfalso;first|omega|(simp at hr;done)))
  | (apply And.intro;· first|(show indep _ _=true;kernel_rfl)|exact n0|exact n1|exact n2|exact m0|exact m1|exact⟨by omega,by omega⟩|exact⟨by simp,by simp⟩|exact⟨rfl,by decide⟩|(show Nat.beq _ _=false;rfl)|exact nd12)
  | (apply Exists.intro;apply And.intro;· first|exact rfl|exact c0|exact c1)
  | rw[hrm]
  | (apply Exists.intro;apply Exists.intro;apply And.intro;· exact y0)
  | fail
 all_goals (conv=>whnf)
 refine VLoop.norm [1,7,8,10,11,12,13,14] [10,29] ?_
 repeat' (conv=>whnf);first
  | (refine bcase_of (fun hr=>?_) (fun hr=>?_)<;>(try simp only[bs] at hr)<;>try(exfalso;first|omega|(simp at hr;done)))
  | (apply And.intro;· first|(show indep _ _=true;kernel_rfl)|exact n0|exact n1|exact n2|exact m0|exact m1|exact⟨by omega,by omega⟩|exact⟨by simp,by simp⟩|exact⟨rfl,by decide⟩|(show Nat.beq _ _=false;rfl)|exact nd12)
  | (apply Exists.intro;apply And.intro;· first|exact rfl|exact c0|exact c1)
  | rw[hrm]
  | (apply Exists.intro;apply Exists.intro;apply And.intro;· exact y0)
  | fail
 all_goals (conv=>whnf)
 refine VLoop.inv (fun z:Bool×Nat×Nat×Nat×List DV=>stSR l r v z.2.2.2.2 z.1 z.2.1 z.2.2.1) (fun z=>SB (x2 r) (TS v z.1 z.2.1) z.2.2.2.1 z.2.2.2.2∧z.2.2.1≤l.length∧z.2.2.2.1≤2*z.2.2.1∧z.2.1≤9∧(tot z.1 z.2.1:Int)≤r) (fun z=>l.length-z.2.2.1) (false,0,0,0,[x0,x0]) ⟨h0,Nat.zero_le _,Nat.zero_le _,by simp only;omega,by simp only[tot];omega⟩ rfl ?_
 rintro⟨w,n,k,i,xs⟩ ⟨hS,hk,hi,hn,htot⟩ ih
 simp only at hS hk hi hn htot ih
 have hwk:IntKind.i64.wrap ((k:Int)+1)=((k+1:Nat):Int):=wrap64 (by omega) (by omega)
 have hwn:IntKind.i64.wrap ((n:Int)+1)=((n+1:Nat):Int):=wrap64 (by omega) (by omega)
 have hw8:IntKind.u8.wrap (n:Int)=(n:Int):=by rw[wrap8];omega
 obtain⟨T0,y1,i1,hT0,hy1,hi1,tb0⟩:=hS.at (j:=0) (by show 0<2;decide)
 obtain⟨T1,y2,i2,hT1,hy2,hi2,tb1⟩:=hS.at (j:=1) (by show 1<2;decide)
 obtain rfl:WT v w=T0:=Option.some.inj hT0
 obtain rfl:FT v n=T1:=Option.some.inj hT1
 have tW:=tb0.tin
 have tF:=tb1.tin
 have et:∀m,tot true m=m+1:=fun _=>rfl
 have ef:∀m,tot false m=m:=fun _=>rfl
 have et1:=et n
 have ef1:=ef n
 have et2:=et (n+1)
 have ef2:=ef (n+1)
 have hk0:KIn 0:=⟨by decide,by decide⟩
 have kL:=lenA42 hS
 rw[TS_len] at kL
 by_cases hend:k<l.length∧n<9
 case neg=>
  cases w with
  | true=>
   show VLoop _ _ _ (stSR l r v xs _ _ k) _
   refine VLoop.unroll hE (mixedOf _) ?_
   all_goals exact kb44
  | false=>
   by_cases hfin:(tot false n:Int)=r∧n≠0
   case neg=>
    show VLoop _ _ _ (stSR l r v xs _ _ k) _
    refine VLoop.unroll hE (mixedOf _) ?_
    all_goals exact kb44
   case pos=>
    obtain⟨q,rfl⟩:∃q,n=q+1:=⟨n-1,by omega⟩
    have hwm:IntKind.i64.wrap (((q+1:Nat):Int)-1)=(q:Int):=(wrap64 (by omega) (by omega)).trans (by omega)
    have hq8:IntKind.u8.wrap (q:Int)=(q:Int):=by rw[wrap8];omega
    obtain⟨z1,p1,h1⟩:=sPut (j:=0) (T:=WT v false) hS (by omega) rfl hk0 1 (cw_in hv) true 0
    rw[room_c hfin.1 tW] at p1 h1
    simp only at p1 h1
    obtain⟨z2,p2,h2⟩:=sUndo (j:=1) (T:=FT v (q+1)) h1 (by omega) rfl (kF_in (i:=q) (by omega)) 1
    rw[room_u] at p2 h2
    simp only at p2 h2
    rw[kF_co (i:=q) (by omega)] at p2
    replace h2:SB (x2 r) (TS v false q) (i+2+1) z2:=h2
    obtain⟨T2,y4,i4,hT2,hy4,hi4,tb2⟩:=h2.at (j:=0) (by show 0<2;decide)
    obtain rfl:WT v false=T2:=Option.some.inj hT2
    obtain⟨z3,p3,h3⟩:=sPut (j:=0) (T:=WT v false) h2 (by omega) rfl hk0 1 (cw_in hv) true 0
    rw[room_b (by have:=hfin.1;simp only[tot] at this ⊢;omega) tb2.tin] at p3 h3
    simp only at p3 h3
    have k3:=lenA42 h3
    rw[TS_len,show((tot true q:Nat):Int)=r from hfin.1] at k3
    have hf1:=hfin.1
    clear h1 h2 h3 ih
    show VLoop _ _ _ (stSR l r v xs _ _ k) _
    refine VLoop.unroll hE (mixedOf _) ?_
    repeat' (conv=>whnf);first
     | (refine bcase_of (fun hr=>?_) (fun hr=>?_)<;>(try simp only[bs] at hr)<;>try(exfalso;first|omega|(simp at hr;done)))
     | (apply And.intro;· first|(show indep _ _=true;kernel_rfl)|exact n0|exact n1|exact n2|exact m0|exact m1|exact⟨by omega,by omega⟩|exact⟨by simp,by simp⟩|exact⟨rfl,by decide⟩|(show Nat.beq _ _=false;rfl)|exact nd12)
     | (apply Exists.intro;apply And.intro;· first|exact rfl|exact c0|exact c1|exact cW|exact gt)
     | (apply Exists.intro;apply Exists.intro;apply Exists.intro;apply And.intro;· first|(refine ATriple.callN (p1) ?_ ?_ ?_<;>rfl)|(refine ATriple.callN (p2) ?_ ?_ ?_<;>rfl)|(refine ATriple.callN (p3) ?_ ?_ ?_<;>rfl))
     | rw[hwk]
     | rw[hwn]
     | rw[hw8]
     | rw[hwt]
     | rw[hwm]
     | rw[hq8]
     | (apply Exists.intro;apply And.intro;· first|(refine ATriple.callK (k3) ?_ ?_ ?_ ?_<;>first|rfl|(intro d;rfl)))
     | fail
    all_goals (conv=>whnf)
    all_goals rfl
 case pos=>
  obtain⟨t,ht⟩:∃t,l[k]?=some t:=⟨_,List.getElem?_eq_getElem hend.1⟩
  have gt:=getB ht
  have hke:=hend.1
  have hne:=hend.2
  have hwt:IntKind.i64.wrap ((tot w n:Int)+1)=((tot w (n+1):Nat):Int):=by
   refine(wrap64 (by cases w<;>simp only[tot]<;>omega) (by cases w<;>simp only[tot]<;>omega)).trans ?_
   cases w<;>simp only[tot]<;>omega
  cases t with
  | true=>
   cases w with
   | true=>
    obtain⟨z1,p1,h1⟩:=sPut (j:=0) (T:=WT v true) hS (by omega) rfl hk0 1 (cw_in hv) true 0
    rw[room_a htot tW] at p1 h1
    simp only at p1 h1
    have k1:=lenA42 h1
    rw[TS_len] at k1
    have hih:=ih (true,n,k+1,i+2,z1) ⟨h1,by simp only;omega,by simp only;omega,hn,htot⟩ (by simp only;omega)
    clear ih h1
    show VLoop _ _ _ (stSR l r v xs _ _ k) _
    refine VLoop.unroll hE (mixedOf _) ?_
    repeat' (conv=>whnf);first
     | (refine bcase_of (fun hr=>?_) (fun hr=>?_)<;>(try simp only[bs] at hr)<;>try(exfalso;first|omega|(simp at hr;done)))
     | (apply And.intro;· first|(show indep _ _=true;kernel_rfl)|exact n0|exact n1|exact n2|exact m0|exact m1|exact⟨by omega,by omega⟩|exact⟨by simp,by simp⟩|exact⟨rfl,by decide⟩|(show Nat.beq _ _=false;rfl)|exact nd12)
     | (apply Exists.intro;apply And.intro;· first|exact rfl|exact c0|exact c1|exact cW|exact gt)
     | (apply Exists.intro;apply Exists.intro;apply Exists.intro;apply And.intro;· first|(refine ATriple.callN (p1) ?_ ?_ ?_<;>rfl))
     | rw[hwk]
     | rw[hwn]
     | rw[hw8]
     | rw[hwt]
     | rw[hwm]
     | rw[hq8]
     | (apply Exists.intro;apply And.intro;· first|(refine ATriple.callK (k1) ?_ ?_ ?_ ?_<;>first|rfl|(intro d;rfl)))
     | fail
    all_goals (conv=>whnf)
    all_goals refine VLoop.norm [1,7,8,10,11,12,13,14] [10,29] ?_
    all_goals exact kb45
   | false=>
    by_cases hfull:(tot false n:Int)=r
    case pos=>
     obtain⟨z1,p1,h1⟩:=sPut (j:=0) (T:=WT v false) hS (by omega) rfl hk0 1 (cw_in hv) true 0
     rw[room_c hfull tW] at p1 h1
     simp only at p1 h1
     have k1:=lenA42 h1
     rw[TS_len] at k1
     have hih:=ih (false,n,k+1,i+2,z1) ⟨h1,by simp only;omega,by simp only;omega,hn,htot⟩ (by simp only;omega)
     clear ih h1
     show VLoop _ _ _ (stSR l r v xs _ _ k) _
     refine VLoop.unroll hE (mixedOf _) ?_
     repeat' (conv=>whnf);first
      | (refine bcase_of (fun hr=>?_) (fun hr=>?_)<;>(try simp only[bs] at hr)<;>try(exfalso;first|omega|(simp at hr;done)))
      | (apply And.intro;· first|(show indep _ _=true;kernel_rfl)|exact n0|exact n1|exact n2|exact m0|exact m1|exact⟨by omega,by omega⟩|exact⟨by simp,by simp⟩|exact⟨rfl,by decide⟩|(show Nat.beq _ _=false;rfl)|exact nd12)
      | (apply Exists.intro;apply And.intro;· first|exact rfl|exact c0|exact c1|exact cW|exact gt)
      | (apply Exists.intro;apply Exists.intro;apply Exists.intro;apply And.intro;· first|(refine ATriple.callN (p1) ?_ ?_ ?_<;>rfl))
      | rw[hwk]
      | rw[hwn]
      | rw[hw8]
      | rw[hwt]
      | rw[hwm]
      | rw[hq8]
      | (apply Exists.intro;apply And.intro;· first|(refine ATriple.callK (k1) ?_ ?_ ?_ ?_<;>first|rfl|(intro d;rfl)))
      | fail
     all_goals (conv=>whnf)
     all_goals refine VLoop.norm [1,7,8,10,11,12,13,14] [10,29] ?_
     all_goals exact kb45
    case neg=>
     have hlt:(tot false n:Int)<r:=by omega
     obtain⟨z1,p1,h1⟩:=sPut (j:=0) (T:=WT v false) hS (by omega) rfl hk0 1 (cw_in hv) true 0
     rw[room_b hlt tW] at p1 h1
     simp only at p1 h1
     have k1:=lenA42 h1
     rw[TS_len] at k1
     have hih:=ih (true,n,k+1,i+2,z1) ⟨h1,by simp only;omega,by simp only;omega,hn,by simp only[tot] at hlt ⊢;omega⟩ (by simp only;omega)
     clear ih h1
     show VLoop _ _ _ (stSR l r v xs _ _ k) _
     refine VLoop.unroll hE (mixedOf _) ?_
     repeat' (conv=>whnf);first
      | (refine bcase_of (fun hr=>?_) (fun hr=>?_)<;>(try simp only[bs] at hr)<;>try(exfalso;first|omega|(simp at hr;done)))
      | (apply And.intro;· first|(show indep _ _=true;kernel_rfl)|exact n0|exact n1|exact n2|exact m0|exact m1|exact⟨by omega,by omega⟩|exact⟨by simp,by simp⟩|exact⟨rfl,by decide⟩|(show Nat.beq _ _=false;rfl)|exact nd12)
      | (apply Exists.intro;apply And.intro;· first|exact rfl|exact c0|exact c1|exact cW|exact gt)
      | (apply Exists.intro;apply Exists.intro;apply Exists.intro;apply And.intro;· first|(refine ATriple.callN (p1) ?_ ?_ ?_<;>rfl))
      | rw[hwk]
      | rw[hwn]
      | rw[hw8]
      | rw[hwt]
      | rw[hwm]
      | rw[hq8]
      | (apply Exists.intro;apply And.intro;· first|(refine ATriple.callK (k1) ?_ ?_ ?_ ?_<;>first|rfl|(intro d;rfl)))
      | fail
     all_goals (conv=>whnf)
     all_goals refine VLoop.norm [1,7,8,10,11,12,13,14] [10,29] ?_
     all_goals exact kb45
  | false=>
   by_cases hfull:(tot w n:Int)=r
   case pos=>
    obtain⟨z1,p1,h1⟩:=sPut (j:=1) (T:=FT v n) hS (by omega) rfl (kF_in (i:=n) (by omega)) 1 (cw_in hv) true 0
    rw[room_e hfull hne tF] at p1 h1
    simp only at p1 h1
    rw[kF_co (i:=n) (by omega)] at p1
    have k1:=lenA42 h1
    rw[TS_len] at k1
    have hih:=ih (w,n,k+1,i+2,z1) ⟨h1,by simp only;omega,by simp only;omega,hn,htot⟩ (by simp only;omega)
    clear ih h1
    cases w
    all_goals
     show VLoop _ _ _ (stSR l r v xs _ _ k) _
     refine VLoop.unroll hE (mixedOf _) ?_
     repeat' (conv=>whnf);first
      | (refine bcase_of (fun hr=>?_) (fun hr=>?_)<;>(try simp only[bs] at hr)<;>try(exfalso;first|omega|(simp at hr;done)))
      | (apply And.intro;· first|(show indep _ _=true;kernel_rfl)|exact n0|exact n1|exact n2|exact m0|exact m1|exact⟨by omega,by omega⟩|exact⟨by simp,by simp⟩|exact⟨rfl,by decide⟩|(show Nat.beq _ _=false;rfl)|exact nd12)
      | (apply Exists.intro;apply And.intro;· first|exact rfl|exact c0|exact c1|exact cW|exact gt)
      | (apply Exists.intro;apply Exists.intro;apply Exists.intro;apply And.intro;· first|(refine ATriple.callN (p1) ?_ ?_ ?_<;>rfl))
      | rw[hwk]
      | rw[hwn]
      | rw[hw8]
      | rw[hwt]
      | rw[hwm]
      | rw[hq8]
      | (apply Exists.intro;apply And.intro;· first|(refine ATriple.callK (k1) ?_ ?_ ?_ ?_<;>first|rfl|(intro d;rfl)))
      | fail
     all_goals (conv=>whnf)
     all_goals refine VLoop.norm [1,7,8,10,11,12,13,14] [10,29] ?_
     all_goals exact kb45
   case neg=>
    have hlt:(tot w n:Int)<r:=by omega
    obtain⟨z1,p1,h1⟩:=sPut (j:=1) (T:=FT v n) hS (by omega) rfl (kF_in (i:=n) (by omega)) 1 (cw_in hv) true 0
    rw[room_d hlt hne tF] at p1 h1
    simp only at p1 h1
    rw[kF_co (i:=n) (by omega)] at p1
    have k1:=lenA42 h1
    rw[TS_len] at k1
    have hih:=ih (w,n+1,k+1,i+2,z1) ⟨h1,by simp only;omega,by simp only;omega,by simp only;omega,by cases w<;>simp only[tot] at hlt ⊢<;>omega⟩ (by simp only;omega)
    clear ih h1
    cases w
    all_goals
     show VLoop _ _ _ (stSR l r v xs _ _ k) _
     refine VLoop.unroll hE (mixedOf _) ?_
     repeat' (conv=>whnf);first
      | (refine bcase_of (fun hr=>?_) (fun hr=>?_)<;>(try simp only[bs] at hr)<;>try(exfalso;first|omega|(simp at hr;done)))
      | (apply And.intro;· first|(show indep _ _=true;kernel_rfl)|exact n0|exact n1|exact n2|exact m0|exact m1|exact⟨by omega,by omega⟩|exact⟨by simp,by simp⟩|exact⟨rfl,by decide⟩|(show Nat.beq _ _=false;rfl)|exact nd12)
      | (apply Exists.intro;apply And.intro;· first|exact rfl|exact c0|exact c1|exact cW|exact gt)
      | (apply Exists.intro;apply Exists.intro;apply Exists.intro;apply And.intro;· first|(refine ATriple.callN (p1) ?_ ?_ ?_<;>rfl))
      | rw[hwk]
      | rw[hwn]
      | rw[hw8]
      | rw[hwt]
      | rw[hwm]
      | rw[hq8]
      | (apply Exists.intro;apply And.intro;· first|(refine ATriple.callK (k1) ?_ ?_ ?_ ?_<;>first|rfl|(intro d;rfl)))
      | fail
     all_goals (conv=>whnf)
     all_goals refine VLoop.norm [1,7,8,10,11,12,13,14] [10,29] ?_
     all_goals exact kb45
end Go.Proofs.YtbppemcdphgknaaGreatDoor
