/- A part of the proofs over the seat YtbppemcdphgknaaGreatDoor. -/
import Derived.Test.YtbppemcdphgknaaGreatDoorT3
set_option linter.unusedVariables false
set_option linter.unusedSimpArgs false
set_option maxRecDepth 100000
set_option maxHeartbeats 40000000
namespace Go.Proofs.YtbppemcdphgknaaGreatDoor
open Go Go.Vm
set_option maxRecDepth 100000
set_option maxHeartbeats 40000000
set_option linter.unusedSimpArgs false
set_option linter.unusedVariables false
variable {m keep cap:Int} {Tb:Tab} {i:Nat} {x:DV}
noncomputable def cxL:Cx DV:=cxOf [(22,1),(26,1),(70,1),(27,1),(84,1),(85,1),(86,1),(29,1),(30,5),(21,5),(23,5),(31,5),(33,5),(34,5),(87,5),(88,5),(90,5),(71,5)]
def doT (m keep cap:Int) (Tb:Tab) (a:Act):Tab:=if a.kd=0∨a.kd=1∨a.kd=2 then(tPut m keep cap Tb a.k a.ver a.c a.i a.fl).2 else if a.kd=3 then(tUndo m cap Tb a.k a.ver).2 else if a.kd=4 then(tPrune m cap Tb a.k a.fl).2 else Tb
theorem do29 (h:TB m keep cap Tb i x) (hi:i<400) (a:Act) (hk:KIn a.k) (hc:EnIn a.c) :
  ∃x' i',ATriple Tryz.prog gv R0 29 [.ref (0,0) 0,.ref (0,1) 0,actV a] [.abs x,.box (rtV m keep cap Tb)] (.bool true) [.abs x',.box (rtV m keep cap (doT m keep cap Tb a))] none∧TB m keep cap (doT m keep cap Tb a) i' x'∧i'≤i+1:=by
 have ht:=h.tin
 have pT:=pure_Tb Tb
 have lT:=lenTb Tb
 obtain⟨kd,k,ver,fl,c,ib⟩:=a
 simp only at hk hc
 have n1:=pure_R c.p
 have n2:=pure_R c.q
 unfold doT
 by_cases h1:kd=0∨kd=1∨kd=2
 ·simp only[if_pos h1]
  obtain⟨x',i',a0,h',hi'⟩:=tPut_ok h hi hk ver hc ib fl
  have a1:=rPut_ok (M:=m) (K:=keep) (C:=cap) ht hk ver hc ib fl ((Tb.map encT).length:Int) h.k2.2
  rw[show rPut m keep cap Tb k ver c ib fl ((Tb.map encT).length:Int)=tPut m keep cap Tb k ver c ib fl by rw[lT];exact tput_same ht k ver c ib fl] at a1
  refine⟨x',i',?_,h',hi'⟩
  cases ib
  all_goals rcases h1 with rfl|rfl|rfl
  all_goals
   refine ATriple.of_bodyW (C:=cxL) Tryz.func29 rfl (by kernel_rfl) (mixedOf _) rfl (by simp[okA,okC,okN,co,pure_R,pure_nil,pure_Tb,encA]) (by simp[okOb,okC,okN,pure_R,pure_nil,pure_Tb,encA]) (by simp[okG,okA,okC,okN,co,pure_R,pure_nil,pure_Tb,encA]) (by simp[okOb,okC,okN,pure_R,pure_nil,pure_Tb,encA]) (fun o ho=>by cases ho) 0 [] fun E hE=>?_
   exact go
 ·simp only[if_neg h1]
  by_cases h3:kd=3
  ·subst h3
   simp only[if_true]
   obtain⟨x',i',a0,h',hi'⟩:=tUndo_ok h hi hk ver
   have a1:=rUndo_ok (M:=m) (K:=keep) (C:=cap) ht hk ver
   rw[undo_same (cap:=cap)] at a1
   refine⟨x',i',?_,h',hi'⟩
   cases ib
   all_goals
    refine ATriple.of_bodyW (C:=cxL) Tryz.func29 rfl (by kernel_rfl) (mixedOf _) rfl (by simp[okA,okC,okN,co,pure_R,pure_nil,pure_Tb,encA]) (by simp[okOb,okC,okN,pure_R,pure_nil,pure_Tb,encA]) (by simp[okG,okA,okC,okN,co,pure_R,pure_nil,pure_Tb,encA]) (by simp[okOb,okC,okN,pure_R,pure_nil,pure_Tb,encA]) (fun o ho=>by cases ho) 0 [] fun E hE=>?_
    exact go
  ·simp only[if_neg h3]
   by_cases h4:kd=4
   ·subst h4
    simp only[if_true]
    obtain⟨x',i',a0,h',hi'⟩:=tPrune_ok h hi hk fl
    have a1:=rPrune_ok (M:=m) (K:=keep) (C:=cap) ht hk fl
    rw[prune_same (cap:=cap) ht] at a1
    refine⟨x',i',?_,h',hi'⟩
    cases ib
    all_goals
     refine ATriple.of_bodyW (C:=cxL) Tryz.func29 rfl (by kernel_rfl) (mixedOf _) rfl (by simp[okA,okC,okN,co,pure_R,pure_nil,pure_Tb,encA]) (by simp[okOb,okC,okN,pure_R,pure_nil,pure_Tb,encA]) (by simp[okG,okA,okC,okN,co,pure_R,pure_nil,pure_Tb,encA]) (by simp[okOb,okC,okN,pure_R,pure_nil,pure_Tb,encA]) (fun o ho=>by cases ho) 0 [] fun E hE=>?_
     exact go
   ·simp only[if_neg h4]
    refine⟨x,i,?_,h,by omega⟩
    cases ib
    all_goals
     refine ATriple.of_bodyW (C:=cxL) Tryz.func29 rfl (by kernel_rfl) (mixedOf _) rfl (by simp[okA,okC,okN,co,pure_R,pure_nil,pure_Tb,encA]) (by simp[okOb,okC,okN,pure_R,pure_nil,pure_Tb,encA]) (by simp[okG,okA,okC,okN,co,pure_R,pure_nil,pure_Tb,encA]) (by simp[okOb,okC,okN,pure_R,pure_nil,pure_Tb,encA]) (fun o ho=>by cases ho) 0 [] fun E hE=>?_
     exact go
theorem scanT_ok (ht:TIn Tb) (ver:Int):∀e∈scanT m Tb ver,EnOk e.2:=fun e he=>by
 obtain⟨f,hf,h1⟩:=List.mem_filterMap.1 he
 cases hs:atS m f.2 ver with
 | none=>rw[hs] at h1;cases h1
 | some c=>
  rw[hs] at h1;cases h1
  have hin:=(ht.2.2 f hf).2.1
  have hm:c∈f.2:=by
   revert hs
   unfold atS
   repeat' split
   all_goals intro hs
   all_goals first|(cases hs;exact List.mem_of_getElem? (by assumption))|cases hs
  exact⟨(hin.2 c hm).lp,(hin.2 c hm).lq⟩
end Go.Proofs.YtbppemcdphgknaaGreatDoor
namespace Go.Proofs.YtbppemcdphgknaaGreatDoor
open Go Go.Vm
def e5:En:=⟨0,0,1,5,0,[(5,1)],[]⟩
def e1:En:=⟨0,0,1,1,0,[(1,1)],[]⟩
theorem in64s {n:Int} (h : -100≤n∧n≤100):in64 n:=by unfold in64;omega
theorem e5_in:EnIn e5:=⟨by decide,by decide,fun r hr=>by obtain rfl:=List.mem_singleton.1 hr;exact⟨in64s (by decide),in64s (by decide)⟩,fun r hr=>(by cases hr),in64s (by decide),in64s (by decide)⟩
def kA:Int:=16777216
def t5:Tab:=[(kA,[⟨1,1,1,5,0,[(5,1)],[]⟩])]
theorem w1:tPut 1 2 1 [] kA 1 e5 true 0=(0,t5):=by kernel_rfl
theorem w2:tPut 1 2 1 t5 0 1 e5 true 0=(10,t5):=by kernel_rfl
theorem w3:tUndo 1 1 t5 kA 1=(true,[]):=by kernel_rfl
theorem w4:tPut 1 2 0 [] kA 1 e5 true 0=(10,[]):=by kernel_rfl
theorem wakes19:PTriple Tryz.prog gv 19 [] (.bool true):=by
 have c0:=cellOf1 5 (in64s (by decide))
 have hk:KIn kA:=⟨by decide,by decide⟩
 have h0':KIn 0:=⟨by decide,by decide⟩
 obtain⟨x0,q0,h0⟩:=tNew (m:=1) (keep:=2) (cap:=1) ⟨⟨by decide,by decide⟩,⟨by decide,by decide⟩,by decide,by decide⟩
 obtain⟨x1,i1,q1,h1,j1⟩:=tPut_ok h0 (by omega) hk 1 e5_in true 0
 rw[w1] at q1 h1
 obtain⟨x2,i2,q2,h2,j2⟩:=tPut_ok h1 (by omega) h0' 1 e5_in true 0
 rw[w2] at q2 h2
 have q3:=tAt h2 hk 1
 rw[show atS 1 (chT t5 kA) 1=some ⟨1,1,1,5,0,[(5,1)],[]⟩ by kernel_rfl] at q3
 have q4:=tScan h2 1
 rw[show scanT 1 t5 1=[(kA,⟨1,1,1,5,0,[(5,1)],[]⟩)] by kernel_rfl] at q4
 have q5:=tNext h2 0
 rw[show nxT t5 0=some (kA,[⟨1,1,1,5,0,[(5,1)],[]⟩]) by kernel_rfl] at q5
 have q6:=tLen h2
 obtain⟨x3,i3,q7,h3,j3⟩:=tUndo_ok h2 (by omega) hk 1
 rw[w3] at q7 h3
 have q8:=tLen h3
 obtain⟨y0,q9,g0⟩:=tNew (m:=1) (keep:=2) (cap:=0) ⟨⟨by decide,by decide⟩,⟨by decide,by decide⟩,by decide,by decide⟩
 obtain⟨y1,i4,q10,g1,j4⟩:=tPut_ok g0 (by omega) hk 1 e5_in true 0
 rw[w4] at q10 g1
 have n0:=pure_R [(5,1)]
 have n1:=pure_nil
 have n2:=pure_Pr [(kA,⟨1,1,1,5,0,[(5,1)],[]⟩)]
 clear h0 h1 h2 h3 g0 g1
 refine PTriple.of_body (C:=cxL) Tryz.func19 rfl (by kernel_rfl) (mixedOf _) fun E hE=>?_
 repeat' (conv=>whnf);first
  | (refine bcase_of (fun hr=>?_) (fun hr=>?_)<;>(try simp only[bs] at hr)<;>try(exfalso;first|omega|(simp at hr;done)))
  | (apply And.intro;· first|exact n0|exact n1|exact n2|exact⟨by simp,by simp⟩|exact nd13)
  | (apply Exists.intro;apply And.intro;· first|exact rfl|exact c0)
  | (apply Exists.intro;apply Exists.intro;apply Exists.intro;apply And.intro;· first|(refine ATriple.callN (q0) ?_ ?_ ?_<;>rfl)|(refine ATriple.callN (q1) ?_ ?_ ?_<;>rfl)|(refine ATriple.callN (q2) ?_ ?_ ?_<;>rfl)|(refine ATriple.callN (q7) ?_ ?_ ?_<;>rfl)|(refine ATriple.callN (q9) ?_ ?_ ?_<;>rfl)|(refine ATriple.callN (q10) ?_ ?_ ?_<;>rfl))
  | (apply Exists.intro;apply And.intro;· first|(refine ATriple.callK (q3) ?_ ?_ ?_ ?_<;>first|rfl|(intro d;rfl))|(refine ATriple.callK (q4) ?_ ?_ ?_ ?_<;>first|rfl|(intro d;rfl))|(refine ATriple.callK (q5) ?_ ?_ ?_ ?_<;>first|rfl|(intro d;rfl))|(refine ATriple.callK (q6) ?_ ?_ ?_ ?_<;>first|rfl|(intro d;rfl))|(refine ATriple.callK (q8) ?_ ?_ ?_ ?_<;>first|rfl|(intro d;rfl)))
  | fail
 all_goals (conv=>whnf)
 all_goals rfl
end Go.Proofs.YtbppemcdphgknaaGreatDoor
