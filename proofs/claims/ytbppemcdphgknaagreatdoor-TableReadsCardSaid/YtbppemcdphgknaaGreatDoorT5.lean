/- A part of the proofs over the seat YtbppemcdphgknaaGreatDoor. -/
import Derived.Test.YtbppemcdphgknaaGreatDoorT4
set_option linter.unusedVariables false
set_option linter.unusedSimpArgs false
set_option maxRecDepth 100000
set_option maxHeartbeats 40000000
namespace Go.Proofs.YtbppemcdphgknaaGreatDoor
open Go Go.Vm
set_option maxRecDepth 100000
set_option maxHeartbeats 40000000
set_option linter.unusedSimpArgs false
set_option linter.unusedVariables false
variable {m keep cap:Int} {Tb:Tab} {i:Nat} {x:DV}
def AIn (a:Act):Prop:=KIn a.k∧EnIn a.c
def A64 (a:Act):Prop:=KIn a.k∧RIn a.c.p∧RIn a.c.q∧in64 a.c.a∧in64 a.c.b
theorem light_in {a:Act} (h:A64 a) (hl:lightB a.c.p a.c.q=true):AIn a:=by
 obtain⟨h1,h2,h3,h4,h5⟩:=h
 simp only[lightB,Bool.and_eq_true,decide_eq_true_eq] at hl
 exact⟨h1,by omega,by omega,h2,h3,h4,h5⟩
theorem lightA_in {l:List Act} (h:∀a∈l,A64 a) (hl:lightA l=true):∀a∈l,AIn a:=fun a ha=>by
 simp only[lightA,Bool.and_eq_true,List.all_eq_true] at hl
 exact light_in (h a ha) (hl.2 a ha)
def growT (m keep cap:Int) (l:List Act):Tab:=l.foldl (doT m keep cap) []
theorem grow_snoc (l:List Act) (a:Act):growT m keep cap (l++[a])=doT m keep cap (growT m keep cap l) a:=by simp[growT]
end Go.Proofs.YtbppemcdphgknaaGreatDoor
namespace Go.Proofs.YtbppemcdphgknaaGreatDoor
open Go Go.Vm
variable {m keep cap:Int} {Tb:Tab} {i:Nat} {x:DV}
def stGr (M K C:Int) (l:List Act) (x:DV) (Tb:Tab) (j:Nat):St DV:=mkStX 45 0 [(1,actsV l),(7,.ref (17,1) 0),(8,.ref (25,1) 0),(9,i64V j)] [(16,.abs x),(24,.box (rtV M K C Tb))] []
theorem grow_take {M K C:Int} {l:List Act} {j:Nat} {a:Act} (h:l[j]?=some a):growT M K C (l.take (j+1))=doT M K C (growT M K C (l.take j)) a:=by
 rw[take_get h,grow_snoc]
theorem grown20 (M K C:Int) (l:List Act) (hA:∀a∈l,AIn a) (hl:l.length≤50) (hg:(1≤M∧M≤2)∧(2≤K∧K≤8)∧0≤C∧C≤2000) :
  ∃x i,YTriple Tryz.prog gv R0 20 [.agg [i64V M,i64V K,i64V C],actsV l] (.tup [.ref (0,0) 0,.ref (0,1) 0,.bool true]) [.abs x,.box (rtV M K C (growT M K C l))]∧TB M K C (growT M K C l) i x∧i≤l.length:=by
 have pA:=pure_A l
 have lA:=lenA l
 obtain⟨x0,aN,h0⟩:=tNew hg
 have key:∀j,j≤l.length→∃xs:Nat→DV,(∀k,k≤j→∃i,TB M K C (growT M K C (l.take k)) i (xs k)∧i≤k)∧xs 0=x0∧∀k a,k<j→l[k]?=some a→ATriple Tryz.prog gv R0 29 [.ref (0,0) 0,.ref (0,1) 0,actV a] [.abs (xs k),.box (rtV M K C (growT M K C (l.take k)))] (.bool true) [.abs (xs (k+1)),.box (rtV M K C (growT M K C (l.take (k+1))))] none:=by
  intro j
  induction j with
  | zero=>exact fun _=>⟨fun _=>x0,fun k hk=>⟨0,by rw[show k=0 by omega];exact h0,by omega⟩,rfl,fun k a hk=>by omega⟩
  | succ j ih=>
   intro hj
   obtain⟨xs,h1,h2,h3⟩:=ih (by omega)
   obtain⟨i,hT,hi⟩:=h1 j (Nat.le_refl _)
   obtain⟨a,ha⟩:∃a,l[j]?=some a:=⟨_,List.getElem?_eq_getElem (by omega)⟩
   have hin:=hA a (List.mem_of_getElem? ha)
   obtain⟨x',i2,aD,hT',hi2⟩:=do29 hT (by omega) a hin.1 hin.2
   rw[←grow_take ha] at aD hT'
   refine⟨fun k=>if k≤j then xs k else x',fun k hk=>?_,by simpa using h2,fun k b hk hb=>?_⟩
   ·by_cases e:k≤j
    ·simp only[if_pos e];exact h1 k e
    ·obtain rfl:k=j+1:=by omega
     simp only[if_neg e];exact⟨i2,hT',by omega⟩
   ·by_cases e:k<j
    ·simp only[if_pos (show k≤j by omega),if_pos (show k+1≤j by omega)];exact h3 k b e hb
    ·obtain rfl:k=j:=by omega
     rw[ha] at hb;cases hb
     simp only[if_pos (Nat.le_refl k),if_neg (show ¬k+1≤k by omega)];exact aD
 obtain⟨xs,hxT,hx0,hxD⟩:=key l.length (Nat.le_refl _)
 obtain⟨iF,hTF,hiF⟩:=hxT l.length (Nat.le_refl _)
 rw[List.take_length] at hTF
 have pF:=pure_Tb (growT M K C l)
 refine⟨xs l.length,iF,?_,hTF,hiF⟩
 refine YTriple.of_body (C:=cxL) Tryz.func20 rfl (by kernel_rfl) (mixedOf _) ?_ (by simp) ?_ ?_ 0 fun E hE=>?_
 ·intro v hv
  simp only[List.mem_cons,List.not_mem_nil,or_false] at hv
  rcases hv with rfl|rfl
  ·exact .agg fun v hv=>by
    simp only[List.mem_cons,List.not_mem_nil,or_false] at hv
    rcases hv with rfl|rfl|rfl<;>exact .int _ _
  ·exact .lst pA
 ·simp[okG,okA,okC,okN]
 ·simp[okOb,okC,pF]
 repeat' (conv=>whnf);first
  | (refine bcase_of (fun hr=>?_) (fun hr=>?_)<;>(try simp only[bs] at hr)<;>try(exfalso;first|omega|(simp at hr;done)))
  | (apply And.intro;· first|exact pA|exact⟨rfl,by decide⟩|exact(fun e he=>nomatch he)|exact nd13)
  | (apply Exists.intro;apply And.intro;· first|exact rfl)
  | (apply Exists.intro;apply Exists.intro;apply Exists.intro;apply And.intro;· first|(refine ATriple.callN (aN) ?_ ?_ ?_<;>rfl))
  | fail
 all_goals (conv=>whnf)
 refine VLoop.weak [.nil (25,1) 3 0 5,.snap (25,1) 3] ?_
 repeat' (conv=>whnf);first
  | (refine bcase_of (fun hr=>?_) (fun hr=>?_)<;>(try simp only[bs] at hr)<;>try(exfalso;first|omega|(simp at hr;done)))
  | (apply And.intro;· first|exact pA|exact⟨rfl,by decide⟩|exact(fun e he=>nomatch he)|exact nd13)
  | (apply Exists.intro;apply And.intro;· first|exact rfl)
  | (apply Exists.intro;apply Exists.intro;apply Exists.intro;apply And.intro;· first|(refine ATriple.callN (aN) ?_ ?_ ?_<;>rfl))
  | fail
 all_goals (conv=>whnf)
 refine VLoop.norm [1,7,8,9] [16,24] ?_
 repeat' (conv=>whnf);first
  | (refine bcase_of (fun hr=>?_) (fun hr=>?_)<;>(try simp only[bs] at hr)<;>try(exfalso;first|omega|(simp at hr;done)))
  | (apply And.intro;· first|exact pA|exact⟨rfl,by decide⟩|exact(fun e he=>nomatch he)|exact nd13)
  | (apply Exists.intro;apply And.intro;· first|exact rfl)
  | (apply Exists.intro;apply Exists.intro;apply Exists.intro;apply And.intro;· first|(refine ATriple.callN (aN) ?_ ?_ ?_<;>rfl))
  | fail
 all_goals (conv=>whnf)
 refine VLoop.inv (fun j:Nat=>stGr M K C l (xs j) (growT M K C (l.take j)) j) (fun j=>j≤l.length) (fun j=>l.length-j) 0 (Nat.zero_le _) (by rw[←hx0];rfl) ?_
 intro j hj ih
 obtain⟨Tj,hTj⟩:∃z,z=growT M K C (l.take j):=⟨_,rfl⟩
 obtain⟨Tn,hTn⟩:∃z,z=growT M K C (l.take (j+1)):=⟨_,rfl⟩
 have hw:IntKind.i64.wrap ((j:Int)+1)=((j+1:Nat):Int):=wrap64 (by omega) (by omega)
 cases hx:l[j]? with
 | none=>
  have hx':=List.getElem?_eq_none_iff.1 hx
  have hjl:j=l.length:=by omega
  subst hjl
  rw[List.take_length]
  refine VLoop.unroll hE (mixedOf _) ?_
  repeat' (conv=>whnf);first
   | (refine bcase_of (fun hr=>?_) (fun hr=>?_)<;>(try simp only[bs] at hr)<;>try(exfalso;first|omega|(simp at hr;done)))
   | (apply And.intro;· first|exact pA|exact⟨by omega,by omega⟩|exact⟨rfl,by decide⟩|exact pF|exact pT|exact pT'|exact nA|exact nB|exact(fun e he=>nomatch he)|exact nd13)
   | (apply Exists.intro;apply And.intro;· first|exact rfl)
   | fail
  all_goals (conv=>whnf)
  refine⟨[],?_⟩
  conv=>whnf
  refine⟨[(17,1),(25,1)],⟨rfl,by decide,?_⟩,rfl⟩
  intro p hp
  simp only[List.zip_cons_cons,List.zip_nil_right,List.mem_cons,List.not_mem_nil,or_false] at hp
  rcases hp with rfl|rfl<;>rfl
 | some a=>
  have hjl:=(List.getElem?_eq_some_iff.1 hx).1
  have gi:=getA hx
  have aD:=hxD j a hjl hx
  have nA:=pure_R a.c.p
  have nB:=pure_R a.c.q
  have ihn:=ih (j+1) (by omega) (by omega)
  rw[←hTj,←hTn] at aD
  rw[←hTn] at ihn
  rw[←hTj]
  have pT:=pure_Tb Tj
  have pT':=pure_Tb Tn
  refine VLoop.unroll hE (mixedOf _) ?_
  repeat' (conv=>whnf);first
   | (refine bcase_of (fun hr=>?_) (fun hr=>?_)<;>(try simp only[bs] at hr)<;>try(exfalso;first|omega|(simp at hr;done)))
   | (apply And.intro;· first|exact pA|exact⟨by omega,by omega⟩|exact⟨rfl,by decide⟩|exact pF|exact pT|exact pT'|exact nA|exact nB|exact(fun e he=>nomatch he)|exact nd13)
   | (apply Exists.intro;apply And.intro;· first|exact rfl|exact gi)
   | (apply Exists.intro;apply Exists.intro;apply Exists.intro;apply And.intro;· first|(refine ATriple.callN (aD) ?_ ?_ ?_<;>rfl))
   | rw[hw]
   | fail
  all_goals (conv=>whnf)
  all_goals refine VLoop.norm [1,7,8,9] [16,24] ?_
  repeat' (conv=>whnf);first
   | (refine bcase_of (fun hr=>?_) (fun hr=>?_)<;>(try simp only[bs] at hr)<;>try(exfalso;first|omega|(simp at hr;done)))
   | (apply And.intro;· first|exact pA|exact⟨by omega,by omega⟩|exact⟨rfl,by decide⟩|exact pF|exact pT|exact pT'|exact nA|exact nB|exact(fun e he=>nomatch he)|exact nd13)
   | (apply Exists.intro;apply And.intro;· first|exact rfl|exact gi)
   | (apply Exists.intro;apply Exists.intro;apply Exists.intro;apply And.intro;· first|(refine ATriple.callN (aD) ?_ ?_ ?_<;>rfl))
   | rw[hw]
   | fail
  all_goals (conv=>whnf)
  all_goals exact ihn
end Go.Proofs.YtbppemcdphgknaaGreatDoor
namespace Go.Proofs.YtbppemcdphgknaaGreatDoor
open Go Go.Vm
theorem doT_len {m keep cap:Int} (Tb:Tab) (a:Act):(doT m keep cap Tb a).length≤Tb.length+1:=by
 have hs:∀(k:Int) (l:List En),(setT cap Tb k l).length≤Tb.length+1:=fun k l=>by
  unfold setT
  split
  ·split
   ·have:=List.length_filter_le (fun x:Int×List En=>x.1 != k) Tb
    unfold del;omega
   ·have:∀T:Tab,(ins T k l).length≤T.length+1:=fun T=>by
     induction T with
     | nil=>simp[ins]
     | cons a r ih=>
      simp only[ins]
      split
      ·simp;omega
      ·split<;>simp
    exact this Tb
  ·omega
 unfold doT tPut tUndo tPrune
 repeat' split
 all_goals first|exact hs _ _|omega|(simp only;omega)
theorem growT_len {m keep cap:Int} (l:List Act):(growT m keep cap l).length≤l.length:=by
 suffices h:∀(l:List Act) (T:Tab),(l.foldl (doT m keep cap) T).length≤T.length+l.length by simpa[growT] using h l []
 intro l
 induction l with
 | nil=>intro T;simp
 | cons a r ih=>
  intro T
  have h1:=ih (doT m keep cap T a)
  have h2:=doT_len (m:=m) (keep:=keep) (cap:=cap) T a
  simp only[List.foldl_cons,List.length_cons];omega
theorem atS_ok {m ver:Int} {l:List En} {c:En} (hl:∀e∈l,EnOk e) (h:atS m l ver=some c):EnOk c:=by
 have hm:c∈l:=by
  revert h
  unfold atS
  repeat' split
  all_goals intro hs
  all_goals first|(cases hs;exact List.mem_of_getElem? (by assumption))|cases hs
 exact hl c hm
end Go.Proofs.YtbppemcdphgknaaGreatDoor
namespace Go.Proofs.YtbppemcdphgknaaGreatDoor
open Go Go.Vm
end Go.Proofs.YtbppemcdphgknaaGreatDoor
namespace Go.Proofs.YtbppemcdphgknaaGreatDoor
open Go Go.Vm
def lo (ver:Int) (l:List En):List En:=l.filter fun e=>decide (e.v≤ver)
def hi (ver:Int) (l:List En):List En:=l.filter fun e=>decide (ver<e.v)
def cur (l:List En):Option En:=match l.getLast? with
 | none=>none
 | some e=>if is e.o then some e else none
theorem lo_append (v:Int) (a b:List En):lo v (a++b)=lo v a++lo v b:=List.filter_append ..
theorem hi_append (v:Int) (a b:List En):hi v (a++b)=hi v a++hi v b:=List.filter_append ..
theorem lo_all {v:Int} {l:List En} (h:∀e∈l,e.v≤v):lo v l=l:=List.filter_eq_self.2 fun e he=>by simpa using h e he
theorem hi_all {v:Int} {l:List En} (h:∀e∈l,v<e.v):hi v l=l:=List.filter_eq_self.2 fun e he=>by simpa using h e he
theorem lo_none {v:Int} {l:List En} (h:∀e∈l,v<e.v):lo v l=[]:=List.filter_eq_nil_iff.2 fun e he=>by simpa using h e he
theorem mem_lo {v:Int} {l:List En} {e:En}:e∈lo v l↔e∈l∧e.v≤v:=by simp[lo]
theorem mem_hi {v:Int} {l:List En} {e:En}:e∈hi v l↔e∈l∧v<e.v:=by simp[hi]
theorem cut_lo {ver:Int}:∀{l:List En},Rise l→l.take (cutN ver l)=lo ver l∧l.drop (cutN ver l)=hi ver l
 | [],_=>⟨rfl,rfl⟩
 | e::r,h=>by
  have h':=List.pairwise_cons.1 h
  obtain⟨i1,i2⟩:=cut_lo (ver:=ver) h'.2
  simp only[cutN]
  split
  ·rename_i hv
   refine⟨?_,?_⟩
   ·rw[List.take_succ_cons,i1]
    simp[lo,hv]
   ·rw[List.drop_succ_cons,i2]
    have:¬ver<e.v:=by omega
    simp[hi,this]
  ·rename_i hv
   have ha:∀x∈e::r,ver<x.v:=fun x hx=>by
    rcases List.mem_cons.1 hx with rfl|hx
    ·omega
    ·have:=h'.1 x hx;omega
   exact⟨by rw[lo_none ha];rfl,by rw[hi_all ha];rfl⟩
theorem lo_hi {ver:Int} {l:List En} (h:Rise l):lo ver l++hi ver l=l:=by
 rw[←(cut_lo h).1,←(cut_lo h).2,List.take_append_drop]
theorem cur_snoc (a:List En) (e:En):cur (a++[e])=if is e.o then some e else none:=by simp[cur]
theorem snoc_of {l:List En} (h:l≠[]):∃a e,l=a++[e]:=⟨l.dropLast,l.getLast h,(List.dropLast_concat_getLast h).symm⟩
theorem cur_append (a:List En) {b:List En} (h:b≠[]):cur (a++b)=cur b:=by
 obtain⟨x,e,rfl⟩:=snoc_of h
 rw[←List.append_assoc,cur_snoc,cur_snoc]
theorem cur_some {l:List En} {e:En} (h:cur l=some e):∃a,l=a++[e]∧is e.o=true:=by
 by_cases hl:l=[]
 ·subst hl;cases h
 ·obtain⟨a,x,rfl⟩:=snoc_of hl
  rw[cur_snoc] at h
  split at h
  ·rename_i hi
   obtain rfl:=Option.some.inj h
   exact⟨a,rfl,hi⟩
  ·cases h
theorem cur_toList (a:List En) (b:List En):cur ((cur a).toList++b)=cur (a++b):=by
 by_cases hb:b=[]
 ·subst hb
  rw[List.append_nil,List.append_nil]
  cases h:cur a with
  | none=>rfl
  | some e=>
   obtain⟨x,rfl,he⟩:=cur_some h
   show cur ([]++[e])=some e
   rw[cur_snoc,he];rfl
 ·rw[cur_append _ hb,cur_append _ hb]
theorem last_get (l:List En):l[l.length-1]?=l.getLast?:=by rw[List.getLast?_eq_getElem?]
theorem good_m {m:Int} {l:List En} (h:goodL m l=true):1≤m∧m≤2:=by
 simp only[goodL,Bool.and_eq_true,decide_eq_true_eq] at h
 exact h.1
theorem good_gch {m:Int} {l:List En} (h:goodL m l=true):gch m true 0 false l=true:=by
 simp only[goodL,Bool.and_eq_true,decide_eq_true_eq] at h
 exact h.2
theorem good_of {m:Int} {l:List En} (h:1≤m∧m≤2) (h':gch m true 0 false l=true):goodL m l=true:=by
 simp only[goodL,Bool.and_eq_true,decide_eq_true_eq]
 exact⟨h,h'⟩
def stepE (m:Int) (f:Bool) (v:Int) (p:Bool) (x:En):Bool:=decide (v<x.v)&&known x.o&&mayE m x&&(if f then decide (x.o≠3) else(was x.o==p))
theorem gch_cons (m:Int) (f:Bool) (v:Int) (p:Bool) (e:En) (r:List En):gch m f v p (e::r)=(stepE m f v p e&&gch m false e.v (is e.o) r):=rfl
theorem gch_append {m:Int}:∀(a:List En) (f:Bool) (v:Int) (p:Bool) (b:List En),gch m f v p (a++b)=(gch m f v p a&&match a.getLast? with
  | none=>gch m f v p b
  | some e=>gch m false e.v (is e.o) b)
 | [],f,v,p,b=>by simp[gch]
 | e::r,f,v,p,b=>by
  rw[List.cons_append,gch_cons,gch_cons,gch_append r,Bool.and_assoc]
  congr 1
  cases r with
  | nil=>simp[gch]
  | cons x r=>
   rw[List.getLast?_cons_cons]
   cases hq:(x::r).getLast? with
   | none=>simp at hq
   | some y=>rfl
theorem good_prefix {m:Int} {a b:List En} (h:goodL m (a++b)=true):goodL m a=true:=by
 have h2:=good_gch h
 rw[gch_append,Bool.and_eq_true] at h2
 exact good_of (good_m h) h2.1
theorem good_mid {m:Int} {a b:List En} {e:En} (h:goodL m (a++[e]++b)=true):gch m false e.v (is e.o) b=true:=by
 have h2:=good_gch h
 rw[gch_append,Bool.and_eq_true] at h2
 simpa using h2.2
theorem good_suffix {m:Int} {a r:List En} {x:En} (h:goodL m (a++x::r)=true) (hx:x.o≠3):goodL m (x::r)=true:=by
 by_cases ha:a=[]
 ·subst ha;exact h
 ·obtain⟨a',e,rfl⟩:=snoc_of ha
  have h1:=(good_rise h).2 x (by simp)
  have h2:=good_mid h
  refine good_of (good_m h) ?_
  rw[gch_cons,Bool.and_eq_true] at h2 ⊢
  refine⟨?_,h2.2⟩
  have h3:=h2.1
  simp only[stepE,Bool.and_eq_true,decide_eq_true_eq] at h3 ⊢
  exact⟨⟨⟨by omega,h3.1.1.2⟩,h3.1.2⟩,by simp[hx]⟩
theorem good_was {m:Int} {a r:List En} {e x:En} (h:goodL m (a++[e]++x::r)=true):was x.o=is e.o:=by
 have h2:=good_mid h
 rw[gch_cons,Bool.and_eq_true] at h2
 have h3:=h2.1
 simp only[stepE,Bool.and_eq_true,decide_eq_true_eq] at h3
 simpa using h3.2
theorem good_first {m:Int} {r:List En} {x:En} (h:goodL m (x::r)=true):x.o≠3:=by
 have h2:=good_gch h
 rw[gch_cons,Bool.and_eq_true] at h2
 have h3:=h2.1
 simp only[stepE,Bool.and_eq_true,decide_eq_true_eq] at h3
 simpa using h3.2
theorem gch_known {m:Int}:∀{l:List En} {f:Bool} {v:Int} {p:Bool},gch m f v p l=true→∀e∈l,known e.o=true
 | [],_,_,_,_,e,he=>by cases he
 | x::r,f,v,p,h,e,he=>by
  rw[gch_cons,Bool.and_eq_true] at h
  rcases List.mem_cons.1 he with rfl|he
  ·have h3:=h.1
   simp only[stepE,Bool.and_eq_true,decide_eq_true_eq] at h3
   exact h3.1.1.2
  ·exact gch_known h.2 e he
theorem known_cases {o:Int} (h:known o=true):o=1∨o=2∨o=3:=by simpa[known] using h
theorem good_known {m:Int} {l:List En} (h:goodL m l=true) {e:En} (he:e∈l):e.o=1∨e.o=2∨e.o=3:=known_cases (gch_known (good_gch h) e he)
theorem good_nil {m:Int} (h:1≤m∧m≤2):goodL m []=true:=good_of h rfl
theorem at_eq {m:Int} {l:List En} (h:goodL m l=true) (ver:Int):atS m l ver=cur (lo ver l):=by
 have hr:=(good_rise h).1
 rw[←(cut_lo hr).1]
 unfold atS
 rw[h]
 have hle:=cut_le ver l
 cases hk:cutN ver l with
 | zero=>rfl
 | succ k=>
  rw[hk] at hle
  have hg:l[k]?=some l[k]:=List.getElem?_eq_getElem (by omega)
  have ht:l.take (k+1)=l.take k++[l[k]]:=by rw[List.take_add_one,hg];rfl
  simp only[hg]
  rw[ht,cur_snoc]
  cases is l[k].o<;>rfl
theorem prune_eq {m:Int} {l:List En} (h:goodL m l=true) (floor:Int):pruneS m l floor=(cur (lo floor l)).toList++hi floor l:=by
 have hr:=(good_rise h).1
 rw[←(cut_lo hr).1,←(cut_lo hr).2]
 unfold pruneS
 rw[h]
 have hle:=cut_le floor l
 cases hk:cutN floor l with
 | zero=>rfl
 | succ k=>
  rw[hk] at hle
  have hg:l[k]?=some l[k]:=List.getElem?_eq_getElem (by omega)
  have ht:l.take (k+1)=l.take k++[l[k]]:=by rw[List.take_add_one,hg];rfl
  simp only[hg]
  rw[ht,cur_snoc]
  have hd:l.drop k=l[k]::l.drop (k+1):=List.drop_eq_getElem_cons (by omega)
  rcases good_known h (List.getElem_mem (by omega:k<l.length)) with ho|ho|ho
  ·rw[if_neg (by omega),hd];simp[ho,is]
  ·rw[if_neg (by omega),hd];simp[ho,is]
  ·rw[if_pos ho];simp[ho,is]
theorem good_prune {m:Int} {l:List En} (h:goodL m l=true) (floor:Int):goodL m (pruneS m l floor)=true:=by
 rw[prune_eq h]
 have hr:=(good_rise h).1
 have hs:=lo_hi (ver:=floor) hr
 cases hc:cur (lo floor l) with
 | some e=>
  obtain⟨a,ha,he⟩:=cur_some hc
  rw[ha,List.append_assoc] at hs
  rw[←hs] at h
  refine good_suffix h fun h3=>?_
  rw[h3] at he;cases he
 | none=>
  show goodL m (hi floor l)=true
  by_cases hl:lo floor l=[]
  ·rw[hl,List.nil_append] at hs;rw[hs];exact h
  ·obtain⟨a,e,ha⟩:=snoc_of hl
   rw[ha] at hs hc
   cases hh:hi floor l with
   | nil=>exact good_nil (good_m h)
   | cons x r=>
    rw[hh] at hs
    rw[←hs] at h
    have hw:=good_was h
    rw[cur_snoc] at hc
    have hn:is e.o=false:=by
     cases hi:is e.o with
     | false=>rfl
     | true=>rw[hi] at hc;cases hc
    rw[hn] at hw
    refine good_suffix h fun h3=>?_
    rw[h3] at hw;cases hw
theorem lo_lo {a b:Int} (h:a≤b) (l:List En):lo b (lo a l)=lo a l:=lo_all fun e he=>by have:=(mem_lo.1 he).2;omega
theorem mem_cur {l:List En} {e:En} (h:e∈(cur l).toList):e∈l∧is e.o=true:=by
 cases hc:cur l with
 | none=>rw[hc] at h;cases h
 | some x=>
  rw[hc] at h
  obtain rfl:e=x:=by simpa using h
  obtain⟨a,rfl,he⟩:=cur_some hc
  exact⟨by simp,he⟩
theorem at_prune {m:Int} {l:List En} (h:goodL m l=true) {floor at_:Int} (hf:floor≤at_):atS m (pruneS m l floor) at_=atS m l at_:=by
 rw[at_eq (good_prune h floor),at_eq h,prune_eq h,lo_append]
 have h1:lo at_ (cur (lo floor l)).toList=(cur (lo floor l)).toList:=lo_all fun e he=>by
  have:=(mem_lo.1 (mem_cur he).1).2;omega
 rw[h1,cur_toList]
 congr 1
 have hs:=lo_hi (ver:=floor) (good_rise h).1
 conv=>rhs;rw[←hs,lo_append]
 rw[lo_lo hf]
end Go.Proofs.YtbppemcdphgknaaGreatDoor
namespace Go.Proofs.YtbppemcdphgknaaGreatDoor
open Go Go.Vm
def lt (ver:Int) (l:List En):List En:=l.filter fun e=>decide (e.v<ver)
theorem lt_all {v:Int} {l:List En} (h:∀e∈l,e.v<v):lt v l=l:=List.filter_eq_self.2 fun e he=>by simpa using h e he
theorem lt_append (v:Int) (a b:List En):lt v (a++b)=lt v a++lt v b:=List.filter_append ..
theorem mem_lt {v:Int} {l:List En} {e:En}:e∈lt v l↔e∈l∧e.v<v:=by simp[lt]
theorem lo_lt {a v:Int} (h:a<v) (l:List En):lo a (lt v l)=lo a l:=by
 unfold lo lt
 rw[List.filter_filter]
 congr 1
 funext e
 rw[Bool.eq_iff_iff]
 simp
 omega
theorem rise_last {a:List En} {e:En} (h:Rise (a++[e])):∀x∈a,x.v<e.v:=fun x hx=>(List.pairwise_append.1 h).2.2 x hx e (by simp)
theorem lastLe_snoc (a:List En) (e:En) (ver:Int):lastLe (a++[e]) ver=decide (e.v≤ver):=by
 unfold lastLe
 rw[last_get]
 simp
theorem lastLe_all {l:List En} {ver:Int} (hr:Rise l) (h:lastLe l ver=true):∀e∈l,e.v≤ver:=by
 by_cases hl:l=[]
 ·subst hl;intro e he;cases he
 ·obtain⟨a,x,rfl⟩:=snoc_of hl
  rw[lastLe_snoc,decide_eq_true_eq] at h
  intro e he
  rcases List.mem_append.1 he with he|he
  ·have:=rise_last hr e he;omega
  ·rw[List.mem_singleton.1 he];exact h
theorem good_one {m:Int} {x:En} (hm:1≤m∧m≤2) (h1:0<x.v) (h2:known x.o=true) (h3:mayE m x=true) (h4:x.o≠3):goodL m [x]=true:=by
 refine good_of hm ?_
 rw[gch_cons,Bool.and_eq_true]
 refine⟨?_,rfl⟩
 simp only[stepE,Bool.and_eq_true,decide_eq_true_eq]
 exact⟨⟨⟨h1,h2⟩,h3⟩,by simp[h4]⟩
theorem good_snoc {m:Int} {a:List En} {e x:En} (h:goodL m (a++[e])=true) (h1:e.v<x.v) (h2:known x.o=true) (h3:mayE m x=true) (h4:was x.o=is e.o):goodL m (a++[e]++[x])=true:=by
 refine good_of (good_m h) ?_
 rw[gch_append,Bool.and_eq_true]
 refine⟨good_gch h,?_⟩
 simp only[List.getLast?_append,List.getLast?_singleton,Option.some_or]
 rw[gch_cons,Bool.and_eq_true]
 refine⟨?_,rfl⟩
 simp only[stepE,Bool.and_eq_true,decide_eq_true_eq]
 exact⟨⟨⟨h1,h2⟩,h3⟩,by simp[h4]⟩
theorem mayE_new {m ver op:Int} {c:En} {i:Bool} (h:mayC m i c.n c.a c.b c.p c.q=true) (hi:is op=i):mayE m (newE ver op c)=true:=by
 show mayC m (is op) c.n c.a c.b c.p c.q=true
 rw[hi];exact h
theorem putS_snoc (a:List En) (e:En) (ver:Int) (c:En) (i:Bool):putS (a++[e]) ver c i=if e.v=ver then
   (if(thenV e.o (ofV (is e.o) i)).1=0∨((thenV e.o (ofV (is e.o) i)).1=3∧a=[]) then a else a++[newE ver (thenV e.o (ofV (is e.o) i)).1 c])
  else(if ofV (is e.o) i=0 then a++[e] else a++[e]++[newE ver (ofV (is e.o) i) c]):=by
 unfold putS
 rw[last_get]
 simp
theorem putS_form {m:Int} {l:List En} {ver:Int} {c:En} {i:Bool} (h:goodL m l=true) (hle:lastLe l ver=true) (hv:1≤ver) (hc:mayC m i c.n c.a c.b c.p c.q=true) :
  goodL m (putS l ver c i)=true∧((∃op,putS l ver c i=lt ver l++[newE ver op c]∧is op=i)∨(putS l ver c i=lt ver l∧i=false∧cur (lt ver l)=none)):=by
 have hm:=good_m h
 by_cases hl:l=[]
 ·subst hl
  cases i with
  | true=>exact⟨good_one hm (show 0<ver by omega) rfl (mayE_new hc rfl) (by show(1:Int)≠3;omega),.inl ⟨1,rfl,rfl⟩⟩
  | false=>exact⟨good_nil hm,.inr ⟨rfl,rfl,rfl⟩⟩
 ·obtain⟨a,e,rfl⟩:=snoc_of hl
  have hr:=(good_rise h).1
  have hra:=rise_last hr
  rw[lastLe_snoc,decide_eq_true_eq] at hle
  rw[putS_snoc]
  have hga:=good_prefix h
  by_cases hev:e.v=ver
  ·have hp:lt ver (a++[e])=a:=by
    rw[lt_append,lt_all (l:=a) fun x hx=>by have:=hra x hx;omega]
    simp[lt,hev]
   rw[if_pos hev,hp]
   have key:∀op:Int,known op=true→is op=i→was op=was e.o→(a=[]→op≠3)→goodL m (a++[newE ver op c])=true:=fun op h1 h2 h3 h4=>by
    by_cases ha:a=[]
    ·subst ha
     exact good_one hm (show 0<ver by omega) h1 (mayE_new hc h2) (h4 rfl)
    ·obtain⟨b,y,rfl⟩:=snoc_of ha
     exact good_snoc hga (show y.v<ver by have:=hra y (by simp);omega) h1 (mayE_new hc h2) (show was op=is y.o by rw[h3];exact good_was h)
   have hcur:was e.o=false→cur a=none:=fun hw=>by
    by_cases ha:a=[]
    ·subst ha;rfl
    ·obtain⟨b,y,rfl⟩:=snoc_of ha
     rw[cur_snoc,if_neg]
     rw[←good_was h,hw];simp
   have hfst:a=[]→e.o≠3:=fun ha=>by subst ha;exact good_first h
   rcases good_known h (by simp:e∈a++[e]) with ho|ho|ho
   ·cases i with
    | true=>
     have e1:(thenV e.o (ofV (is e.o) true)).1=1:=by rw[ho];rfl
     rw[e1,if_neg (by omega)]
     exact⟨key 1 rfl rfl (by rw[ho]) (fun _=>by omega),.inl ⟨1,rfl,rfl⟩⟩
    | false=>
     have e1:(thenV e.o (ofV (is e.o) false)).1=0:=by rw[ho];rfl
     rw[e1,if_pos (.inl rfl)]
     exact⟨hga,.inr ⟨rfl,rfl,hcur (by rw[ho];rfl)⟩⟩
   ·cases i with
    | true=>
     have e1:(thenV e.o (ofV (is e.o) true)).1=2:=by rw[ho];rfl
     rw[e1,if_neg (by omega)]
     exact⟨key 2 rfl rfl (by rw[ho]) (fun _=>by omega),.inl ⟨2,rfl,rfl⟩⟩
    | false=>
     have e1:(thenV e.o (ofV (is e.o) false)).1=3:=by rw[ho];rfl
     rw[e1]
     by_cases ha:a=[]
     ·rw[if_pos (.inr ⟨rfl,ha⟩)]
      exact⟨hga,.inr ⟨rfl,rfl,by rw[ha];rfl⟩⟩
     ·rw[if_neg (by rintro(h0|⟨_,h0⟩)<;>first|omega|exact ha h0)]
      exact⟨key 3 rfl rfl (by rw[ho];rfl) (fun h0=>absurd h0 ha),.inl ⟨3,rfl,rfl⟩⟩
   ·have ha:a≠[]:=fun ha=>hfst ha ho
    cases i with
    | true=>
     have e1:(thenV e.o (ofV (is e.o) true)).1=2:=by rw[ho];rfl
     rw[e1,if_neg (by omega)]
     exact⟨key 2 rfl rfl (by rw[ho];rfl) (fun h0=>absurd h0 ha),.inl ⟨2,rfl,rfl⟩⟩
    | false=>
     have e1:(thenV e.o (ofV (is e.o) false)).1=3:=by rw[ho];rfl
     rw[e1,if_neg (by rintro(h0|⟨_,h0⟩)<;>first|omega|exact ha h0)]
     exact⟨key 3 rfl rfl (by rw[ho]) (fun h0=>absurd h0 ha),.inl ⟨3,rfl,rfl⟩⟩
  ·have hp:lt ver (a++[e])=a++[e]:=lt_all fun x hx=>by
    rcases List.mem_append.1 hx with hx|hx
    ·have:=hra x hx;omega
    ·rw[List.mem_singleton.1 hx];omega
   rw[if_neg hev,hp]
   have key:∀op:Int,known op=true→is op=i→was op=is e.o→goodL m (a++[e]++[newE ver op c])=true:=fun op h1 h2 h3=>
    good_snoc h (show e.v<ver by omega) h1 (mayE_new hc h2) h3
   cases hi:is e.o with
   | true=>
    cases i with
    | true=>
     have e1:ofV true true=2:=rfl
     rw[e1,if_neg (by omega)]
     exact⟨key 2 rfl rfl (by rw[hi];rfl),.inl ⟨2,rfl,rfl⟩⟩
    | false=>
     have e1:ofV true false=3:=rfl
     rw[e1,if_neg (by omega)]
     exact⟨key 3 rfl rfl (by rw[hi];rfl),.inl ⟨3,rfl,rfl⟩⟩
   | false=>
    cases i with
    | true=>
     have e1:ofV false true=1:=rfl
     rw[e1,if_neg (by omega)]
     exact⟨key 1 rfl rfl (by rw[hi];rfl),.inl ⟨1,rfl,rfl⟩⟩
    | false=>
     have e1:ofV false false=0:=rfl
     rw[e1,if_pos rfl]
     exact⟨h,.inr ⟨rfl,rfl,by rw[cur_snoc,hi];rfl⟩⟩
theorem okP_iff {m keep:Int} {l:List En} {ver:Int} {c:En} {i:Bool}:okP m keep l ver c i=true↔goodL m l=true∧2≤keep∧keep≤8∧1≤ver∧lastLe l ver=true∧mayC m i c.n c.a c.b c.p c.q=true:=by
 simp[okP,and_assoc]
theorem putA_so {m keep:Int} {l:List En} {ver:Int} {c:En} {i:Bool} {floor:Int} {l':List En} (h:putA m keep l ver c i floor=some l') :
  okP m keep l ver c i=true∧l'=afterP m keep floor (putS l ver c i)∧(l'.length:Int)≤keep+1:=by
 unfold putA at h
 cases ho:okP m keep l ver c i with
 | false=>rw[ho] at h;cases h
 | true=>
  rw[ho] at h
  simp only at h
  split at h
  ·cases h
  ·rename_i hn
   obtain rfl:=Option.some.inj h
   exact⟨rfl,rfl,by omega⟩
theorem good_after {m keep floor:Int} {out:List En} (h:goodL m out=true):goodL m (afterP m keep floor out)=true:=by
 unfold afterP
 split
 ·exact good_prune h floor
 ·exact h
theorem put_good {m keep:Int} {l:List En} {ver:Int} {c:En} {i:Bool} {floor:Int} {l':List En} (h:putA m keep l ver c i floor=some l'):goodL m l'=true:=by
 obtain⟨h1,rfl,_⟩:=putA_so h
 obtain⟨g1,_,_,g4,g5,g6⟩:=okP_iff.1 h1
 exact good_after (putS_form g1 g5 g4 g6).1
theorem putS_le {m:Int} {l:List En} {ver:Int} {c:En} {i:Bool} (h:goodL m l=true) (hle:lastLe l ver=true) (hv:1≤ver) (hc:mayC m i c.n c.a c.b c.p c.q=true):∀e∈putS l ver c i,e.v≤ver:=fun e he=>by
 rcases(putS_form h hle hv hc).2 with⟨op,h1,_⟩|⟨h1,_⟩
 ·rw[h1] at he
  rcases List.mem_append.1 he with he|he
  ·have:=(mem_lt.1 he).2;omega
  ·rw[List.mem_singleton.1 he];exact Int.le_refl _
 ·rw[h1] at he
  have:=(mem_lt.1 he).2;omega
theorem cur_putS {m:Int} {l:List En} {ver:Int} {c:En} {i:Bool} (h:goodL m l=true) (hle:lastLe l ver=true) (hv:1≤ver) (hc:mayC m i c.n c.a c.b c.p c.q=true) :
  (i=true→∃op,cur (putS l ver c i)=some (newE ver op c))∧(i=false→cur (putS l ver c i)=none):=by
 rcases(putS_form h hle hv hc).2 with⟨op,h1,h2⟩|⟨h1,h2,h3⟩
 ·rw[h1,cur_snoc]
  exact⟨fun hi=>⟨op,by rw[if_pos (by show is op=true;rw[h2,hi])]⟩,fun hi=>by rw[if_neg (by show ¬is op=true;rw[h2,hi];simp)]⟩
 ·rw[h1]
  exact⟨fun hi=>(by rw[hi] at h2;cases h2),fun _=>h3⟩
theorem after_cur {m keep floor:Int} {out:List En} (h:goodL m out=true):cur (afterP m keep floor out)=cur out:=by
 unfold afterP
 split
 ·rw[prune_eq h,cur_toList,lo_hi (good_rise h).1]
 ·rfl
theorem after_mem {m keep floor:Int} {out:List En} (h:goodL m out=true) {e:En} (he:e∈afterP m keep floor out):e∈out:=by
 unfold afterP at he
 split at he
 ·rw[prune_eq h] at he
  rcases List.mem_append.1 he with he|he
  ·exact(mem_lo.1 (mem_cur he).1).1
  ·exact(mem_hi.1 he).1
 ·exact he
theorem put_there {m keep:Int} {l:List En} {ver:Int} {c:En} {i:Bool} {floor:Int} {l':List En} (h:putA m keep l ver c i floor=some l') {at_:Int} (ha:ver≤at_) :
  (i=true→∃op,atS m l' at_=some (newE ver op c))∧(i=false→atS m l' at_=none):=by
 have hg:=put_good h
 obtain⟨h1,rfl,_⟩:=putA_so h
 obtain⟨g1,_,_,g4,g5,g6⟩:=okP_iff.1 h1
 have hS:=(putS_form g1 g5 g4 g6).1
 rw[at_eq hg,lo_all fun e he=>by have:=putS_le g1 g5 g4 g6 e (after_mem hS he);omega,after_cur hS]
 exact cur_putS g1 g5 g4 g6
theorem at_after {m keep floor:Int} {out:List En} (h:goodL m out=true) {at_:Int} (hf:floor≤at_):atS m (afterP m keep floor out) at_=atS m out at_:=by
 unfold afterP
 split
 ·exact at_prune h hf
 ·rfl
theorem put_ahead {m keep:Int} {l:List En} {ver:Int} {c:En} {i:Bool} {floor:Int} {l':List En} (h:putA m keep l ver c i floor=some l') {at_:Int} (ha:at_<ver) (hf:floor≤at_):atS m l' at_=atS m l at_:=by
 obtain⟨h1,rfl,_⟩:=putA_so h
 obtain⟨g1,_,_,g4,g5,g6⟩:=okP_iff.1 h1
 obtain⟨hS,hF⟩:=putS_form g1 g5 g4 g6
 rw[at_after hS hf,at_eq hS,at_eq g1]
 rcases hF with⟨op,e1,_⟩|⟨e1,_⟩
 ·rw[e1,lo_append,lo_lt ha,lo_none (l:=[newE ver op c]) fun e he=>by rw[List.mem_singleton.1 he];exact ha,List.append_nil]
 ·rw[e1,lo_lt ha]
end Go.Proofs.YtbppemcdphgknaaGreatDoor
namespace Go.Proofs.YtbppemcdphgknaaGreatDoor
open Go Go.Vm
theorem lastLe_of {l:List En} {ver:Int} (h:∀e∈l,e.v≤ver):lastLe l ver=true:=by
 by_cases hl:l=[]
 ·subst hl;rfl
 ·obtain⟨a,x,rfl⟩:=snoc_of hl
  rw[lastLe_snoc,decide_eq_true_eq]
  exact h x (by simp)
theorem undo_eq {m:Int} {l:List En} {ver:Int} (h:goodL m l=true) (hle:lastLe l ver=true):undoS m l ver=lt ver l:=by
 have hr:=(good_rise h).1
 have hall:=lastLe_all hr hle
 unfold undoS
 rw[h]
 simp only
 rw[last_get]
 by_cases hl:l=[]
 ·subst hl;rfl
 ·obtain⟨a,e,rfl⟩:=snoc_of hl
  have hra:=rise_last hr
  simp only[List.getLast?_append,List.getLast?_singleton,Option.some_or]
  split
  ·rename_i hv
   rw[lt_append,lt_all (l:=a) fun x hx=>by have:=hra x hx;omega]
   simp[lt,hv]
  ·rename_i hv
   refine(lt_all fun x hx=>?_).symm
   have:=hall e (by simp)
   rcases List.mem_append.1 hx with hx|hx
   ·have:=hra x hx;omega
   ·rw[List.mem_singleton.1 hx];omega
theorem undo_zero {m:Int} {l:List En} (h:goodL m l=true):undoS m l 0=l:=by
 have hp:=(good_rise h).2
 unfold undoS
 rw[h]
 simp only
 rw[last_get]
 by_cases hl:l=[]
 ·subst hl;rfl
 ·obtain⟨a,e,rfl⟩:=snoc_of hl
  have:=hp e (by simp)
  simp only[List.getLast?_append,List.getLast?_singleton,Option.some_or]
  rw[if_neg (by omega)]
theorem good_undo {m:Int} {l:List En} {ver:Int} (h:goodL m l=true):goodL m (undoS m l ver)=true:=by
 unfold undoS
 rw[h]
 simp only
 split
 ·exact h
 ·split
  ·refine good_prefix (b:=l.drop (l.length-1)) ?_
   rw[List.take_append_drop];exact h
  ·exact h
theorem own_lt {m:Int} {l:List En} {ver:Int} (h:goodL m l=true) (hle:lastLe l ver=true) (hne:∀e,l[l.length-1]?=some e→e.v≠ver):∀e∈l,e.v<ver:=by
 have hr:=(good_rise h).1
 have hall:=lastLe_all hr hle
 by_cases hl:l=[]
 ·subst hl;intro e he;cases he
 ·obtain⟨a,x,rfl⟩:=snoc_of hl
  have h1:=hne x (by rw[last_get];simp)
  have h2:=hall x (by simp)
  intro e he
  rcases List.mem_append.1 he with he|he
  ·have:=rise_last hr e he;omega
  ·rw[List.mem_singleton.1 he];omega
theorem put_undo {m keep:Int} {l:List En} {ver:Int} {c:En} {i:Bool} {floor:Int} {l':List En} (h:putA m keep l ver c i floor=some l') (hf:floor<ver) (hown:∀e∈l,e.v<ver) :
  (undoS m l' ver=l∨(undoS m l' ver=pruneS m l floor∧keep<(l.length:Int)))∧undoS m (undoS m l' ver) ver=undoS m l' ver∧undoS m l' 0=l':=by
 have hg:=put_good h
 obtain⟨h1,hl',_⟩:=putA_so h
 obtain⟨g1,_,_,g4,g5,g6⟩:=okP_iff.1 h1
 obtain⟨hS,hF⟩:=putS_form g1 g5 g4 g6
 have hSle:=putS_le g1 g5 g4 g6
 have hle':lastLe l' ver=true:=lastLe_of fun e he=>hSle e (after_mem hS (by rw[←hl'];exact he))
 have hlt:lt ver l=l:=lt_all hown
 have hlS:=putS_len l ver c i
 have e1:undoS m l' ver=lt ver l':=undo_eq hg hle'
 have hgu:=good_undo (ver:=ver) hg
 refine⟨?_,?_,undo_zero hg⟩
 ·rw[e1,hl']
  unfold afterP
  split
  ·rename_i hk
   refine .inr ⟨?_,by omega⟩
   rw[prune_eq hS,prune_eq g1,lt_append]
   have k1:lo floor (putS l ver c i)=lo floor l:=by
    rcases hF with⟨op,e1,_⟩|⟨e1,_⟩
    ·rw[e1,hlt,lo_append,lo_none (l:=[newE ver op c]) fun e he=>by rw[List.mem_singleton.1 he];exact hf,List.append_nil]
    ·rw[e1,hlt]
   have k2:lt ver (hi floor (putS l ver c i))=hi floor l:=by
    have k3:lt ver (hi floor l)=hi floor l:=lt_all fun e he=>hown e (mem_hi.1 he).1
    rcases hF with⟨op,e1,_⟩|⟨e1,_⟩
    ·rw[e1,hlt,hi_append,lt_append,k3]
     have:lt ver (hi floor [newE ver op c])=[]:=List.filter_eq_nil_iff.2 fun e he=>by
      rw[List.mem_singleton.1 (mem_hi.1 he).1]
      show ¬decide (ver<ver)=true
      simp
     rw[this,List.append_nil]
    ·rw[e1,hlt,k3]
   rw[k1,k2,lt_all fun e he=>hown e (mem_lo.1 (mem_cur he).1).1]
  ·refine .inl ?_
   rcases hF with⟨op,e1,_⟩|⟨e1,_⟩
   ·rw[e1,hlt,lt_append,hlt]
    have:lt ver [newE ver op c]=[]:=List.filter_eq_nil_iff.2 fun e he=>by
     rw[List.mem_singleton.1 he]
     show ¬decide (ver<ver)=true
     simp
    rw[this,List.append_nil]
   ·rw[e1,hlt,hlt]
 ·have h2:∀e∈undoS m l' ver,e.v<ver:=fun e he=>by rw[e1] at he;exact(mem_lt.1 he).2
  rw[undo_eq hgu (lastLe_of fun e he=>by have:=h2 e he;omega),lt_all h2]
theorem at_undo {m keep:Int} {l:List En} {ver:Int} {c:En} {i:Bool} {floor:Int} {l':List En} (h:putA m keep l ver c i floor=some l') (hf:floor<ver) (hown:∀e∈l,e.v<ver) {y:Int} (hy:floor≤y) :
  atS m (undoS m l' ver) y=atS m l y:=by
 have g1:=(okP_iff.1 (putA_so h).1).1
 rcases(put_undo h hf hown).1 with e|⟨e,_⟩
 ·rw[e]
 ·rw[e,at_prune g1 hy]
end Go.Proofs.YtbppemcdphgknaaGreatDoor
namespace Go.Proofs.YtbppemcdphgknaaGreatDoor
open Go Go.Vm
theorem atS_nil (m y:Int):atS m [] y=none:=by
 unfold atS;cases goodL m []<;>rfl
theorem cut_below {a b:Int}:∀{l:List En},(∀e∈l,(e.v≤a↔e.v≤b))→cutN a l=cutN b l
 | [],_=>rfl
 | e::r,h=>by
  have h1:=h e (by simp)
  have h2:=cut_below (l:=r) fun x hx=>h x (by simp[hx])
  simp only[cutN,h2,h1]
theorem at_below {m a b:Int} {l:List En} (h:∀e∈l,(e.v≤a↔e.v≤b)):atS m l a=atS m l b:=by
 unfold atS;rw[cut_below h]
theorem chT_get {Tb:Tab} {k:Int} {l:List En} (h:get Tb k=some l):chT Tb k=l:=by unfold chT;rw[h];rfl
theorem chT_none {Tb:Tab} {k:Int} (h:get Tb k=none):chT Tb k=[]:=by unfold chT;rw[h];rfl
theorem scan_cons (m y:Int) (f:Int×List En) (Tb:Tab):scanT m (f::Tb) y=((atS m f.2 y).map fun c=>(f.1,c)).toList++scanT m Tb y:=by
 unfold scanT
 rw[List.filterMap_cons]
 cases atS m f.2 y<;>rfl
theorem scan_below {m a b:Int} {Tb:Tab} (h:∀f∈Tb,∀e∈f.2,(e.v≤a↔e.v≤b)):scanT m Tb a=scanT m Tb b:=by
 induction Tb with
 | nil=>rfl
 | cons f r ih=>rw[scan_cons,scan_cons,ih fun g hg=>h g (by simp[hg]),at_below (h f (by simp))]
theorem scan_ins {m y:Int}:∀{Tb:Tab} {k:Int} {l:List En},Sr Tb→atS m l y=atS m (chT Tb k) y→scanT m (ins Tb k l) y=scanT m Tb y
 | [],k,l,_,h=>by
  have:atS m l y=none:=by rw[h];exact atS_nil m y
  simp only[ins,scan_cons,this];rfl
 | f::r,k,l,hs,h=>by
  have hr:=List.pairwise_cons.1 hs
  simp only[ins]
  split
  ·rename_i hlt
   rw[scan_cons,scan_cons]
   have:chT (f::r) k=chT r k:=by
    unfold chT
    simp only[get]
    rw[if_neg (by omega)]
   rw[this] at h
   rw[scan_ins hr.2 h]
  ·split
   ·rename_i h1 h2
    rw[scan_cons,scan_cons]
    have:chT (f::r) k=f.2:=by
     unfold chT
     simp only[get]
     rw[if_pos h2];rfl
    rw[this] at h
    simp only[h,h2]
   ·rename_i h1 h2
    rw[scan_cons (f:=(k,l))]
    have:get (f::r) k=none:=by
     cases hg:get (f::r) k with
     | none=>rfl
     | some u=>
      have:=get_mem hg
      rcases List.mem_cons.1 this with e|e
      ·rw[←e] at h2;exact absurd rfl h2
      ·have:=hr.1 _ e
       simp only at this;omega
    rw[chT_none this,atS_nil] at h
    simp only[h];rfl
theorem scan_del {m y:Int} {Tb:Tab} {k:Int} (hs:Sr Tb) (h:atS m (chT Tb k) y=none):scanT m (del Tb k) y=scanT m Tb y:=by
 have key:∀(A:Tab),(∀f∈A,f.1=k→atS m f.2 y=none)→scanT m (del A k) y=scanT m A y:=fun A=>by
  induction A with
  | nil=>intro _;rfl
  | cons f r ih=>
   intro hA
   have ih2:=ih fun g hg=>hA g (by simp[hg])
   have h1:=hA f (by simp)
   unfold del at ih2 ⊢
   rw[scan_cons]
   rw[List.filter_cons]
   by_cases hk:f.1=k
   ·rw[if_neg (by simp[hk]),ih2,h1 hk];rfl
   ·rw[if_pos (by simp[hk]),scan_cons,ih2]
 refine key Tb fun f hf hk=>?_
 rw[←h]
 have:=mem_get hs (show(f.1,f.2)∈Tb from hf)
 rw[hk] at this
 rw[chT_get this]
theorem scan_set {m cap y:Int} {Tb:Tab} {k:Int} {l:List En} (hs:Sr Tb) (h:atS m l y=atS m (chT Tb k) y):scanT m (setT cap Tb k l) y=scanT m Tb y:=by
 unfold setT
 split
 ·split
  ·rename_i he
   refine scan_del hs ?_
   rw[←h,List.isEmpty_iff.1 he,atS_nil]
  ·exact scan_ins hs h
 ·rfl
theorem set_set {cap:Int} {Tb:Tab} {k:Int} {l l2:List En} (hs:Sr Tb) (h:okT cap Tb k l=true) (hne:l≠[]):setT cap (setT cap Tb k l) k l2=if l2.isEmpty then del (ins Tb k l) k else ins (ins Tb k l) k l2:=by
 have e:setT cap Tb k l=ins Tb k l:=by
  unfold setT
  rw[if_pos h,if_neg (by simpa[List.isEmpty_iff] using hne)]
 rw[e]
 have:okT cap (ins Tb k l) k l2=true:=by unfold okT;rw[get_ins,if_pos rfl];simp
 unfold setT
 rw[if_pos this]
theorem scan_ins2 {m y:Int}:∀{Tb:Tab} {k:Int} {l l2:List En},Sr Tb→atS m l2 y=atS m (chT Tb k) y→scanT m (if l2.isEmpty then del (ins Tb k l) k else ins (ins Tb k l) k l2) y=scanT m Tb y:=fun {Tb k l l2} hs h=>by
 have hd:del (ins Tb k l) k=del Tb k:=by
  clear h hs
  induction Tb with
  | nil=>simp[ins,del]
  | cons f r ih=>
   simp only[ins]
   unfold del at ih ⊢
   split
   ·rw[List.filter_cons,List.filter_cons,ih]
   ·split
    ·rename_i h2
     rw[List.filter_cons,List.filter_cons,if_neg (by simp),if_neg (by simp[h2])]
    ·rw[List.filter_cons,if_neg (by simp)]
 have hi:ins (ins Tb k l) k l2=ins Tb k l2:=by
  clear h hs hd
  induction Tb with
  | nil=>simp[ins]
  | cons f r ih=>
   simp only[ins]
   split
   ·rename_i h1
    simp only[ins,if_pos h1,ih]
   ·split
    ·simp[ins]
    ·simp[ins]
 split
 ·rename_i he
  rw[hd]
  refine scan_del hs ?_
  rw[←h,List.isEmpty_iff.1 he,atS_nil]
 ·rw[hi]
  exact scan_ins hs h
theorem ch_set {cap:Int} {Tb:Tab} {k:Int} {l:List En} (h:okT cap Tb k l=true):chT (setT cap Tb k l) k=l:=by
 unfold setT
 rw[if_pos h]
 split
 ·rename_i he
  unfold chT
  rw[get_del,if_pos rfl,List.isEmpty_iff.1 he];rfl
 ·unfold chT
  rw[get_ins,if_pos rfl];rfl
theorem srt_set {cap:Int} {Tb:Tab} {k:Int} {l:List En} (hs:Sr Tb):Sr (setT cap Tb k l):=by
 unfold setT
 split
 ·split
  ·exact hs.del k
  ·exact hs.ins k l
 ·exact hs
theorem lastV_no {l:List En} {ver:Int} (h:∀e∈l,e.v<ver):lastV l ver=false:=by
 unfold lastV
 cases hx:l[l.length-1]? with
 | none=>rfl
 | some e=>
  have:=h e (List.mem_of_getElem? hx)
  exact decide_eq_false (by omega)
theorem ch_all {Tb:Tab} {k:Int} {P:En→Prop} (h:∀f∈Tb,∀e∈f.2,P e):∀e∈chT Tb k,P e:=by
 cases hg:get Tb k with
 | none=>rw[chT_none hg];intro e he;cases he
 | some l=>rw[chT_get hg];exact h _ (get_mem hg)
section
variable {m keep cap:Int} {Tb:Tab} {k ver floor:Int} {c:En} {b:Bool}
theorem reads_put (hs:Sr Tb) (hv:∀f∈Tb,∀e∈f.2,e.v<ver) :
  ((tPut m keep cap Tb k ver c b floor).1=0→(b=true→∃op,atS m (chT (tPut m keep cap Tb k ver c b floor).2 k) ver=some (newE ver op c))∧(b=false→atS m (chT (tPut m keep cap Tb k ver c b floor).2 k) ver=none))∧
  (∀y,floor≤y→y<ver→scanT m (tPut m keep cap Tb k ver c b floor).2 y=scanT m Tb y):=by
 unfold tPut
 cases hp:putA m keep (chT Tb k) ver c b floor with
 | none=>exact⟨fun h=>(by cases h),fun y _ _=>rfl⟩
 | some l=>
  dsimp only
  refine⟨fun h=>?_,fun y h1 h2=>scan_set hs (put_ahead hp h2 h1)⟩
  have ho:okT cap Tb k l=true:=by
   cases ho:okT cap Tb k l with
   | true=>rfl
   | false=>rw[ho] at h;cases h
  rw[ch_set ho]
  exact put_there hp (Int.le_refl _)
theorem reads_undo (hs:Sr Tb) (hv:∀f∈Tb,∀e∈f.2,e.v<ver) (hf:floor<ver) :
  ∀T1,T1=(tPut m keep cap Tb k ver c b floor).2→∀T2,T2=(tUndo m cap T1 k ver).2→
  (∀y,floor≤y→scanT m T2 y=scanT m Tb y)∧lastV (chT T2 k) ver=false∧scanT m T2 ver=scanT m Tb (ver-1):=by
 have hnew:scanT m Tb ver=scanT m Tb (ver-1):=scan_below fun f hf' e he=>by have:=hv f hf' e he;omega
 have hch:∀e∈chT Tb k,e.v<ver:=ch_all hv
 suffices h:∀T1,T1=(tPut m keep cap Tb k ver c b floor).2→∀T2,T2=(tUndo m cap T1 k ver).2→(∀y,floor≤y→scanT m T2 y=scanT m Tb y)∧lastV (chT T2 k) ver=false from fun T1 h1 T2 h2=>⟨(h T1 h1 T2 h2).1,(h T1 h1 T2 h2).2,by rw[(h T1 h1 T2 h2).1 ver (by omega),hnew]⟩
 have hsame:∀T2,T2=(tUndo m cap Tb k ver).2→(∀y,floor≤y→scanT m T2 y=scanT m Tb y)∧lastV (chT T2 k) ver=false:=fun T2 h2=>by
  have hn:=lastV_no hch
  unfold tUndo at h2
  rw[hn] at h2
  subst h2
  exact⟨fun y _=>rfl,hn⟩
 rintro T1 h1 T2 h2
 unfold tPut at h1
 cases hp:putA m keep (chT Tb k) ver c b floor with
 | none=>
  rw[hp] at h1
  subst h1
  exact hsame T2 h2
 | some l=>
  rw[hp] at h1
  dsimp only at h1
  by_cases ho:okT cap Tb k l=true
  case neg=>
   have:setT cap Tb k l=Tb:=by unfold setT;rw[if_neg ho]
   rw[this] at h1
   subst h1
   exact hsame T2 h2
  have hc1:chT T1 k=l:=by rw[h1];exact ch_set ho
  have hs1:Sr T1:=by rw[h1];exact srt_set hs
  unfold tUndo at h2
  rw[hc1] at h2
  have hun:∀y,floor≤y→atS m (undoS m l ver) y=atS m (chT Tb k) y:=fun y hy=>at_undo hp hf hch hy
  obtain⟨_,e2,_⟩:=put_undo hp hf hch
  have hg:=put_good hp
  obtain⟨o1,hl',_⟩:=putA_so hp
  obtain⟨g1,_,_,g4,g5,g6⟩:=okP_iff.1 o1
  obtain⟨hS,_⟩:=putS_form g1 g5 g4 g6
  have hSle:=putS_le g1 g5 g4 g6
  have hle':lastLe l ver=true:=lastLe_of fun e he=>hSle e (after_mem hS (by rw[←hl'];exact he))
  have e1:undoS m l ver=lt ver l:=undo_eq hg hle'
  have hlt:∀e∈undoS m l ver,e.v<ver:=fun e he=>by rw[e1] at he;exact(mem_lt.1 he).2
  cases hla:lastV l ver with
  | true=>
   rw[hla] at h2
   simp only[if_true] at h2
   have hne:l≠[]:=fun h=>by rw[h] at hla;cases hla
   have hsome:(get T1 k).isSome=true:=chT_some (by rw[hc1];exact hne)
   have ho1:okT cap T1 k (undoS m l ver)=true:=by unfold okT;rw[hsome];simp
   subst h2
   refine⟨fun y hy=>?_,?_⟩
   ·rw[h1,set_set hs ho hne];exact scan_ins2 hs (hun y hy)
   ·rw[ch_set ho1]
    exact lastV_no hlt
  | false=>
   rw[hla] at h2
   simp only[Bool.false_eq_true,if_false] at h2
   subst h2
   have hl:undoS m l ver=l:=by
    rw[e1]
    refine lt_all fun e he=>own_lt hg hle' (fun x hx hxv=>?_) e he
    unfold lastV at hla
    rw[hx] at hla
    simp[hxv] at hla
   refine⟨fun y hy=>?_,by rw[hc1];exact hla⟩
   rw[h1]
   refine scan_set hs ?_
   rw[←hl];exact hun y hy
theorem reads_at (hs:Sr Tb) (hv:∀f∈Tb,∀e∈f.2,e.v<ver) (h0:(tPut m keep cap Tb k ver c b floor).1=0) :
  atV (atS m (chT (tPut m keep cap Tb k ver c b floor).2 k) ver)=.tup [cellV c.n c.a c.b c.p c.q,.bool b]:=by
 obtain⟨h1,h2⟩:=(reads_put (m:=m) (keep:=keep) (cap:=cap) (k:=k) (c:=c) (b:=b) (floor:=floor) hs hv).1 h0
 cases b with
 | true=>obtain⟨op,e⟩:=h1 rfl;rw[e];rfl
 | false=>
  rw[h2 rfl]
  unfold tPut at h0
  cases hp:putA m keep (chT Tb k) ver c false floor with
  | none=>rw[hp] at h0;cases h0
  | some l=>
   obtain⟨o1,_,_⟩:=putA_so hp
   obtain⟨_,_,_,_,_,g6⟩:=okP_iff.1 o1
   have hz:c.n=0∧c.a=0∧c.b=0∧c.p=[]∧c.q=[]:=by simpa[mayC,zeroC] using g6
   obtain⟨e1,e2,e3,e4,e5⟩:=hz
   rw[e1,e2,e3,e4,e5];rfl
end
end Go.Proofs.YtbppemcdphgknaaGreatDoor
namespace Go.Proofs.YtbppemcdphgknaaGreatDoor
open Go Go.Vm
theorem tUndo_no {m keep cap:Int} {Tb:Tab} {i:Nat} {x:DV} (h:TB m keep cap Tb i x) {k:Int} (hk:KIn k) (ver:Int) (hno:lastV (chT Tb k) ver=false) :
  ATriple Tryz.prog gv R0 26 [.ref (0,0) 0,coV k,i64V ver] [.abs x] (.bool false) [.abs x] none:=by
 have hch:=h.chIn k
 have n0:=pure_E (chT Tb k)
 have lL:((chT Tb k).map encE).length=(chT Tb k).length:=by simp
 obtain⟨q,sl,tr,rfl,ps,hq⟩:=h.ex
 have a0:=chain78 ps hk
 rw[chQ_eq,hq] at a0
 cases he:(chT Tb k)[(chT Tb k).length-1]? with
 | none=>
  have hz:(chT Tb k).length=0:=by have:=List.getElem?_eq_none_iff.1 he;omega
  refine ATriple.of_bodyW (C:=cxB) Tryz.func26 rfl (by kernel_rfl) (mixedOf _) rfl (by simp[okA,okC,okN,co]) (by simp[okOb,okC,okN]) (by simp[okG,okA,okC,okN,co]) (by simp[okOb,okC,okN]) (fun o ho=>by cases ho) 2 [.opn (0,0) [43,44]] fun E hE=>?_
  exact goT
 | some e=>
  have hz:=(List.getElem?_eq_some_iff.1 he).1
  have w0:IntKind.i64.wrap ((((chT Tb k).map encE).length:Int)-1)=(((chT Tb k).length-1:Nat):Int):=(wrap64 (by omega) (by omega)).trans (by omega)
  have c1:lget ((chT Tb k).map encE) ((((chT Tb k).length-1:Nat):Int)).toNat=some (encE e):=by rw[lget_eq,Int.toNat_natCast,List.getElem?_map,he];rfl
  have hv:¬e.v=ver:=fun hv=>by unfold lastV at hno;rw[he] at hno;simp[hv] at hno
  refine ATriple.of_bodyW (C:=cxB) Tryz.func26 rfl (by kernel_rfl) (mixedOf _) rfl (by simp[okA,okC,okN,co]) (by simp[okOb,okC,okN]) (by simp[okG,okA,okC,okN,co]) (by simp[okOb,okC,okN]) (fun o ho=>by cases ho) 2 [.opn (0,0) [43,44]] fun E hE=>?_
  exact goT
def encI (y:Int):List V:=[i64V y]
abbrev IR (ys:List Int):List (List V):=ys.map encI
theorem lenI (ys:List Int):(IR ys).length=ys.length:=by simp
theorem pure_I (xs:List Int):PureEs (IR xs):=fun e he v hv=>by
 obtain⟨x,_,rfl⟩:=List.mem_map.1 he
 rw[List.mem_singleton.1 hv]
 exact .int _ _
theorem getI {ys:List Int} {i:Nat} {y:Int} (h:ys[i]?=some y):lget (IR ys) ((i:Int)).toNat=some [i64V y]:=by
 rw[lget_eq,Int.toNat_natCast,List.getElem?_map,h];rfl
theorem takeI (ys:List Int):((IR ys).drop 0).take ys.length=IR ys:=by rw[List.drop_zero,List.take_of_length_le (by rw[lenI];exact Nat.le_refl _)]
theorem addI (ys:List Int) (y:Int):((IR ys).drop 0).take ys.length++([[i64V y]].drop 0).take 1=IR (ys++[y]):=by rw[takeI];simp[encI]
def versF (fl:Int) (l:List En):List Int:=(l.filter fun e=>decide (fl≤e.v)).map fun e=>e.v
def atC (fl ver:Int) (Tb:Tab):List Int:=fl::(ver-1)::Tb.flatMap fun f=>versF fl f.2
theorem versF_take {fl:Int} {l:List En} {i:Nat} {e:En} (h:l[i]?=some e):versF fl (l.take (i+1))=if fl≤e.v then versF fl (l.take i)++[e.v] else versF fl (l.take i):=by
 have h1:l.take (i+1)=l.take i++[e]:=by rw[List.take_add_one,h];rfl
 unfold versF
 rw[h1,List.filter_append,List.map_append]
 split
 ·rename_i hh;simp[hh]
 ·rename_i hh;simp[hh]
theorem versF_len (fl:Int) (l:List En):(versF fl l).length≤l.length:=by unfold versF;rw[List.length_map];exact List.length_filter_le ..
theorem atC_take {fl ver:Int} {Tb:Tab} {i:Nat} {f:Int×List En} (h:Tb[i]?=some f):atC fl ver (Tb.take (i+1))=atC fl ver (Tb.take i)++versF fl f.2:=by
 have h1:Tb.take (i+1)=Tb.take i++[f]:=by rw[List.take_add_one,h];rfl
 unfold atC
 rw[h1,List.flatMap_append];simp
theorem atC_len {fl ver:Int} {Tb:Tab} (h:∀f∈Tb,f.2.length≤9):(atC fl ver Tb).length≤2+9*Tb.length:=by
 unfold atC
 simp only[List.length_cons]
 suffices h2:∀T:Tab,(∀f∈T,f.2.length≤9)→(T.flatMap fun f=>versF fl f.2).length≤9*T.length by have:=h2 Tb h;omega
 intro T hT
 induction T with
 | nil=>simp
 | cons f r ih=>
  have:=ih fun g hg=>hT g (by simp[hg])
  have h1:=hT f (by simp)
  have h3:=versF_len fl f.2
  simp only[List.flatMap_cons,List.length_append,List.length_cons];omega
theorem atC_in {fl ver:Int} {Tb:Tab} (h:fl<ver) (hv:∀f∈Tb,∀e∈f.2,e.v<ver):∀y∈atC fl ver Tb,fl≤y∧y<ver:=fun y hy=>by
 unfold atC at hy
 simp only[List.mem_cons,List.mem_flatMap] at hy
 rcases hy with rfl|rfl|⟨f,hf,hy⟩
 ·omega
 ·omega
 ·unfold versF at hy
  obtain⟨e,he,rfl⟩:=List.mem_map.1 hy
  obtain⟨h1,h2⟩:=List.mem_filter.1 he
  exact⟨of_decide_eq_true h2,hv f hf e h1⟩
end Go.Proofs.YtbppemcdphgknaaGreatDoor
namespace Go.Proofs.YtbppemcdphgknaaGreatDoor
open Go Go.Vm
noncomputable def cxH:Cx DV:=cxOf [(22,1),(26,6),(20,8),(21,5),(23,5)]
abbrev slA (sb:Bool):Nat:=match sb with|true=>114|false=>67
def stQ1 (M K C:Int) (Tb:Tab) (a:Act) (x:DV) (sb:Bool) (ys:List Int) (i:Nat):St DV:=mkSt 228 [(5,.ref (6,1) 0),(7,.ref (57,1) 0),(8,.ref (1,1) 0),(10,.rsl (slA sb+1,1) 1 0 ys.length),(11,i64V i)] [(0,.box (rtV M K C Tb)),(5,.box (encA a)),(56,.abs x),(slA sb,.row 1 (IR ys) false)] []
def stQ2 (M K C:Int) (Tb:Tab) (a:Act) (x:DV) (sb:Bool) (ys:List Int) (i k:Nat):St DV:=mkSt 228 [(5,.ref (6,1) 0),(7,.ref (57,1) 0),(8,.ref (1,1) 0),(10,.rsl (slA sb+1,1) 1 0 ys.length),(11,i64V i),(12,i64V k)] [(0,.box (rtV M K C Tb)),(5,.box (encA a)),(56,.abs x),(slA sb,.row 1 (IR ys) false)] []
theorem raI (ys:List Int) (n:Nat) (h:ys.length+n≤2000000):0+ys.length≤(IR ys).length∧(false=true→0+ys.length=(IR ys).length)∧(ys.length+n)*8≤roomBound∧ys.length+n≤roomBound:=⟨by rw[lenI];omega,(by intro h;cases h),by unfold roomBound;omega,by unfold roomBound;omega⟩
def WR (ws:List Prs):List (List V):=ws.map fun s=>[prsV s]
theorem lenW (ws:List Prs):(WR ws).length=ws.length:=by simp[WR]
theorem takeW (ws:List Prs):((WR ws).drop 0).take ws.length=WR ws:=by rw[List.drop_zero,List.take_of_length_le (by rw[lenW];exact Nat.le_refl _)]
theorem addW (ws:List Prs) (s:Prs):((WR ws).drop 0).take ws.length++([[prsV s]].drop 0).take 1=WR (ws++[s]):=by rw[takeW];simp[WR]
theorem raW (ws:List Prs) (n:Nat) (h:ws.length+n≤600000):0+ws.length≤(WR ws).length∧(false=true→0+ws.length=(WR ws).length)∧(ws.length+n)*24≤roomBound∧ws.length+n≤roomBound:=⟨by rw[lenW];omega,(by intro h;cases h),by unfold roomBound;omega,by unfold roomBound;omega⟩
theorem pure_W (ws:List Prs):PureEs (WR ws):=fun e he v hv=>by
 obtain⟨s,_,rfl⟩:=List.mem_map.1 he
 rw[List.mem_singleton.1 hv]
 exact .lst (pure_Pr s)
def stQ4 (a:Act) (x:DV) (ys:List Int) (ws:List Prs) (i:Nat):St DV:=mkSt 228 [(5,.ref (6,1) 0),(7,.ref (57,1) 0),(10,.lst 1 (IR ys)),(14,.rsl (130,1) 1 0 ws.length),(15,i64V i)] [(5,.box (encA a)),(56,.abs x),(129,.row 1 (WR ws) false)] []
theorem getW {ws:List Prs} {i:Nat} {s:Prs} (h:ws[i]?=some s):lget (WR ws) ((i:Int)).toNat=some [prsV s]:=by
 rw[lget_eq,Int.toNat_natCast];unfold WR;rw[List.getElem?_map,h];rfl
def stQ5 (a:Act) (x:DV) (ys:List Int) (ws:List Prs) (i:Nat):St DV:=mkSt 228 [(5,.ref (6,1) 0),(7,.ref (57,1) 0),(10,.lst 1 (IR ys)),(14,.lst 1 (WR ws)),(19,i64V i)] [(5,.box (encA a)),(56,.abs x)] []
def stQ6 (a:Act) (x:DV) (ys:List Int) (ws:List Prs) (i:Nat):St DV:=mkSt 228 [(5,.ref (6,1) 0),(7,.ref (57,1) 0),(10,.lst 1 (IR ys)),(14,.lst 1 (WR ws)),(20,i64V i)] [(5,.box (encA a)),(56,.abs x)] []
def stQ3 (a:Act) (x:DV) (sb:Bool) (ys:List Int):St DV:=mkSt 228 [(5,.ref (6,1) 0),(7,.ref (57,1) 0),(10,.rsl (slA sb+1,1) 1 0 ys.length),(14,.nils),(15,i64V 0)] [(5,.box (encA a)),(56,.abs x),(slA sb,.row 1 (IR ys) false)] []
theorem tableReads_ok (M K C:Int) (l:List Act) (a:Act) (hA:∀a∈l,A64 a) (ha:A64 a) (hv64:in64 a.ver):PTriple Tryz.prog gv 3 [.agg [i64V M,i64V K,i64V C],actsV l,actV a] (.bool true):=by
 have pA:=pure_A l
 have lA:=lenA l
 have cL:=light16 l
 have cW:=wakes19
 have cG:=good18 M K C
 have cB:=lightB_ok a.c.n a.c.a a.c.b a.c.p a.c.q
 have n1:=pure_R a.c.p
 have n2:=pure_R a.c.q
 by_cases hlg:(lightA l=true∧lightB a.c.p a.c.q=true∧goodT M K C=true)∧1≤a.ver∧a.fl<a.ver
 case neg=>
  have key:∀b1 b2 b3:Bool,lightA l=b1→lightB a.c.p a.c.q=b2→goodT M K C=b3→PTriple Tryz.prog gv 3 [.agg [i64V M,i64V K,i64V C],actsV l,actV a] (.bool true):=fun b1 b2 b3 h1 h2 h3=>by
   rw[h1] at cL;rw[h2] at cB;rw[h3] at cG
   rw[h1,h2,h3] at hlg
   cases b1<;>cases b2<;>cases b3
   all_goals
    simp only[Bool.false_eq_true,true_and,false_and,and_false,not_false_eq_true] at hlg
    refine PTriple.of_body (C:=cxH) Tryz.func3 rfl (by kernel_rfl) (mixedOf _) fun E hE=>?_
    repeat' (conv=>whnf);first
     | (refine bcase_of (fun hr=>?_) (fun hr=>?_)<;>(try simp only[bs] at hr)<;>try(exfalso;first|omega|(simp at hr;done)))
     | (apply And.intro;· first|(show indep _ _=true;kernel_rfl)|exact pA|exact⟨by omega,by omega⟩|exact⟨rfl,by decide⟩|exact pT|exact n1|exact n2|exact p1|(show Nat.beq _ _=false;rfl)|exact nd13)
     | (apply Exists.intro;apply And.intro;· first|exact rfl|exact cL|exact cW|exact cG|exact cB|exact gs|exact ga)
     | fail
    all_goals (conv=>whnf)
    all_goals rfl
  exact key _ _ _ rfl rfl rfl
 case pos=>
 obtain⟨⟨hl,hb,hg'⟩,hv1,hfv⟩:=hlg
 rw[hl] at cL;rw[hb] at cB;rw[hg'] at cG
 have hg:(1≤M∧M≤2)∧(2≤K∧K≤8)∧0≤C∧C≤2000:=of_decide_eq_true hg'
 replace hA:=lightA_in hA hl
 replace ha:=light_in ha hb
 have h50:l.length≤50:=by simp[lightA] at hl;exact hl.1
 obtain⟨x,i0,y0,hT,hi0⟩:=grown20 M K C l hA h50 hg
 have hTl:=growT_len (m:=M) (keep:=K) (cap:=C) l
 obtain⟨Tb,hTb⟩:∃z,z=growT M K C l:=⟨_,rfl⟩
 rw[←hTb] at hT y0 hTl
 have ht:=hT.tin
 obtain⟨hs,_,hin⟩:=ht
 have pT:=pure_Tb Tb
 have lT:=lenTb Tb
 have pI0:=pure_I [a.fl,a.ver-1]
 have hw0:IntKind.i64.wrap (a.ver-1)=a.ver-1:=wrap64 (by omega) (by have:=hv64.2;omega)
 refine PTriple.of_body (C:=cxH) Tryz.func3 rfl (by kernel_rfl) (mixedOf _) fun E hE=>?_
 repeat' (conv=>whnf);first
  | (refine bcase_of (fun hr=>?_) (fun hr=>?_)<;>(try simp only[bs] at hr)<;>try(exfalso;first|omega|(simp at hr;done)))
  | (apply And.intro;· first|(show indep _ _=true;kernel_rfl)|exact pA|exact⟨by omega,by omega⟩|exact⟨rfl,by decide⟩|exact pT|exact n1|exact n2|exact p1|(show Nat.beq _ _=false;rfl)|exact pI0|exact nd13)
  | (apply Exists.intro;apply And.intro;· first|exact rfl|exact cL|exact cW|exact cG|exact cB|exact gs|exact ga)
  | rw[hw0]
  | (apply Exists.intro;apply Exists.intro;apply And.intro;· exact y0)
  | fail
 all_goals (conv=>whnf)
 refine VLoop.norm [5,7,8,10,11] [0,5,56,67] ?_
 repeat' (conv=>whnf);first
  | (refine bcase_of (fun hr=>?_) (fun hr=>?_)<;>(try simp only[bs] at hr)<;>try(exfalso;first|omega|(simp at hr;done)))
  | (apply And.intro;· first|(show indep _ _=true;kernel_rfl)|exact pA|exact⟨by omega,by omega⟩|exact⟨rfl,by decide⟩|exact pT|exact n1|exact n2|exact p1|(show Nat.beq _ _=false;rfl)|exact pI0|exact nd13)
  | (apply Exists.intro;apply And.intro;· first|exact rfl|exact cL|exact cW|exact cG|exact cB|exact gs|exact ga)
  | rw[hw0]
  | (apply Exists.intro;apply Exists.intro;apply And.intro;· exact y0)
  | fail
 all_goals (conv=>whnf)
 refine cutLoops (C:=cxH) (E:=E) (b:=?bq) (K:=?Kq) (fun q:Bool×List Int=>stQ3 a x q.1 q.2) (fun q=>q.2=atC a.fl a.ver Tb∧∀f∈Tb,∀e∈f.2,e.v<a.ver) (fun hc=>?mm) ?ll
 case mm=>
  refine VLoop.inv (fun z:Bool×List Int×Nat=>stQ1 M K C Tb a x z.1 z.2.1 z.2.2) (fun z=>z.2.2≤Tb.length∧z.2.1=atC a.fl a.ver (Tb.take z.2.2)∧∀f∈Tb.take z.2.2,∀e∈f.2,e.v<a.ver) (fun z=>Tb.length-z.2.2) (false,[a.fl,a.ver-1],0) ⟨Nat.zero_le _,rfl,fun f hf=>by cases hf⟩ rfl ?_
  rintro⟨sb,ys,i⟩ ⟨hi,hys,hpast⟩ ih
  simp only at hi hys hpast ih
  have hyl:ys.length≤500:=by
   rw[hys]
   have:=atC_len (fl:=a.fl) (ver:=a.ver) (Tb:=Tb.take i) fun f hf=>(hin f (List.mem_of_mem_take hf)).2.2.2
   rw[List.length_take] at this;omega
  have pX:=pure_I ys
  have hw1:IntKind.i64.wrap ((i:Int)+1)=((i+1:Nat):Int):=wrap64 (by omega) (by omega)
  cases sb with
  | false=>
   refine VLoop.unroll hE (mixedOf _) ?_
   cases hx:Tb[i]? with
   | none=>
    have hx':=List.getElem?_eq_none_iff.1 hx
    have htk:Tb.take i=Tb:=List.take_of_length_le hx'
    rw[htk] at hys hpast
    repeat' (conv=>whnf);first
     | (refine bcase_of (fun hr=>?_) (fun hr=>?_)<;>(try simp only[bs] at hr)<;>try(exfalso;first|omega|(simp at hr;done)))
     | (apply And.intro;· first|(show indep _ _=true;kernel_rfl)|exact pA|exact⟨by omega,by omega⟩|exact⟨rfl,by decide⟩|exact pT|exact n1|exact n2|exact p1|(show Nat.beq _ _=false;rfl)|exact pX|exact pE|exact nd13)
     | (apply Exists.intro;apply And.intro;· first|exact rfl|exact cL|exact cW|exact cG|exact cB|exact gs|exact ga)
     | rw[hw1]
     | fail
    all_goals (conv=>whnf)
    all_goals refine VLoop.norm [5,7,10,14,15] [5,56,67] ?_
    repeat' (conv=>whnf);first
     | (refine bcase_of (fun hr=>?_) (fun hr=>?_)<;>(try simp only[bs] at hr)<;>try(exfalso;first|omega|(simp at hr;done)))
     | (apply And.intro;· first|(show indep _ _=true;kernel_rfl)|exact pA|exact⟨by omega,by omega⟩|exact⟨rfl,by decide⟩|exact pT|exact n1|exact n2|exact p1|(show Nat.beq _ _=false;rfl)|exact pX|exact pE|exact nd13)
     | (apply Exists.intro;apply And.intro;· first|exact rfl|exact cL|exact cW|exact cG|exact cB|exact gs|exact ga)
     | rw[hw1]
     | fail
    all_goals (conv=>whnf)
    exact hc (false,ys) ⟨hys,hpast⟩
   | some f=>
    have hil:=(List.getElem?_eq_some_iff.1 hx).1
    have gs:=getTb hx
    have hf:=hin f (List.mem_of_getElem? hx)
    have pE:=pure_E f.2
    have lE:(f.2.map encE).length=f.2.length:=by simp
    have h9:=hf.2.2.2
    repeat' (conv=>whnf);first
     | (refine bcase_of (fun hr=>?_) (fun hr=>?_)<;>(try simp only[bs] at hr)<;>try(exfalso;first|omega|(simp at hr;done)))
     | (apply And.intro;· first|(show indep _ _=true;kernel_rfl)|exact pA|exact⟨by omega,by omega⟩|exact⟨rfl,by decide⟩|exact pT|exact n1|exact n2|exact p1|(show Nat.beq _ _=false;rfl)|exact pX|exact pE|exact nd13)
     | (apply Exists.intro;apply And.intro;· first|exact rfl|exact cL|exact cW|exact cG|exact cB|exact gs|exact ga)
     | rw[hw1]
     | fail
    all_goals (conv=>whnf)
    all_goals refine VLoop.norm [5,7,8,10,11,12] [0,5,56,67] ?_
    repeat' (conv=>whnf);first
     | (refine bcase_of (fun hr=>?_) (fun hr=>?_)<;>(try simp only[bs] at hr)<;>try(exfalso;first|omega|(simp at hr;done)))
     | (apply And.intro;· first|(show indep _ _=true;kernel_rfl)|exact pA|exact⟨by omega,by omega⟩|exact⟨rfl,by decide⟩|exact pT|exact n1|exact n2|exact p1|(show Nat.beq _ _=false;rfl)|exact pX|exact pE|exact nd13)
     | (apply Exists.intro;apply And.intro;· first|exact rfl|exact cL|exact cW|exact cG|exact cB|exact gs|exact ga)
     | rw[hw1]
     | fail
    all_goals (conv=>whnf)
    refine VLoop.inv (fun z:Bool×List Int×Nat=>stQ2 M K C Tb a x z.1 z.2.1 i z.2.2) (fun z=>z.2.2≤f.2.length∧z.2.1=atC a.fl a.ver (Tb.take i)++versF a.fl (f.2.take z.2.2)∧∀e∈f.2.take z.2.2,e.v<a.ver) (fun z=>f.2.length-z.2.2) (false,ys,0) ⟨Nat.zero_le _,by rw[hys];exact(List.append_nil _).symm,fun e he=>by cases he⟩ rfl ?_
    rintro⟨sb,ys2,k⟩ ⟨hk,hys2,hpast2⟩ ih2
    simp only at hk hys2 hpast2 ih2
    have hyl2:ys2.length≤500:=by
     have h1:=versF_len a.fl (f.2.take k)
     rw[List.length_take] at h1
     have h2:=atC_len (fl:=a.fl) (ver:=a.ver) (Tb:=Tb.take i) fun f hf=>(hin f (List.mem_of_mem_take hf)).2.2.2
     rw[List.length_take] at h2
     rw[hys2,List.length_append];omega
    have pY:=pure_I ys2
    have hw2:IntKind.i64.wrap ((k:Int)+1)=((k+1:Nat):Int):=wrap64 (by omega) (by omega)
    cases sb with
    | false=>
     show VLoop _ _ _ (stQ2 M K C Tb a x false ys2 i k) _
     refine VLoop.unroll hE (mixedOf _) ?_
     cases hxe:f.2[k]? with
     | none=>
      have hxe':=List.getElem?_eq_none_iff.1 hxe
      have htk:f.2.take k=f.2:=List.take_of_length_le hxe'
      rw[htk] at hys2 hpast2
      repeat' (conv=>whnf);first
       | (refine bcase_of (fun hr=>?_) (fun hr=>?_)<;>(try simp only[bs] at hr)<;>try(exfalso;first|omega|(simp at hr;done)))
       | (apply And.intro;· first|(show indep _ _=true;kernel_rfl)|exact pA|exact⟨by omega,by omega⟩|exact⟨rfl,by decide⟩|exact pT|exact n1|exact n2|exact p1|(show Nat.beq _ _=false;rfl)|exact pX|exact pE|exact pY|exact q1|exact q2|exact nd13)
       | (apply Exists.intro;apply And.intro;· first|exact rfl|exact cL|exact cW|exact cG|exact cB|exact gs|exact ga)
       | rw[hw1]
       | fail
      all_goals (conv=>whnf)
      all_goals refine VLoop.norm [5,7,8,10,11] [0,5,56,67] ?_
      repeat' (conv=>whnf);first
       | (refine bcase_of (fun hr=>?_) (fun hr=>?_)<;>(try simp only[bs] at hr)<;>try(exfalso;first|omega|(simp at hr;done)))
       | (apply And.intro;· first|(show indep _ _=true;kernel_rfl)|exact pA|exact⟨by omega,by omega⟩|exact⟨rfl,by decide⟩|exact pT|exact n1|exact n2|exact p1|(show Nat.beq _ _=false;rfl)|exact pX|exact pE|exact pY|exact q1|exact q2|exact nd13)
       | (apply Exists.intro;apply And.intro;· first|exact rfl|exact cL|exact cW|exact cG|exact cB|exact gs|exact ga)
       | rw[hw1]
       | fail
      all_goals (conv=>whnf)
      refine ih (false,ys2,i+1) ⟨by simp only;omega,by simp only;rw[hys2,atC_take hx],?_⟩ (by simp only;omega)
      rw[List.take_add_one,hx]
      intro g hg
      rcases List.mem_append.1 hg with hg|hg
      ·exact hpast g hg
      ·have:g=f:=by simpa using hg
       rw[this];exact hpast2
     | some e=>
      have hkl:=(List.getElem?_eq_some_iff.1 hxe).1
      have ga:=getE hxe
      have q1:=pure_R e.p
      have q2:=pure_R e.q
      have hvt:=versF_take (fl:=a.fl) hxe
      by_cases hev:e.v<a.ver
      ·have hpast3:∀e'∈f.2.take (k+1),e'.v<a.ver:=fun e' he'=>by
        rw[List.take_add_one,hxe] at he'
        rcases List.mem_append.1 he' with h|h
        ·exact hpast2 e' h
        ·have:e'=e:=by simpa using h
         rw[this];exact hev
       by_cases hef:a.fl≤e.v
       ·rw[if_pos hef] at hvt
        repeat' (conv=>whnf);first
         | (refine bcase_of (fun hr=>?_) (fun hr=>?_)<;>(try simp only[bs] at hr)<;>try(exfalso;first|omega|(simp at hr;done)))
         | (apply And.intro;· first|(show indep _ _=true;kernel_rfl)|exact pA|exact⟨by omega,by omega⟩|exact⟨rfl,by decide⟩|exact pT|exact n1|exact n2|exact p1|(show Nat.beq _ _=false;rfl)|exact pX|exact pE|exact pY|exact q1|exact q2|exact raI _ _ (by simp;omega)|(rw[takeI];exact pY)|exact nd13)
         | (apply Exists.intro;apply And.intro;· first|exact rfl|exact cL|exact cW|exact cG|exact cB|exact gs|exact ga)
         | rw[hw2]
         | fail
        all_goals (conv=>whnf)
        all_goals refine VLoop.norm [5,7,8,10,11,12] [0,5,56,114] ?_
        repeat' (conv=>whnf);first
         | (refine bcase_of (fun hr=>?_) (fun hr=>?_)<;>(try simp only[bs] at hr)<;>try(exfalso;first|omega|(simp at hr;done)))
         | (apply And.intro;· first|(show indep _ _=true;kernel_rfl)|exact pA|exact⟨by omega,by omega⟩|exact⟨rfl,by decide⟩|exact pT|exact n1|exact n2|exact p1|(show Nat.beq _ _=false;rfl)|exact pX|exact pE|exact pY|exact q1|exact q2|(rw[addI];exact pure_I _)|exact nd13)
         | (apply Exists.intro;apply And.intro;· first|exact rfl|exact cL|exact cW|exact cG|exact cB|exact gs|exact ga)
         | fail
        try rw[hw2]
        rw[addI,show ys2.length+(([[i64V e.v]].drop 0).take 1).length=(ys2++[e.v]).length by simp]
        exact ih2 (true,ys2++[e.v],k+1) ⟨by simp only;omega,by simp only;rw[hvt,hys2,List.append_assoc],hpast3⟩ (by simp only;omega)
       ·rw[if_neg hef] at hvt
        repeat' (conv=>whnf);first
         | (refine bcase_of (fun hr=>?_) (fun hr=>?_)<;>(try simp only[bs] at hr)<;>try(exfalso;first|omega|(simp at hr;done)))
         | (apply And.intro;· first|(show indep _ _=true;kernel_rfl)|exact pA|exact⟨by omega,by omega⟩|exact⟨rfl,by decide⟩|exact pT|exact n1|exact n2|exact p1|(show Nat.beq _ _=false;rfl)|exact pX|exact pE|exact pY|exact q1|exact q2|exact raI _ _ (by simp;omega)|(rw[takeI];exact pY)|exact nd13)
         | (apply Exists.intro;apply And.intro;· first|exact rfl|exact cL|exact cW|exact cG|exact cB|exact gs|exact ga)
         | rw[hw2]
         | fail
        all_goals (conv=>whnf)
        all_goals refine VLoop.norm [5,7,8,10,11,12] [0,5,56,67] ?_
        repeat' (conv=>whnf);first
         | (refine bcase_of (fun hr=>?_) (fun hr=>?_)<;>(try simp only[bs] at hr)<;>try(exfalso;first|omega|(simp at hr;done)))
         | (apply And.intro;· first|(show indep _ _=true;kernel_rfl)|exact pA|exact⟨by omega,by omega⟩|exact⟨rfl,by decide⟩|exact pT|exact n1|exact n2|exact p1|(show Nat.beq _ _=false;rfl)|exact pX|exact pE|exact pY|exact q1|exact q2|exact raI _ _ (by simp;omega)|(rw[takeI];exact pY)|exact nd13)
         | (apply Exists.intro;apply And.intro;· first|exact rfl|exact cL|exact cW|exact cG|exact cB|exact gs|exact ga)
         | rw[hw2]
         | fail
        all_goals (conv=>whnf)
        exact ih2 (false,ys2,k+1) ⟨by simp only;omega,by simp only;rw[hvt,hys2],hpast3⟩ (by simp only;omega)
      ·skip
       all_goals exact kb44
    | true=>
     show VLoop _ _ _ (stQ2 M K C Tb a x true ys2 i k) _
     refine VLoop.unroll hE (mixedOf _) ?_
     cases hxe:f.2[k]? with
     | none=>
      have hxe':=List.getElem?_eq_none_iff.1 hxe
      have htk:f.2.take k=f.2:=List.take_of_length_le hxe'
      rw[htk] at hys2 hpast2
      repeat' (conv=>whnf);first
       | (refine bcase_of (fun hr=>?_) (fun hr=>?_)<;>(try simp only[bs] at hr)<;>try(exfalso;first|omega|(simp at hr;done)))
       | (apply And.intro;· first|(show indep _ _=true;kernel_rfl)|exact pA|exact⟨by omega,by omega⟩|exact⟨rfl,by decide⟩|exact pT|exact n1|exact n2|exact p1|(show Nat.beq _ _=false;rfl)|exact pX|exact pE|exact pY|exact q1|exact q2|exact nd13)
       | (apply Exists.intro;apply And.intro;· first|exact rfl|exact cL|exact cW|exact cG|exact cB|exact gs|exact ga)
       | rw[hw1]
       | fail
      all_goals (conv=>whnf)
      all_goals refine VLoop.norm [5,7,8,10,11] [0,5,56,114] ?_
      repeat' (conv=>whnf);first
       | (refine bcase_of (fun hr=>?_) (fun hr=>?_)<;>(try simp only[bs] at hr)<;>try(exfalso;first|omega|(simp at hr;done)))
       | (apply And.intro;· first|(show indep _ _=true;kernel_rfl)|exact pA|exact⟨by omega,by omega⟩|exact⟨rfl,by decide⟩|exact pT|exact n1|exact n2|exact p1|(show Nat.beq _ _=false;rfl)|exact pX|exact pE|exact pY|exact q1|exact q2|exact nd13)
       | (apply Exists.intro;apply And.intro;· first|exact rfl|exact cL|exact cW|exact cG|exact cB|exact gs|exact ga)
       | rw[hw1]
       | fail
      all_goals (conv=>whnf)
      refine ih (true,ys2,i+1) ⟨by simp only;omega,by simp only;rw[hys2,atC_take hx],?_⟩ (by simp only;omega)
      rw[List.take_add_one,hx]
      intro g hg
      rcases List.mem_append.1 hg with hg|hg
      ·exact hpast g hg
      ·have:g=f:=by simpa using hg
       rw[this];exact hpast2
     | some e=>
      have hkl:=(List.getElem?_eq_some_iff.1 hxe).1
      have ga:=getE hxe
      have q1:=pure_R e.p
      have q2:=pure_R e.q
      have hvt:=versF_take (fl:=a.fl) hxe
      by_cases hev:e.v<a.ver
      ·have hpast3:∀e'∈f.2.take (k+1),e'.v<a.ver:=fun e' he'=>by
        rw[List.take_add_one,hxe] at he'
        rcases List.mem_append.1 he' with h|h
        ·exact hpast2 e' h
        ·have:e'=e:=by simpa using h
         rw[this];exact hev
       by_cases hef:a.fl≤e.v
       ·rw[if_pos hef] at hvt
        repeat' (conv=>whnf);first
         | (refine bcase_of (fun hr=>?_) (fun hr=>?_)<;>(try simp only[bs] at hr)<;>try(exfalso;first|omega|(simp at hr;done)))
         | (apply And.intro;· first|(show indep _ _=true;kernel_rfl)|exact pA|exact⟨by omega,by omega⟩|exact⟨rfl,by decide⟩|exact pT|exact n1|exact n2|exact p1|(show Nat.beq _ _=false;rfl)|exact pX|exact pE|exact pY|exact q1|exact q2|exact raI _ _ (by simp;omega)|(rw[takeI];exact pY)|exact nd13)
         | (apply Exists.intro;apply And.intro;· first|exact rfl|exact cL|exact cW|exact cG|exact cB|exact gs|exact ga)
         | rw[hw2]
         | fail
        all_goals (conv=>whnf)
        all_goals refine VLoop.norm [5,7,8,10,11,12] [0,5,56,114] ?_
        repeat' (conv=>whnf);first
         | (refine bcase_of (fun hr=>?_) (fun hr=>?_)<;>(try simp only[bs] at hr)<;>try(exfalso;first|omega|(simp at hr;done)))
         | (apply And.intro;· first|(show indep _ _=true;kernel_rfl)|exact pA|exact⟨by omega,by omega⟩|exact⟨rfl,by decide⟩|exact pT|exact n1|exact n2|exact p1|(show Nat.beq _ _=false;rfl)|exact pX|exact pE|exact pY|exact q1|exact q2|(rw[addI];exact pure_I _)|exact nd13)
         | (apply Exists.intro;apply And.intro;· first|exact rfl|exact cL|exact cW|exact cG|exact cB|exact gs|exact ga)
         | fail
        try rw[hw2]
        rw[addI,show ys2.length+(([[i64V e.v]].drop 0).take 1).length=(ys2++[e.v]).length by simp]
        exact ih2 (true,ys2++[e.v],k+1) ⟨by simp only;omega,by simp only;rw[hvt,hys2,List.append_assoc],hpast3⟩ (by simp only;omega)
       ·rw[if_neg hef] at hvt
        repeat' (conv=>whnf);first
         | (refine bcase_of (fun hr=>?_) (fun hr=>?_)<;>(try simp only[bs] at hr)<;>try(exfalso;first|omega|(simp at hr;done)))
         | (apply And.intro;· first|(show indep _ _=true;kernel_rfl)|exact pA|exact⟨by omega,by omega⟩|exact⟨rfl,by decide⟩|exact pT|exact n1|exact n2|exact p1|(show Nat.beq _ _=false;rfl)|exact pX|exact pE|exact pY|exact q1|exact q2|exact raI _ _ (by simp;omega)|(rw[takeI];exact pY)|exact nd13)
         | (apply Exists.intro;apply And.intro;· first|exact rfl|exact cL|exact cW|exact cG|exact cB|exact gs|exact ga)
         | rw[hw2]
         | fail
        all_goals (conv=>whnf)
        all_goals refine VLoop.norm [5,7,8,10,11,12] [0,5,56,114] ?_
        repeat' (conv=>whnf);first
         | (refine bcase_of (fun hr=>?_) (fun hr=>?_)<;>(try simp only[bs] at hr)<;>try(exfalso;first|omega|(simp at hr;done)))
         | (apply And.intro;· first|(show indep _ _=true;kernel_rfl)|exact pA|exact⟨by omega,by omega⟩|exact⟨rfl,by decide⟩|exact pT|exact n1|exact n2|exact p1|(show Nat.beq _ _=false;rfl)|exact pX|exact pE|exact pY|exact q1|exact q2|exact raI _ _ (by simp;omega)|(rw[takeI];exact pY)|exact nd13)
         | (apply Exists.intro;apply And.intro;· first|exact rfl|exact cL|exact cW|exact cG|exact cB|exact gs|exact ga)
         | rw[hw2]
         | fail
        all_goals (conv=>whnf)
        exact ih2 (true,ys2,k+1) ⟨by simp only;omega,by simp only;rw[hvt,hys2],hpast3⟩ (by simp only;omega)
      ·skip
       all_goals exact kb44
  | true=>
   refine VLoop.unroll hE (mixedOf _) ?_
   cases hx:Tb[i]? with
   | none=>
    have hx':=List.getElem?_eq_none_iff.1 hx
    have htk:Tb.take i=Tb:=List.take_of_length_le hx'
    rw[htk] at hys hpast
    repeat' (conv=>whnf);first
     | (refine bcase_of (fun hr=>?_) (fun hr=>?_)<;>(try simp only[bs] at hr)<;>try(exfalso;first|omega|(simp at hr;done)))
     | (apply And.intro;· first|(show indep _ _=true;kernel_rfl)|exact pA|exact⟨by omega,by omega⟩|exact⟨rfl,by decide⟩|exact pT|exact n1|exact n2|exact p1|(show Nat.beq _ _=false;rfl)|exact pX|exact pE|exact nd13)
     | (apply Exists.intro;apply And.intro;· first|exact rfl|exact cL|exact cW|exact cG|exact cB|exact gs|exact ga)
     | rw[hw1]
     | fail
    all_goals (conv=>whnf)
    all_goals refine VLoop.norm [5,7,10,14,15] [5,56,114] ?_
    repeat' (conv=>whnf);first
     | (refine bcase_of (fun hr=>?_) (fun hr=>?_)<;>(try simp only[bs] at hr)<;>try(exfalso;first|omega|(simp at hr;done)))
     | (apply And.intro;· first|(show indep _ _=true;kernel_rfl)|exact pA|exact⟨by omega,by omega⟩|exact⟨rfl,by decide⟩|exact pT|exact n1|exact n2|exact p1|(show Nat.beq _ _=false;rfl)|exact pX|exact pE|exact nd13)
     | (apply Exists.intro;apply And.intro;· first|exact rfl|exact cL|exact cW|exact cG|exact cB|exact gs|exact ga)
     | rw[hw1]
     | fail
    all_goals (conv=>whnf)
    exact hc (true,ys) ⟨hys,hpast⟩
   | some f=>
    have hil:=(List.getElem?_eq_some_iff.1 hx).1
    have gs:=getTb hx
    have hf:=hin f (List.mem_of_getElem? hx)
    have pE:=pure_E f.2
    have lE:(f.2.map encE).length=f.2.length:=by simp
    have h9:=hf.2.2.2
    repeat' (conv=>whnf);first
     | (refine bcase_of (fun hr=>?_) (fun hr=>?_)<;>(try simp only[bs] at hr)<;>try(exfalso;first|omega|(simp at hr;done)))
     | (apply And.intro;· first|(show indep _ _=true;kernel_rfl)|exact pA|exact⟨by omega,by omega⟩|exact⟨rfl,by decide⟩|exact pT|exact n1|exact n2|exact p1|(show Nat.beq _ _=false;rfl)|exact pX|exact pE|exact nd13)
     | (apply Exists.intro;apply And.intro;· first|exact rfl|exact cL|exact cW|exact cG|exact cB|exact gs|exact ga)
     | rw[hw1]
     | fail
    all_goals (conv=>whnf)
    all_goals refine VLoop.norm [5,7,8,10,11,12] [0,5,56,114] ?_
    repeat' (conv=>whnf);first
     | (refine bcase_of (fun hr=>?_) (fun hr=>?_)<;>(try simp only[bs] at hr)<;>try(exfalso;first|omega|(simp at hr;done)))
     | (apply And.intro;· first|(show indep _ _=true;kernel_rfl)|exact pA|exact⟨by omega,by omega⟩|exact⟨rfl,by decide⟩|exact pT|exact n1|exact n2|exact p1|(show Nat.beq _ _=false;rfl)|exact pX|exact pE|exact nd13)
     | (apply Exists.intro;apply And.intro;· first|exact rfl|exact cL|exact cW|exact cG|exact cB|exact gs|exact ga)
     | rw[hw1]
     | fail
    all_goals (conv=>whnf)
    refine VLoop.inv (fun z:Bool×List Int×Nat=>stQ2 M K C Tb a x z.1 z.2.1 i z.2.2) (fun z=>z.2.2≤f.2.length∧z.2.1=atC a.fl a.ver (Tb.take i)++versF a.fl (f.2.take z.2.2)∧∀e∈f.2.take z.2.2,e.v<a.ver) (fun z=>f.2.length-z.2.2) (true,ys,0) ⟨Nat.zero_le _,by rw[hys];exact(List.append_nil _).symm,fun e he=>by cases he⟩ rfl ?_
    rintro⟨sb,ys2,k⟩ ⟨hk,hys2,hpast2⟩ ih2
    simp only at hk hys2 hpast2 ih2
    have hyl2:ys2.length≤500:=by
     have h1:=versF_len a.fl (f.2.take k)
     rw[List.length_take] at h1
     have h2:=atC_len (fl:=a.fl) (ver:=a.ver) (Tb:=Tb.take i) fun f hf=>(hin f (List.mem_of_mem_take hf)).2.2.2
     rw[List.length_take] at h2
     rw[hys2,List.length_append];omega
    have pY:=pure_I ys2
    have hw2:IntKind.i64.wrap ((k:Int)+1)=((k+1:Nat):Int):=wrap64 (by omega) (by omega)
    cases sb with
    | false=>
     show VLoop _ _ _ (stQ2 M K C Tb a x false ys2 i k) _
     refine VLoop.unroll hE (mixedOf _) ?_
     cases hxe:f.2[k]? with
     | none=>
      have hxe':=List.getElem?_eq_none_iff.1 hxe
      have htk:f.2.take k=f.2:=List.take_of_length_le hxe'
      rw[htk] at hys2 hpast2
      repeat' (conv=>whnf);first
       | (refine bcase_of (fun hr=>?_) (fun hr=>?_)<;>(try simp only[bs] at hr)<;>try(exfalso;first|omega|(simp at hr;done)))
       | (apply And.intro;· first|(show indep _ _=true;kernel_rfl)|exact pA|exact⟨by omega,by omega⟩|exact⟨rfl,by decide⟩|exact pT|exact n1|exact n2|exact p1|(show Nat.beq _ _=false;rfl)|exact pX|exact pE|exact pY|exact q1|exact q2|exact nd13)
       | (apply Exists.intro;apply And.intro;· first|exact rfl|exact cL|exact cW|exact cG|exact cB|exact gs|exact ga)
       | rw[hw1]
       | fail
      all_goals (conv=>whnf)
      all_goals refine VLoop.norm [5,7,8,10,11] [0,5,56,67] ?_
      repeat' (conv=>whnf);first
       | (refine bcase_of (fun hr=>?_) (fun hr=>?_)<;>(try simp only[bs] at hr)<;>try(exfalso;first|omega|(simp at hr;done)))
       | (apply And.intro;· first|(show indep _ _=true;kernel_rfl)|exact pA|exact⟨by omega,by omega⟩|exact⟨rfl,by decide⟩|exact pT|exact n1|exact n2|exact p1|(show Nat.beq _ _=false;rfl)|exact pX|exact pE|exact pY|exact q1|exact q2|exact nd13)
       | (apply Exists.intro;apply And.intro;· first|exact rfl|exact cL|exact cW|exact cG|exact cB|exact gs|exact ga)
       | rw[hw1]
       | fail
      all_goals (conv=>whnf)
      refine ih (false,ys2,i+1) ⟨by simp only;omega,by simp only;rw[hys2,atC_take hx],?_⟩ (by simp only;omega)
      rw[List.take_add_one,hx]
      intro g hg
      rcases List.mem_append.1 hg with hg|hg
      ·exact hpast g hg
      ·have:g=f:=by simpa using hg
       rw[this];exact hpast2
     | some e=>
      have hkl:=(List.getElem?_eq_some_iff.1 hxe).1
      have ga:=getE hxe
      have q1:=pure_R e.p
      have q2:=pure_R e.q
      have hvt:=versF_take (fl:=a.fl) hxe
      by_cases hev:e.v<a.ver
      ·have hpast3:∀e'∈f.2.take (k+1),e'.v<a.ver:=fun e' he'=>by
        rw[List.take_add_one,hxe] at he'
        rcases List.mem_append.1 he' with h|h
        ·exact hpast2 e' h
        ·have:e'=e:=by simpa using h
         rw[this];exact hev
       by_cases hef:a.fl≤e.v
       ·rw[if_pos hef] at hvt
        repeat' (conv=>whnf);first
         | (refine bcase_of (fun hr=>?_) (fun hr=>?_)<;>(try simp only[bs] at hr)<;>try(exfalso;first|omega|(simp at hr;done)))
         | (apply And.intro;· first|(show indep _ _=true;kernel_rfl)|exact pA|exact⟨by omega,by omega⟩|exact⟨rfl,by decide⟩|exact pT|exact n1|exact n2|exact p1|(show Nat.beq _ _=false;rfl)|exact pX|exact pE|exact pY|exact q1|exact q2|exact raI _ _ (by simp;omega)|(rw[takeI];exact pY)|exact nd13)
         | (apply Exists.intro;apply And.intro;· first|exact rfl|exact cL|exact cW|exact cG|exact cB|exact gs|exact ga)
         | rw[hw2]
         | fail
        all_goals (conv=>whnf)
        all_goals refine VLoop.norm [5,7,8,10,11,12] [0,5,56,114] ?_
        repeat' (conv=>whnf);first
         | (refine bcase_of (fun hr=>?_) (fun hr=>?_)<;>(try simp only[bs] at hr)<;>try(exfalso;first|omega|(simp at hr;done)))
         | (apply And.intro;· first|(show indep _ _=true;kernel_rfl)|exact pA|exact⟨by omega,by omega⟩|exact⟨rfl,by decide⟩|exact pT|exact n1|exact n2|exact p1|(show Nat.beq _ _=false;rfl)|exact pX|exact pE|exact pY|exact q1|exact q2|(rw[addI];exact pure_I _)|exact nd13)
         | (apply Exists.intro;apply And.intro;· first|exact rfl|exact cL|exact cW|exact cG|exact cB|exact gs|exact ga)
         | fail
        try rw[hw2]
        rw[addI,show ys2.length+(([[i64V e.v]].drop 0).take 1).length=(ys2++[e.v]).length by simp]
        exact ih2 (true,ys2++[e.v],k+1) ⟨by simp only;omega,by simp only;rw[hvt,hys2,List.append_assoc],hpast3⟩ (by simp only;omega)
       ·rw[if_neg hef] at hvt
        repeat' (conv=>whnf);first
         | (refine bcase_of (fun hr=>?_) (fun hr=>?_)<;>(try simp only[bs] at hr)<;>try(exfalso;first|omega|(simp at hr;done)))
         | (apply And.intro;· first|(show indep _ _=true;kernel_rfl)|exact pA|exact⟨by omega,by omega⟩|exact⟨rfl,by decide⟩|exact pT|exact n1|exact n2|exact p1|(show Nat.beq _ _=false;rfl)|exact pX|exact pE|exact pY|exact q1|exact q2|exact raI _ _ (by simp;omega)|(rw[takeI];exact pY)|exact nd13)
         | (apply Exists.intro;apply And.intro;· first|exact rfl|exact cL|exact cW|exact cG|exact cB|exact gs|exact ga)
         | rw[hw2]
         | fail
        all_goals (conv=>whnf)
        all_goals refine VLoop.norm [5,7,8,10,11,12] [0,5,56,67] ?_
        repeat' (conv=>whnf);first
         | (refine bcase_of (fun hr=>?_) (fun hr=>?_)<;>(try simp only[bs] at hr)<;>try(exfalso;first|omega|(simp at hr;done)))
         | (apply And.intro;· first|(show indep _ _=true;kernel_rfl)|exact pA|exact⟨by omega,by omega⟩|exact⟨rfl,by decide⟩|exact pT|exact n1|exact n2|exact p1|(show Nat.beq _ _=false;rfl)|exact pX|exact pE|exact pY|exact q1|exact q2|exact raI _ _ (by simp;omega)|(rw[takeI];exact pY)|exact nd13)
         | (apply Exists.intro;apply And.intro;· first|exact rfl|exact cL|exact cW|exact cG|exact cB|exact gs|exact ga)
         | rw[hw2]
         | fail
        all_goals (conv=>whnf)
        exact ih2 (false,ys2,k+1) ⟨by simp only;omega,by simp only;rw[hvt,hys2],hpast3⟩ (by simp only;omega)
      ·skip
       all_goals exact kb44
    | true=>
     show VLoop _ _ _ (stQ2 M K C Tb a x true ys2 i k) _
     refine VLoop.unroll hE (mixedOf _) ?_
     cases hxe:f.2[k]? with
     | none=>
      have hxe':=List.getElem?_eq_none_iff.1 hxe
      have htk:f.2.take k=f.2:=List.take_of_length_le hxe'
      rw[htk] at hys2 hpast2
      repeat' (conv=>whnf);first
       | (refine bcase_of (fun hr=>?_) (fun hr=>?_)<;>(try simp only[bs] at hr)<;>try(exfalso;first|omega|(simp at hr;done)))
       | (apply And.intro;· first|(show indep _ _=true;kernel_rfl)|exact pA|exact⟨by omega,by omega⟩|exact⟨rfl,by decide⟩|exact pT|exact n1|exact n2|exact p1|(show Nat.beq _ _=false;rfl)|exact pX|exact pE|exact pY|exact q1|exact q2|exact nd13)
       | (apply Exists.intro;apply And.intro;· first|exact rfl|exact cL|exact cW|exact cG|exact cB|exact gs|exact ga)
       | rw[hw1]
       | fail
      all_goals (conv=>whnf)
      all_goals refine VLoop.norm [5,7,8,10,11] [0,5,56,114] ?_
      repeat' (conv=>whnf);first
       | (refine bcase_of (fun hr=>?_) (fun hr=>?_)<;>(try simp only[bs] at hr)<;>try(exfalso;first|omega|(simp at hr;done)))
       | (apply And.intro;· first|(show indep _ _=true;kernel_rfl)|exact pA|exact⟨by omega,by omega⟩|exact⟨rfl,by decide⟩|exact pT|exact n1|exact n2|exact p1|(show Nat.beq _ _=false;rfl)|exact pX|exact pE|exact pY|exact q1|exact q2|exact nd13)
       | (apply Exists.intro;apply And.intro;· first|exact rfl|exact cL|exact cW|exact cG|exact cB|exact gs|exact ga)
       | rw[hw1]
       | fail
      all_goals (conv=>whnf)
      refine ih (true,ys2,i+1) ⟨by simp only;omega,by simp only;rw[hys2,atC_take hx],?_⟩ (by simp only;omega)
      rw[List.take_add_one,hx]
      intro g hg
      rcases List.mem_append.1 hg with hg|hg
      ·exact hpast g hg
      ·have:g=f:=by simpa using hg
       rw[this];exact hpast2
     | some e=>
      have hkl:=(List.getElem?_eq_some_iff.1 hxe).1
      have ga:=getE hxe
      have q1:=pure_R e.p
      have q2:=pure_R e.q
      have hvt:=versF_take (fl:=a.fl) hxe
      by_cases hev:e.v<a.ver
      ·have hpast3:∀e'∈f.2.take (k+1),e'.v<a.ver:=fun e' he'=>by
        rw[List.take_add_one,hxe] at he'
        rcases List.mem_append.1 he' with h|h
        ·exact hpast2 e' h
        ·have:e'=e:=by simpa using h
         rw[this];exact hev
       by_cases hef:a.fl≤e.v
       ·rw[if_pos hef] at hvt
        repeat' (conv=>whnf);first
         | (refine bcase_of (fun hr=>?_) (fun hr=>?_)<;>(try simp only[bs] at hr)<;>try(exfalso;first|omega|(simp at hr;done)))
         | (apply And.intro;· first|(show indep _ _=true;kernel_rfl)|exact pA|exact⟨by omega,by omega⟩|exact⟨rfl,by decide⟩|exact pT|exact n1|exact n2|exact p1|(show Nat.beq _ _=false;rfl)|exact pX|exact pE|exact pY|exact q1|exact q2|exact raI _ _ (by simp;omega)|(rw[takeI];exact pY)|exact nd13)
         | (apply Exists.intro;apply And.intro;· first|exact rfl|exact cL|exact cW|exact cG|exact cB|exact gs|exact ga)
         | rw[hw2]
         | fail
        all_goals (conv=>whnf)
        all_goals refine VLoop.norm [5,7,8,10,11,12] [0,5,56,114] ?_
        repeat' (conv=>whnf);first
         | (refine bcase_of (fun hr=>?_) (fun hr=>?_)<;>(try simp only[bs] at hr)<;>try(exfalso;first|omega|(simp at hr;done)))
         | (apply And.intro;· first|(show indep _ _=true;kernel_rfl)|exact pA|exact⟨by omega,by omega⟩|exact⟨rfl,by decide⟩|exact pT|exact n1|exact n2|exact p1|(show Nat.beq _ _=false;rfl)|exact pX|exact pE|exact pY|exact q1|exact q2|(rw[addI];exact pure_I _)|exact nd13)
         | (apply Exists.intro;apply And.intro;· first|exact rfl|exact cL|exact cW|exact cG|exact cB|exact gs|exact ga)
         | fail
        try rw[hw2]
        rw[addI,show ys2.length+(([[i64V e.v]].drop 0).take 1).length=(ys2++[e.v]).length by simp]
        exact ih2 (true,ys2++[e.v],k+1) ⟨by simp only;omega,by simp only;rw[hvt,hys2,List.append_assoc],hpast3⟩ (by simp only;omega)
       ·rw[if_neg hef] at hvt
        repeat' (conv=>whnf);first
         | (refine bcase_of (fun hr=>?_) (fun hr=>?_)<;>(try simp only[bs] at hr)<;>try(exfalso;first|omega|(simp at hr;done)))
         | (apply And.intro;· first|(show indep _ _=true;kernel_rfl)|exact pA|exact⟨by omega,by omega⟩|exact⟨rfl,by decide⟩|exact pT|exact n1|exact n2|exact p1|(show Nat.beq _ _=false;rfl)|exact pX|exact pE|exact pY|exact q1|exact q2|exact raI _ _ (by simp;omega)|(rw[takeI];exact pY)|exact nd13)
         | (apply Exists.intro;apply And.intro;· first|exact rfl|exact cL|exact cW|exact cG|exact cB|exact gs|exact ga)
         | rw[hw2]
         | fail
        all_goals (conv=>whnf)
        all_goals refine VLoop.norm [5,7,8,10,11,12] [0,5,56,114] ?_
        repeat' (conv=>whnf);first
         | (refine bcase_of (fun hr=>?_) (fun hr=>?_)<;>(try simp only[bs] at hr)<;>try(exfalso;first|omega|(simp at hr;done)))
         | (apply And.intro;· first|(show indep _ _=true;kernel_rfl)|exact pA|exact⟨by omega,by omega⟩|exact⟨rfl,by decide⟩|exact pT|exact n1|exact n2|exact p1|(show Nat.beq _ _=false;rfl)|exact pX|exact pE|exact pY|exact q1|exact q2|exact raI _ _ (by simp;omega)|(rw[takeI];exact pY)|exact nd13)
         | (apply Exists.intro;apply And.intro;· first|exact rfl|exact cL|exact cW|exact cG|exact cB|exact gs|exact ga)
         | rw[hw2]
         | fail
        all_goals (conv=>whnf)
        exact ih2 (true,ys2,k+1) ⟨by simp only;omega,by simp only;rw[hvt,hys2],hpast3⟩ (by simp only;omega)
      ·skip
       all_goals exact kb44
 case ll=>
  rintro⟨sb,ys⟩ ⟨hys,hv⟩
  simp only at hys
  have hall:=atC_in (fl:=a.fl) (ver:=a.ver) (Tb:=Tb) hfv hv
  rw[←hys] at hall
  have h0:ys[0]?=some a.fl:=by rw[hys];rfl
  have h1:ys[1]?=some (a.ver-1):=by rw[hys];rfl
  have hyl:ys.length≤500:=by
   rw[hys]
   have:=atC_len (fl:=a.fl) (ver:=a.ver) (Tb:=Tb) fun f hf=>(hin f hf).2.2.2
   omega
  have h2l:2≤ys.length:=by rw[hys];simp[atC]
  have pX:=pure_I ys
  have lX:=lenI ys
  have gy:=getI h0
  have q1:=tScan hT a.fl
  have pF:=pure_Pr (scanT M Tb a.fl)
  refine cutLoops (C:=cxH) (E:=E) (b:=?bq2) (K:=?Kq2) (fun _:Unit=>mkSt 228 [(5,.ref (6,1) 0),(7,.ref (57,1) 0),(10,.lst 1 (IR ys)),(14,.nils),(15,i64V 0)] [(5,.box (encA a)),(56,.abs x)] []) (fun _=>True) (fun hh=>?nn) ?oo
  case nn=>
   cases sb
   all_goals
    refine VLoop.weak [.snapT 10] ?_
    repeat' (conv=>whnf);first
     | (refine bcase_of (fun hr=>?_) (fun hr=>?_)<;>(try simp only[bs] at hr)<;>try(exfalso;first|omega|(simp at hr;done)))
     | (apply And.intro;· first|exact⟨rfl,by simp[lenI]⟩|exact⟨rfl,Nat.le_of_ble_eq_true rfl⟩|(show indep _ _=true;kernel_rfl)|exact pA|exact⟨by omega,by omega⟩|exact⟨rfl,by decide⟩|exact pT|exact n1|exact n2|exact p1|(show Nat.beq _ _=false;rfl)|exact pX|(rw[takeI];exact pX)|exact nd13)
     | (apply Exists.intro;apply And.intro;· first|exact rfl)
     | fail
    refine VLoop.norm [5,7,10,14,15] [5,56] ?_
    repeat' (conv=>whnf);first
     | (refine bcase_of (fun hr=>?_) (fun hr=>?_)<;>(try simp only[bs] at hr)<;>try(exfalso;first|omega|(simp at hr;done)))
     | (apply And.intro;· first|exact⟨rfl,by simp[lenI]⟩|exact⟨rfl,Nat.le_of_ble_eq_true rfl⟩|(show indep _ _=true;kernel_rfl)|exact pA|exact⟨by omega,by omega⟩|exact⟨rfl,by decide⟩|exact pT|exact n1|exact n2|exact p1|(show Nat.beq _ _=false;rfl)|exact pX|(rw[takeI];exact pX)|exact nd13)
     | (apply Exists.intro;apply And.intro;· first|exact rfl)
     | fail
    rw[takeI]
    exact hh () trivial
  case oo=>
  rintro _ _
  refine VLoop.unroll hE (mixedOf _) ?_
  repeat' (conv=>whnf);first
   | (refine bcase_of (fun hr=>?_) (fun hr=>?_)<;>(try simp only[bs] at hr)<;>try(exfalso;first|omega|(simp at hr;done)))
   | (apply And.intro;· first|(show indep _ _=true;kernel_rfl)|exact pA|exact⟨by omega,by omega⟩|exact⟨rfl,by decide⟩|exact pT|exact n1|exact n2|exact p1|(show Nat.beq _ _=false;rfl)|exact pX|exact pF|exact⟨nb rfl,nb rfl⟩|exact pure_W [_]|exact nd13)
   | (apply Exists.intro;apply And.intro;· first|exact rfl|exact cL|exact cW|exact cG|exact cB|exact gs|exact ga|exact gy)
   | (apply Exists.intro;apply And.intro;· first|(refine ATriple.callK (q1) ?_ ?_ ?_ ?_<;>first|rfl|(intro d;rfl)))
   | fail
  all_goals (conv=>whnf)
  all_goals refine VLoop.norm [5,7,10,14,15] [5,56,129] ?_
  repeat' (conv=>whnf);first
   | (refine bcase_of (fun hr=>?_) (fun hr=>?_)<;>(try simp only[bs] at hr)<;>try(exfalso;first|omega|(simp at hr;done)))
   | (apply And.intro;· first|(show indep _ _=true;kernel_rfl)|exact pA|exact⟨by omega,by omega⟩|exact⟨rfl,by decide⟩|exact pT|exact n1|exact n2|exact p1|(show Nat.beq _ _=false;rfl)|exact pX|exact pF|exact⟨nb rfl,nb rfl⟩|exact pure_W [_]|exact nd13)
   | (apply Exists.intro;apply And.intro;· first|exact rfl|exact cL|exact cW|exact cG|exact cB|exact gs|exact ga|exact gy)
   | (apply Exists.intro;apply And.intro;· first|(refine ATriple.callK (q1) ?_ ?_ ?_ ?_<;>first|rfl|(intro d;rfl)))
   | fail
  all_goals (conv=>whnf)
  refine VLoop.inv (fun z:List Prs×Nat=>stQ4 a x ys z.1 z.2) (fun z=>z.2≤ys.length∧z.1=(ys.take z.2).map (scanT M Tb)) (fun z=>ys.length-z.2) ([scanT M Tb a.fl],1) ⟨by simp only;omega,by simp only;rw[hys];rfl⟩ rfl ?_
  rintro⟨ws,i⟩ ⟨hi,hws⟩ ih
  simp only at hi hws ih
  have hwl:ws.length≤500:=by rw[hws,List.length_map,List.length_take];omega
  have pW:=pure_W ws
  have hw3:IntKind.i64.wrap ((i:Int)+1)=((i+1:Nat):Int):=wrap64 (by omega) (by omega)
  show VLoop _ _ _ (stQ4 a x ys ws i) _
  refine VLoop.unroll hE (mixedOf _) ?_
  cases hyi:ys[i]? with
  | none=>
   have hx':=List.getElem?_eq_none_iff.1 hyi
   have hi2:i=ys.length:=by omega
   rw[hi2,List.take_length] at hws
   obtain⟨x1,i1,aP,hT1,hi1⟩:=tPut_ok hT (by omega) ha.1 a.ver ha.2 a.i a.fl
   obtain⟨hrp1,hrp2⟩:=reads_put (m:=M) (keep:=K) (cap:=C) (k:=a.k) (c:=a.c) (b:=a.i) (floor:=a.fl) hs hv
   obtain⟨er,T1,hTP⟩:∃er T1,tPut M K C Tb a.k a.ver a.c a.i a.fl=(er,T1):=⟨_,_,rfl⟩
   rw[hTP] at aP hT1 hrp1 hrp2
   simp only at aP hT1 hrp1 hrp2
   have aA:=tAt hT1 ha.1 a.ver
   have hra:=reads_at (m:=M) (keep:=K) (cap:=C) (k:=a.k) (c:=a.c) (b:=a.i) (floor:=a.fl) hs hv
   rw[hTP] at hra
   simp only at hra
   obtain⟨c2,th,hc2,hck,hcc⟩:∃(c2:En) (th:Bool),atV (atS M (chT T1 a.k) a.ver)=.tup [cellV c2.n c2.a c2.b c2.p c2.q,.bool th]∧EnOk c2∧(er=0→th=a.i∧c2.n=a.c.n∧c2.a=a.c.a∧c2.b=a.c.b∧c2.p=a.c.p∧c2.q=a.c.q):=by
    by_cases h0:er=0
    ·exact⟨a.c,a.i,hra h0,⟨ha.2.lp,ha.2.lq⟩,fun _=>⟨rfl,rfl,rfl,rfl,rfl,rfl⟩⟩
    ·cases hat:atS M (chT T1 a.k) a.ver with
     | none=>exact⟨⟨0,0,0,0,0,[],[]⟩,false,rfl,⟨by simp,by simp⟩,fun h=>absurd h h0⟩
     | some c=>exact⟨c,true,rfl,atS_ok (fun e he=>by have:=(hT1.chIn a.k).1.2 e he;exact⟨this.lp,this.lq⟩) hat,fun h=>absurd h h0⟩
   rw[hc2] at aA
   have aPb:∀bi,a.i=bi→ATriple Tryz.prog gv R0 22 [.ref (0,0) 0,coV a.k,i64V a.ver,cellE a.c,.bool bi,i64V a.fl] [.abs x] (i64V er) [.abs x1] none:=fun bi h=>by rw[←h];exact aP
   have hrs:∀y∈ys,scanT M T1 y=scanT M Tb y:=fun y hy=>hrp2 y (hall y hy).1 (hall y hy).2
   have o1:=pure_R c2.p
   have o2:=pure_R c2.q
   have lW:=lenW ws
   have hwy:ws.length=ys.length:=by rw[hws,List.length_map]
   have hTin:=hT.tin
   have hsl:∀y,(scanT M Tb y).length≤100000:=fun y=>by have:=scanT_len M Tb y;omega
   refine cutLoops (C:=cxH) (E:=E) (b:=?bq3) (K:=?Kq3) (fun _:Unit=>stQ5 a x1 ys ws 0) (fun _=>True) (fun hh=>?uu) ?vv
   case uu=>
    by_cases h0:er=0
    ·obtain⟨u1,u2,u3,u4,u5,u6⟩:=hcc h0
     have cS:PTriple Tryz.prog gv 24 [cellV c2.n c2.a c2.b c2.p c2.q,cellV a.c.n a.c.a a.c.b a.c.p a.c.q] (.bool true):=by
      have:=same9_ok c2.n c2.a c2.b a.c.n a.c.a a.c.b c2.p c2.q a.c.p a.c.q hck.1 hck.2 ha.2.lp ha.2.lq
      rw[decide_eq_true ⟨u2,u3,u4,u5,u6⟩] at this
      exact this
     subst u1
     repeat' (conv=>whnf);first
      | (refine bcase_of (fun hr=>?_) (fun hr=>?_)<;>(try simp only[bs] at hr)<;>try(exfalso;first|omega|(simp at hr;done)|(rw[‹a.i=true›] at hr;cases hr;done)|(rw[‹a.i=false›] at hr;cases hr;done)))
      | (apply And.intro;· first|(show indep _ _=true;kernel_rfl)|exact pA|exact⟨by omega,by omega⟩|exact⟨rfl,by decide⟩|exact pT|exact n1|exact n2|exact p1|(show Nat.beq _ _=false;rfl)|exact pX|exact pW|exact o1|exact o2|exact nd13)
      | (apply Exists.intro;apply And.intro;· first|exact rfl|exact cL|exact cW|exact cG|exact cB|exact gs|exact ga|exact cS)
      | (apply Exists.intro;apply Exists.intro;apply Exists.intro;apply And.intro;· first|(refine ATriple.callN (aPb _ (by assumption)) ?_ ?_ ?_<;>rfl))
      | (apply Exists.intro;apply And.intro;· first|(refine ATriple.callK (aA) ?_ ?_ ?_ ?_<;>first|rfl|(intro d;rfl)))
      | fail
     all_goals (conv=>whnf)
     all_goals refine VLoop.weak [.snapT 14] ?_
     repeat' (conv=>whnf);first
      | (refine bcase_of (fun hr=>?_) (fun hr=>?_)<;>(try simp only[bs] at hr)<;>try(exfalso;first|omega|(simp at hr;done)))
      | (apply And.intro;· first|exact⟨rfl,by simp[lenW]⟩|(show indep _ _=true;kernel_rfl)|exact pA|exact⟨by omega,by omega⟩|exact⟨rfl,by decide⟩|exact pT|exact n1|exact n2|exact p1|(show Nat.beq _ _=false;rfl)|exact pX|exact pW|(rw[takeW];exact pW)|exact nd13)
      | (apply Exists.intro;apply And.intro;· first|exact rfl)
      | fail
     all_goals refine VLoop.norm [5,7,10,14,19] [5,56] ?_
     all_goals exact kb45
    ·skip
     repeat' (conv=>whnf);first
      | (refine bcase_of (fun hr=>?_) (fun hr=>?_)<;>(try simp only[bs] at hr)<;>try(exfalso;first|omega|(simp at hr;done)|(rw[‹a.i=true›] at hr;cases hr;done)|(rw[‹a.i=false›] at hr;cases hr;done)))
      | (apply And.intro;· first|(show indep _ _=true;kernel_rfl)|exact pA|exact⟨by omega,by omega⟩|exact⟨rfl,by decide⟩|exact pT|exact n1|exact n2|exact p1|(show Nat.beq _ _=false;rfl)|exact pX|exact pW|exact o1|exact o2|exact nd13)
      | (apply Exists.intro;apply And.intro;· first|exact rfl|exact cL|exact cW|exact cG|exact cB|exact gs|exact ga|exact cS)
      | (apply Exists.intro;apply Exists.intro;apply Exists.intro;apply And.intro;· first|(refine ATriple.callN (aPb _ (by assumption)) ?_ ?_ ?_<;>rfl))
      | (apply Exists.intro;apply And.intro;· first|(refine ATriple.callK (aA) ?_ ?_ ?_ ?_<;>first|rfl|(intro d;rfl)))
      | fail
     all_goals (conv=>whnf)
     all_goals refine VLoop.weak [.snapT 14] ?_
     repeat' (conv=>whnf);first
      | (refine bcase_of (fun hr=>?_) (fun hr=>?_)<;>(try simp only[bs] at hr)<;>try(exfalso;first|omega|(simp at hr;done)))
      | (apply And.intro;· first|exact⟨rfl,by simp[lenW]⟩|(show indep _ _=true;kernel_rfl)|exact pA|exact⟨by omega,by omega⟩|exact⟨rfl,by decide⟩|exact pT|exact n1|exact n2|exact p1|(show Nat.beq _ _=false;rfl)|exact pX|exact pW|(rw[takeW];exact pW)|exact nd13)
      | (apply Exists.intro;apply And.intro;· first|exact rfl)
      | fail
     all_goals refine VLoop.norm [5,7,10,14,19] [5,56] ?_
     all_goals exact kb45
   case vv=>
   rintro _ _
   refine VLoop.inv (fun j:Nat=>stQ5 a x1 ys ws j) (fun j=>j≤ys.length) (fun j=>ys.length-j) 0 (Nat.zero_le _) rfl ?_
   intro j hj ih4
   have hw4:IntKind.i64.wrap ((j:Int)+1)=((j+1:Nat):Int):=wrap64 (by omega) (by omega)
   refine VLoop.unroll hE (mixedOf _) ?_
   cases hyj:ys[j]? with
   | none=>
    have hxj:=List.getElem?_eq_none_iff.1 hyj
    obtain⟨x2,i2,aU,hT2,hi2⟩:=tUndo_ok hT1 (by omega) ha.1 a.ver
    obtain⟨hru1,hru2,hru3⟩:=reads_undo (m:=M) (keep:=K) (cap:=C) (k:=a.k) (c:=a.c) (b:=a.i) (floor:=a.fl) hs hv hfv T1 (by rw[hTP]) _ rfl
    obtain⟨bu,T2,hTU⟩:∃bu T2,tUndo M C T1 a.k a.ver=(bu,T2):=⟨_,_,rfl⟩
    rw[hTU] at aU hT2 hru1 hru2 hru3
    simp only at aU hT2 hru1 hru2 hru3
    have aN:=tUndo_no hT2 ha.1 a.ver hru2
    have qv:=tScan hT2 a.ver
    rw[hru3] at qv
    have gw1:lget (WR ws) ((1:Nat):Int).toNat=some [prsV (scanT M Tb (a.ver-1))]:=getW (by rw[hws,List.getElem?_map,h1];rfl)
    have c25:=samePr (scanT M Tb (a.ver-1)) (hsl _) (scanT_ok hTin _)
    have pV:=pure_Pr (scanT M Tb (a.ver-1))
    refine cutLoops (C:=cxH) (E:=E) (b:=?bq4) (K:=?Kq4) (fun _:Unit=>stQ6 a x2 ys ws 0) (fun _=>True) (fun hh=>?u4) ?v4
    case u4=>
     repeat' (conv=>whnf);first
      | (refine bcase_of (fun hr=>?_) (fun hr=>?_)<;>(try simp only[bs] at hr)<;>try(exfalso;first|omega|(simp at hr;done)))
      | (apply And.intro;· first|(show indep _ _=true;kernel_rfl)|exact pA|exact⟨by omega,by omega⟩|exact⟨rfl,by decide⟩|exact pT|exact n1|exact n2|exact p1|(show Nat.beq _ _=false;rfl)|exact pX|exact pW|exact nd13)
      | (apply Exists.intro;apply And.intro;· first|exact rfl|exact cL|exact cW|exact cG|exact cB|exact gs|exact ga)
      | (apply Or.inr;apply Exists.intro;apply Exists.intro;apply And.intro;· (refine ATriple.callE (obs1:=[.abs x2]) aU ?_ ?_ ?_ ?_ ?_<;>first|rfl|(intro d;rfl)))
      | fail
     all_goals (conv=>whnf)
     all_goals refine VLoop.norm [5,7,10,14,20] [5,56] ?_
     repeat' (conv=>whnf);first
      | (refine bcase_of (fun hr=>?_) (fun hr=>?_)<;>(try simp only[bs] at hr)<;>try(exfalso;first|omega|(simp at hr;done)))
      | (apply And.intro;· first|(show indep _ _=true;kernel_rfl)|exact pA|exact⟨by omega,by omega⟩|exact⟨rfl,by decide⟩|exact pT|exact n1|exact n2|exact p1|(show Nat.beq _ _=false;rfl)|exact pX|exact pW|exact nd13)
      | (apply Exists.intro;apply And.intro;· first|exact rfl|exact cL|exact cW|exact cG|exact cB|exact gs|exact ga)
      | (apply Or.inr;apply Exists.intro;apply Exists.intro;apply And.intro;· (refine ATriple.callE (obs1:=[.abs x2]) aU ?_ ?_ ?_ ?_ ?_<;>first|rfl|(intro d;rfl)))
      | fail
     all_goals (conv=>whnf)
     all_goals exact hh () trivial
    case v4=>
    rintro _ _
    refine VLoop.inv (fun j:Nat=>stQ6 a x2 ys ws j) (fun j=>j≤ys.length) (fun j=>ys.length-j) 0 (Nat.zero_le _) rfl ?_
    intro n hn ih5
    have hw5:IntKind.i64.wrap ((n:Int)+1)=((n+1:Nat):Int):=wrap64 (by omega) (by omega)
    refine VLoop.unroll hE (mixedOf _) ?_
    cases hyn:ys[n]? with
    | none=>
     have hxn:=List.getElem?_eq_none_iff.1 hyn
     repeat' (conv=>whnf);first
      | (refine bcase_of (fun hr=>?_) (fun hr=>?_)<;>(try simp only[bs] at hr)<;>try(exfalso;first|omega|(simp at hr;done)))
      | (apply And.intro;· first|(show indep _ _=true;kernel_rfl)|exact pA|exact⟨by omega,by omega⟩|exact⟨rfl,by decide⟩|exact pT|exact n1|exact n2|exact p1|(show Nat.beq _ _=false;rfl)|exact pX|exact pW|exact pV|exact nd13)
      | (apply Exists.intro;apply And.intro;· first|exact rfl|exact cL|exact cW|exact cG|exact cB|exact gs|exact ga|exact gw1|exact c25)
      | (apply Or.inl;apply Exists.intro;apply And.intro;· (refine ATriple.callK (aN) ?_ ?_ ?_ ?_<;>first|rfl|(intro d;rfl)))
      | (apply Exists.intro;apply And.intro;· first|(refine ATriple.callK (qv) ?_ ?_ ?_ ?_<;>first|rfl|(intro d;rfl)))
      | fail
     all_goals (conv=>whnf)
     all_goals rfl
    | some y=>
     have hjl:=(List.getElem?_eq_some_iff.1 hyn).1
     have hym:=List.mem_of_getElem? hyn
     have gy:=getI hyn
     have gw:=getW (ws:=ws) (i:=n) (s:=scanT M Tb y) (by rw[hws,List.getElem?_map,hyn];rfl)
     have qy:=tScan hT2 y
     rw[hru1 y (hall y hym).1] at qy
     have cy:=samePr (scanT M Tb y) (hsl _) (scanT_ok hTin _)
     have pS:=pure_Pr (scanT M Tb y)
     repeat' (conv=>whnf);first
      | (refine bcase_of (fun hr=>?_) (fun hr=>?_)<;>(try simp only[bs] at hr)<;>try(exfalso;first|omega|(simp at hr;done)))
      | (apply And.intro;· first|(show indep _ _=true;kernel_rfl)|exact pA|exact⟨by omega,by omega⟩|exact⟨rfl,by decide⟩|exact pT|exact n1|exact n2|exact p1|(show Nat.beq _ _=false;rfl)|exact pX|exact pW|exact pS|exact nd13)
      | (apply Exists.intro;apply And.intro;· first|exact rfl|exact cL|exact cW|exact cG|exact cB|exact gs|exact ga|exact gy|exact gw|exact cy)
      | rw[hw5]
      | (apply Exists.intro;apply And.intro;· first|(refine ATriple.callK (qy) ?_ ?_ ?_ ?_<;>first|rfl|(intro d;rfl)))
      | fail
     all_goals (conv=>whnf)
     refine VLoop.norm [5,7,10,14,20] [5,56] ?_
     repeat' (conv=>whnf);first
      | (refine bcase_of (fun hr=>?_) (fun hr=>?_)<;>(try simp only[bs] at hr)<;>try(exfalso;first|omega|(simp at hr;done)))
      | (apply And.intro;· first|(show indep _ _=true;kernel_rfl)|exact pA|exact⟨by omega,by omega⟩|exact⟨rfl,by decide⟩|exact pT|exact n1|exact n2|exact p1|(show Nat.beq _ _=false;rfl)|exact pX|exact pW|exact pS|exact nd13)
      | (apply Exists.intro;apply And.intro;· first|exact rfl|exact cL|exact cW|exact cG|exact cB|exact gs|exact ga|exact gy|exact gw|exact cy)
      | rw[hw5]
      | (apply Exists.intro;apply And.intro;· first|(refine ATriple.callK (qy) ?_ ?_ ?_ ?_<;>first|rfl|(intro d;rfl)))
      | fail
     try rw[hw5]
     exact ih5 (n+1) (by omega) (by omega)
   | some y=>
    have hjl:=(List.getElem?_eq_some_iff.1 hyj).1
    have hym:=List.mem_of_getElem? hyj
    have gy:=getI hyj
    have gw:=getW (ws:=ws) (i:=j) (s:=scanT M Tb y) (by rw[hws,List.getElem?_map,hyj];rfl)
    have qy:=tScan hT1 y
    rw[hrs y hym] at qy
    have cy:=samePr (scanT M Tb y) (hsl _) (scanT_ok hTin _)
    have pS:=pure_Pr (scanT M Tb y)
    repeat' (conv=>whnf);first
     | (refine bcase_of (fun hr=>?_) (fun hr=>?_)<;>(try simp only[bs] at hr)<;>try(exfalso;first|omega|(simp at hr;done)))
     | (apply And.intro;· first|(show indep _ _=true;kernel_rfl)|exact pA|exact⟨by omega,by omega⟩|exact⟨rfl,by decide⟩|exact pT|exact n1|exact n2|exact p1|(show Nat.beq _ _=false;rfl)|exact pX|exact pW|exact pS|exact nd13)
     | (apply Exists.intro;apply And.intro;· first|exact rfl|exact cL|exact cW|exact cG|exact cB|exact gs|exact ga|exact gy|exact gw|exact cy)
     | rw[hw4]
     | (apply Exists.intro;apply And.intro;· first|(refine ATriple.callK (qy) ?_ ?_ ?_ ?_<;>first|rfl|(intro d;rfl)))
     | fail
    all_goals (conv=>whnf)
    refine VLoop.norm [5,7,10,14,19] [5,56] ?_
    repeat' (conv=>whnf);first
     | (refine bcase_of (fun hr=>?_) (fun hr=>?_)<;>(try simp only[bs] at hr)<;>try(exfalso;first|omega|(simp at hr;done)))
     | (apply And.intro;· first|(show indep _ _=true;kernel_rfl)|exact pA|exact⟨by omega,by omega⟩|exact⟨rfl,by decide⟩|exact pT|exact n1|exact n2|exact p1|(show Nat.beq _ _=false;rfl)|exact pX|exact pW|exact pS|exact nd13)
     | (apply Exists.intro;apply And.intro;· first|exact rfl|exact cL|exact cW|exact cG|exact cB|exact gs|exact ga|exact gy|exact gw|exact cy)
     | rw[hw4]
     | (apply Exists.intro;apply And.intro;· first|(refine ATriple.callK (qy) ?_ ?_ ?_ ?_<;>first|rfl|(intro d;rfl)))
     | fail
    try rw[hw4]
    exact ih4 (j+1) (by omega) (by omega)
  | some y=>
   have hil:=(List.getElem?_eq_some_iff.1 hyi).1
   have gy:=getI hyi
   have q2:=tScan hT y
   have pF2:=pure_Pr (scanT M Tb y)
   repeat' (conv=>whnf);first
    | (refine bcase_of (fun hr=>?_) (fun hr=>?_)<;>(try simp only[bs] at hr)<;>try(exfalso;first|omega|(simp at hr;done)))
    | (apply And.intro;· first|(show indep _ _=true;kernel_rfl)|exact pA|exact⟨by omega,by omega⟩|exact⟨rfl,by decide⟩|exact pT|exact n1|exact n2|exact p1|(show Nat.beq _ _=false;rfl)|exact pX|exact pF2|exact pW|exact raW _ _ (by simp;omega)|(rw[takeW];exact pW)|exact nd13)
    | (apply Exists.intro;apply And.intro;· first|exact rfl|exact cL|exact cW|exact cG|exact cB|exact gs|exact ga|exact gy)
    | rw[hw3]
    | (apply Exists.intro;apply And.intro;· first|(refine ATriple.callK (q2) ?_ ?_ ?_ ?_<;>first|rfl|(intro d;rfl)))
    | fail
   all_goals (conv=>whnf)
   all_goals refine VLoop.norm [5,7,10,14,15] [5,56,129] ?_
   repeat' (conv=>whnf);first
    | (refine bcase_of (fun hr=>?_) (fun hr=>?_)<;>(try simp only[bs] at hr)<;>try(exfalso;first|omega|(simp at hr;done)))
    | (apply And.intro;· first|(show indep _ _=true;kernel_rfl)|exact pA|exact⟨by omega,by omega⟩|exact⟨rfl,by decide⟩|exact pT|exact n1|exact n2|exact p1|(show Nat.beq _ _=false;rfl)|exact pX|exact pF2|(rw[addW];exact pure_W _)|exact nd13)
    | (apply Exists.intro;apply And.intro;· first|exact rfl|exact cL|exact cW|exact cG|exact cB|exact gs|exact ga)
    | fail
   try rw[hw3]
   rw[addW,show ws.length+(([[prsV (scanT M Tb y)]].drop 0).take 1).length=(ws++[scanT M Tb y]).length by simp]
   exact ih (ws++[scanT M Tb y],i+1) ⟨by simp only;omega,by simp only;rw[hws,List.take_add_one,hyi];simp⟩ (by simp only;omega)
end Go.Proofs.YtbppemcdphgknaaGreatDoor
