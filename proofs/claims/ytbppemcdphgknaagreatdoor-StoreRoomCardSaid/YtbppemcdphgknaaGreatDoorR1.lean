/- A part of the proofs over the seat YtbppemcdphgknaaGreatDoor. -/
import Derived.Test.YtbppemcdphgknaaGreatDoorZCx
import Derived.Test.YtbppemcdphgknaaGreatDoorV24
set_option linter.unusedVariables false
set_option linter.unusedSimpArgs false
set_option maxRecDepth 100000
set_option maxHeartbeats 40000000
namespace Go.Proofs.YtbppemcdphgknaaGreatDoor.T
open Go Go.Vm
set_option maxRecDepth 100000
set_option maxHeartbeats 4000000
set_option linter.unusedSimpArgs false
set_option linter.unusedVariables false
abbrev i64V (n:Int):V:=.int .i64 n
abbrev u32V (n:Int):V:=.int .u32 n
structure Blk where
 n:Int
 k0:Int
 k1:Int
 k2:Int
 k3:Int
 k4:Int
 k5:Int
 v0:Int
 v1:Int
 v2:Int
 v3:Int
 v4:Int
 v5:Int
abbrev bc (b:Blk):List V:=[i64V b.n,u32V b.k0,u32V b.k1,u32V b.k2,u32V b.k3,u32V b.k4,u32V b.k5,i64V b.v0,i64V b.v1,i64V b.v2,i64V b.v3,i64V b.v4,i64V b.v5]
abbrev bV (b:Blk):V:=.agg (bc b)
abbrev GoodP (b:Blk):Prop:=0≤b.n∧b.n≤6∧(1<b.n→b.k0<b.k1)∧(2<b.n→b.k1<b.k2)∧(3<b.n→b.k2<b.k3)∧(4<b.n→b.k3<b.k4)∧(5<b.n→b.k4<b.k5)∧(b.n≤0→b.k0=0∧b.v0=0)∧(b.n≤1→b.k1=0∧b.v1=0)∧(b.n≤2→b.k2=0∧b.v2=0)∧(b.n≤3→b.k3=0∧b.v3=0)∧(b.n≤4→b.k4=0∧b.v4=0)∧(b.n≤5→b.k5=0∧b.v5=0)
def goodB (b:Blk):Bool:=decide (0≤b.n∧b.n≤6∧(1<b.n→b.k0<b.k1)∧(2<b.n→b.k1<b.k2)∧(3<b.n→b.k2<b.k3)∧(4<b.n→b.k3<b.k4)∧(5<b.n→b.k4<b.k5)∧(b.n≤0→b.k0=0∧b.v0=0)∧(b.n≤1→b.k1=0∧b.v1=0)∧(b.n≤2→b.k2=0∧b.v2=0)∧(b.n≤3→b.k3=0∧b.v3=0)∧(b.n≤4→b.k4=0∧b.v4=0)∧(b.n≤5→b.k5=0∧b.v5=0))
theorem goodB_iff (b:Blk):goodB b=true↔GoodP b:=by simp only[goodB,decide_eq_true_eq]
theorem wrapI64 {n:Int} (h : -9223372036854775808≤n) (h':n≤9223372036854775807):IntKind.i64.wrap n=n:=wrap64 h h'
theorem good_t (b:Blk) (h:GoodP b):V.bool true=V.bool (goodB b):=by rw[(goodB_iff b).2 h]
theorem good_f (b:Blk) (h:¬GoodP b):V.bool false=V.bool (goodB b):=by
 cases e:goodB b
 ·rfl
 ·exact absurd ((goodB_iff b).1 e) h
theorem good_ok (b:Blk):PTriple Tryz.prog gv 176 [bV b] (.bool (goodB b)):=by
 obtain⟨n,k0,k1,k2,k3,k4,k5,v0,v1,v2,v3,v4,v5⟩:=b
 have hn:n<0∨6<n∨n=0∨n=1∨n=2∨n=3∨n=4∨n=5∨n=6:=by omega
 rcases hn with hn|hn|rfl|rfl|rfl|rfl|rfl|rfl|rfl
 all_goals refine PTriple.of_body (C:=cx) Tryz.func176 rfl (by kernel_rfl) mixed fun E hE=>?_
 all_goals
  repeat' (conv=>whnf);first
   | (refine bcase_of (fun hr=>?_) (fun hr=>?_)<;>(try simp at hr)<;>try omega)
   | (apply And.intro;· first|exact nd5)
   | (apply Exists.intro;apply And.intro;· first|exact rfl)
   | refine VLoop.unroll hE mixed ?_
   | fail
 all_goals (conv=>whnf)
 all_goals (first|exact good_t _ (by dsimp only[GoodP];omega)|exact good_f _ (by dsimp only[GoodP];omega))
end Go.Proofs.YtbppemcdphgknaaGreatDoor.T
namespace Go.Proofs.YtbppemcdphgknaaGreatDoor.T
open Go Go.Vm
abbrev hP (x:Int×Int):List V:=[u32V x.1,i64V x.2]
def B:List (Int×Int)→Blk
 | []=>⟨0,0,0,0,0,0,0,0,0,0,0,0,0⟩
 | [a]=>⟨1,a.1,0,0,0,0,0,a.2,0,0,0,0,0⟩
 | [a,b]=>⟨2,a.1,b.1,0,0,0,0,a.2,b.2,0,0,0,0⟩
 | [a,b,c]=>⟨3,a.1,b.1,c.1,0,0,0,a.2,b.2,c.2,0,0,0⟩
 | [a,b,c,d]=>⟨4,a.1,b.1,c.1,d.1,0,0,a.2,b.2,c.2,d.2,0,0⟩
 | [a,b,c,d,e]=>⟨5,a.1,b.1,c.1,d.1,e.1,0,a.2,b.2,c.2,d.2,e.2,0⟩
 | [a,b,c,d,e,f]=>⟨6,a.1,b.1,c.1,d.1,e.1,f.1,a.2,b.2,c.2,d.2,e.2,f.2⟩
 | _=>⟨7,0,0,0,0,0,0,0,0,0,0,0,0⟩
structure Lg (l:List (Int×Int)):Prop where
 srt:l.Pairwise fun a b=>a.1<b.1
 len:l.length≤6
theorem len_cases {l:List (Int×Int)} (h:l.length≤6):(l=[])∨(∃a,l=[a])∨(∃a b,l=[a,b])∨(∃a b c,l=[a,b,c])∨(∃a b c d,l=[a,b,c,d])∨(∃a b c d e,l=[a,b,c,d,e])∨(∃a b c d e f,l=[a,b,c,d,e,f]):=by
 match l,h with
 | [],_=>exact .inl rfl
 | [a],_=>exact .inr (.inl ⟨a,rfl⟩)
 | [a,b],_=>exact .inr (.inr (.inl ⟨a,b,rfl⟩))
 | [a,b,c],_=>exact .inr (.inr (.inr (.inl ⟨a,b,c,rfl⟩)))
 | [a,b,c,d],_=>exact .inr (.inr (.inr (.inr (.inl ⟨a,b,c,d,rfl⟩))))
 | [a,b,c,d,e],_=>exact .inr (.inr (.inr (.inr (.inr (.inl ⟨a,b,c,d,e,rfl⟩)))))
 | [a,b,c,d,e,f],_=>exact .inr (.inr (.inr (.inr (.inr (.inr (⟨a,b,c,d,e,f,rfl⟩))))))
theorem goodB_B {l:List (Int×Int)} (hl:Lg l):goodB (B l)=true:=by
 obtain⟨h,hn⟩:=hl
 rw[goodB_iff]
 rcases len_cases (hn) with rfl|⟨a,rfl⟩|⟨a,b,rfl⟩|⟨a,b,c,rfl⟩|⟨a,b,c,d,rfl⟩|⟨a,b,c,d,e,rfl⟩|⟨a,b,c,d,e,f,rfl⟩
 all_goals ((try simp only[List.pairwise_cons,List.mem_cons,List.not_mem_nil,forall_eq_or_imp,or_false,forall_eq] at h);dsimp only[GoodP,B];omega)
def rank:List (Int×Int)→Int→Int
 | [],_=>0
 | a::r,k=>if a.1<k then rank r k+1 else 0
def has:List (Int×Int)→Int→Bool
 | [],_=>false
 | a::r,k=>if a.1<k then has r k else a.1==k
def lay:List (Int×Int)→Int→Int→List (Int×Int)
 | [],k,v=>[(k,v)]
 | a::r,k,v=>if a.1<k then a::lay r k v else if a.1=k then(k,v)::r else(k,v)::a::r
def out (l:List (Int×Int)) (k:Int):List (Int×Int):=l.filter fun x=>x.1 != k
theorem find_ok (l:List (Int×Int)) (hl:Lg l) (k:Int):PTriple Tryz.prog gv 152 [bV (B l),u32V k] (.tup [i64V (rank l k),.bool (has l k)]):=by
 have c1:=good_ok (B l)
 rw[goodB_B hl] at c1
 rcases len_cases (hl.len) with rfl|⟨a,rfl⟩|⟨a,b,rfl⟩|⟨a,b,c,rfl⟩|⟨a,b,c,d,rfl⟩|⟨a,b,c,d,e,rfl⟩|⟨a,b,c,d,e,f,rfl⟩
 all_goals clear hl
 all_goals refine PTriple.of_body (C:=cx) Tryz.func152 rfl (by kernel_rfl) mixed fun E hE=>?_
 all_goals
  repeat' (conv=>whnf);first
   | (refine bcase_of (fun hr=>?_) (fun hr=>?_)<;>(try simp only[decide_eq_true_eq,decide_eq_false_iff_not] at hr)<;>(try dsimp only[B] at hr))
   | (apply And.intro;· first|exact nd5)
   | (apply Exists.intro;apply And.intro;· first|exact rfl|exact c1)
   | refine VLoop.unroll hE mixed ?_
   | fail
 all_goals (conv=>whnf)
 all_goals first|rfl|(simp[rank,has, *];done)|(simp[rank,has, *];rfl)
end Go.Proofs.YtbppemcdphgknaaGreatDoor.T
namespace Go.Proofs.YtbppemcdphgknaaGreatDoor.T
open Go Go.Vm
def keyB (b:Blk) (i:Int):Int:=if i=0 then b.k0 else if i=1 then b.k1 else if i=2 then b.k2 else if i=3 then b.k3 else if i=4 then b.k4 else if i=5 then b.k5 else 0
def valB (b:Blk) (i:Int):Int:=if i=0 then b.v0 else if i=1 then b.v1 else if i=2 then b.v2 else if i=3 then b.v3 else if i=4 then b.v4 else if i=5 then b.v5 else 0
def ofB (b:Blk) (f t:Int):Blk:=⟨t-f,(if 0<t-f then keyB b (f+0) else 0),(if 1<t-f then keyB b (f+1) else 0),(if 2<t-f then keyB b (f+2) else 0),(if 3<t-f then keyB b (f+3) else 0),(if 4<t-f then keyB b (f+4) else 0),(if 5<t-f then keyB b (f+5) else 0),(if 0<t-f then valB b (f+0) else 0),(if 1<t-f then valB b (f+1) else 0),(if 2<t-f then valB b (f+2) else 0),(if 3<t-f then valB b (f+3) else 0),(if 4<t-f then valB b (f+4) else 0),(if 5<t-f then valB b (f+5) else 0)⟩
def behB (a b:Blk) (f t:Int):Blk:=⟨a.n+(t-f),(if a.n≤0∧0<a.n+(t-f) then keyB b (f+(0-a.n)) else a.k0),(if a.n≤1∧1<a.n+(t-f) then keyB b (f+(1-a.n)) else a.k1),(if a.n≤2∧2<a.n+(t-f) then keyB b (f+(2-a.n)) else a.k2),(if a.n≤3∧3<a.n+(t-f) then keyB b (f+(3-a.n)) else a.k3),(if a.n≤4∧4<a.n+(t-f) then keyB b (f+(4-a.n)) else a.k4),(if a.n≤5∧5<a.n+(t-f) then keyB b (f+(5-a.n)) else a.k5),(if a.n≤0∧0<a.n+(t-f) then valB b (f+(0-a.n)) else a.v0),(if a.n≤1∧1<a.n+(t-f) then valB b (f+(1-a.n)) else a.v1),(if a.n≤2∧2<a.n+(t-f) then valB b (f+(2-a.n)) else a.v2),(if a.n≤3∧3<a.n+(t-f) then valB b (f+(3-a.n)) else a.v3),(if a.n≤4∧4<a.n+(t-f) then valB b (f+(4-a.n)) else a.v4),(if a.n≤5∧5<a.n+(t-f) then valB b (f+(5-a.n)) else a.v5)⟩
theorem half_ok (n:Int) (h:0≤n∧n≤12):PTriple Tryz.prog gv 202 [i64V n] (i64V ((n+1) / 2)):=by
 refine PTriple.of_body (C:=cx) Tryz.func202 rfl (by kernel_rfl) mixed fun E hE=>?_
 repeat' (conv=>whnf);first
  | (refine bcase_of (fun hr=>?_) (fun hr=>?_)<;>skip)
  | (apply And.intro;· first|exact nd6)
  | (apply Exists.intro;apply And.intro;· first|exact rfl)
  | fail
 all_goals (conv=>whnf)
 refine congrArg i64V ?_
 rw[Int.tdiv_eq_ediv_of_nonneg h.1,wrapI64 (n:=n / 2) (by omega) (by omega),wrapI64 (by omega) (by omega)]
 omega
theorem of_ok (b:Blk) (f t:Int) (h:0≤f∧f≤t∧t≤6):PTriple Tryz.prog gv 194 [bV b,i64V f,i64V t] (bV (ofB b f t)):=by
 rcases(show f=0∨f=1∨f=2∨f=3∨f=4∨f=5∨f=6 by omega) with rfl|rfl|rfl|rfl|rfl|rfl|rfl
 all_goals
  rcases(show t=0∨t=1∨t=2∨t=3∨t=4∨t=5∨t=6 by omega) with rfl|rfl|rfl|rfl|rfl|rfl|rfl
 all_goals first|(exfalso;omega)|skip
 all_goals clear h
 all_goals refine PTriple.of_body (C:=cx) Tryz.func194 rfl (by kernel_rfl) mixed fun E hE=>?_
 all_goals
  repeat' (conv=>whnf);first
   | (apply And.intro;· first|exact nd7)
   | (apply Exists.intro;apply And.intro;· first|exact rfl)
   | fail
 all_goals (conv=>whnf)
 all_goals rfl
theorem behind_0 (a b:Blk) (f t:Int) (ha:a.n=0) (h:0≤f∧f≤t∧t≤6) (hr:0+(t-f)≤6):PTriple Tryz.prog gv 193 [bV a,bV b,i64V f,i64V t] (bV (behB a b f t)):=by
 obtain⟨n,k0,k1,k2,k3,k4,k5,v0,v1,v2,v3,v4,v5⟩:=a
 simp only at ha
 subst ha
 rcases(show f=0∨f=1∨f=2∨f=3∨f=4∨f=5∨f=6 by omega) with rfl|rfl|rfl|rfl|rfl|rfl|rfl
 all_goals
  rcases(show t=0∨t=1∨t=2∨t=3∨t=4∨t=5∨t=6 by omega) with rfl|rfl|rfl|rfl|rfl|rfl|rfl
 all_goals first|(exfalso;omega)|skip
 all_goals clear h hr
 all_goals dsimp only[bV,bc]
 all_goals refine PTriple.of_body (C:=cx) Tryz.func193 rfl (by kernel_rfl) mixed fun E hE=>?_
 all_goals
  repeat' (conv=>whnf);first
   | (apply And.intro;· first|exact nd7)
   | (apply Exists.intro;apply And.intro;· first|exact rfl)
   | fail
 all_goals (conv=>whnf)
 all_goals rfl
theorem behind_1 (a b:Blk) (f t:Int) (ha:a.n=1) (h:0≤f∧f≤t∧t≤6) (hr:1+(t-f)≤6):PTriple Tryz.prog gv 193 [bV a,bV b,i64V f,i64V t] (bV (behB a b f t)):=by
 obtain⟨n,k0,k1,k2,k3,k4,k5,v0,v1,v2,v3,v4,v5⟩:=a
 simp only at ha
 subst ha
 rcases(show f=0∨f=1∨f=2∨f=3∨f=4∨f=5∨f=6 by omega) with rfl|rfl|rfl|rfl|rfl|rfl|rfl
 all_goals
  rcases(show t=0∨t=1∨t=2∨t=3∨t=4∨t=5∨t=6 by omega) with rfl|rfl|rfl|rfl|rfl|rfl|rfl
 all_goals first|(exfalso;omega)|skip
 all_goals clear h hr
 all_goals dsimp only[bV,bc]
 all_goals refine PTriple.of_body (C:=cx) Tryz.func193 rfl (by kernel_rfl) mixed fun E hE=>?_
 all_goals
  repeat' (conv=>whnf);first
   | (apply And.intro;· first|exact nd7)
   | (apply Exists.intro;apply And.intro;· first|exact rfl)
   | fail
 all_goals (conv=>whnf)
 all_goals rfl
theorem behind_2 (a b:Blk) (f t:Int) (ha:a.n=2) (h:0≤f∧f≤t∧t≤6) (hr:2+(t-f)≤6):PTriple Tryz.prog gv 193 [bV a,bV b,i64V f,i64V t] (bV (behB a b f t)):=by
 obtain⟨n,k0,k1,k2,k3,k4,k5,v0,v1,v2,v3,v4,v5⟩:=a
 simp only at ha
 subst ha
 rcases(show f=0∨f=1∨f=2∨f=3∨f=4∨f=5∨f=6 by omega) with rfl|rfl|rfl|rfl|rfl|rfl|rfl
 all_goals
  rcases(show t=0∨t=1∨t=2∨t=3∨t=4∨t=5∨t=6 by omega) with rfl|rfl|rfl|rfl|rfl|rfl|rfl
 all_goals first|(exfalso;omega)|skip
 all_goals clear h hr
 all_goals dsimp only[bV,bc]
 all_goals refine PTriple.of_body (C:=cx) Tryz.func193 rfl (by kernel_rfl) mixed fun E hE=>?_
 all_goals
  repeat' (conv=>whnf);first
   | (apply And.intro;· first|exact nd7)
   | (apply Exists.intro;apply And.intro;· first|exact rfl)
   | fail
 all_goals (conv=>whnf)
 all_goals rfl
theorem behind_3 (a b:Blk) (f t:Int) (ha:a.n=3) (h:0≤f∧f≤t∧t≤6) (hr:3+(t-f)≤6):PTriple Tryz.prog gv 193 [bV a,bV b,i64V f,i64V t] (bV (behB a b f t)):=by
 obtain⟨n,k0,k1,k2,k3,k4,k5,v0,v1,v2,v3,v4,v5⟩:=a
 simp only at ha
 subst ha
 rcases(show f=0∨f=1∨f=2∨f=3∨f=4∨f=5∨f=6 by omega) with rfl|rfl|rfl|rfl|rfl|rfl|rfl
 all_goals
  rcases(show t=0∨t=1∨t=2∨t=3∨t=4∨t=5∨t=6 by omega) with rfl|rfl|rfl|rfl|rfl|rfl|rfl
 all_goals first|(exfalso;omega)|skip
 all_goals clear h hr
 all_goals dsimp only[bV,bc]
 all_goals refine PTriple.of_body (C:=cx) Tryz.func193 rfl (by kernel_rfl) mixed fun E hE=>?_
 all_goals
  repeat' (conv=>whnf);first
   | (apply And.intro;· first|exact nd7)
   | (apply Exists.intro;apply And.intro;· first|exact rfl)
   | fail
 all_goals (conv=>whnf)
 all_goals rfl
theorem behind_4 (a b:Blk) (f t:Int) (ha:a.n=4) (h:0≤f∧f≤t∧t≤6) (hr:4+(t-f)≤6):PTriple Tryz.prog gv 193 [bV a,bV b,i64V f,i64V t] (bV (behB a b f t)):=by
 obtain⟨n,k0,k1,k2,k3,k4,k5,v0,v1,v2,v3,v4,v5⟩:=a
 simp only at ha
 subst ha
 rcases(show f=0∨f=1∨f=2∨f=3∨f=4∨f=5∨f=6 by omega) with rfl|rfl|rfl|rfl|rfl|rfl|rfl
 all_goals
  rcases(show t=0∨t=1∨t=2∨t=3∨t=4∨t=5∨t=6 by omega) with rfl|rfl|rfl|rfl|rfl|rfl|rfl
 all_goals first|(exfalso;omega)|skip
 all_goals clear h hr
 all_goals dsimp only[bV,bc]
 all_goals refine PTriple.of_body (C:=cx) Tryz.func193 rfl (by kernel_rfl) mixed fun E hE=>?_
 all_goals
  repeat' (conv=>whnf);first
   | (apply And.intro;· first|exact nd7)
   | (apply Exists.intro;apply And.intro;· first|exact rfl)
   | fail
 all_goals (conv=>whnf)
 all_goals rfl
theorem behind_5 (a b:Blk) (f t:Int) (ha:a.n=5) (h:0≤f∧f≤t∧t≤6) (hr:5+(t-f)≤6):PTriple Tryz.prog gv 193 [bV a,bV b,i64V f,i64V t] (bV (behB a b f t)):=by
 obtain⟨n,k0,k1,k2,k3,k4,k5,v0,v1,v2,v3,v4,v5⟩:=a
 simp only at ha
 subst ha
 rcases(show f=0∨f=1∨f=2∨f=3∨f=4∨f=5∨f=6 by omega) with rfl|rfl|rfl|rfl|rfl|rfl|rfl
 all_goals
  rcases(show t=0∨t=1∨t=2∨t=3∨t=4∨t=5∨t=6 by omega) with rfl|rfl|rfl|rfl|rfl|rfl|rfl
 all_goals first|(exfalso;omega)|skip
 all_goals clear h hr
 all_goals dsimp only[bV,bc]
 all_goals refine PTriple.of_body (C:=cx) Tryz.func193 rfl (by kernel_rfl) mixed fun E hE=>?_
 all_goals
  repeat' (conv=>whnf);first
   | (apply And.intro;· first|exact nd7)
   | (apply Exists.intro;apply And.intro;· first|exact rfl)
   | fail
 all_goals (conv=>whnf)
 all_goals rfl
theorem behind_6 (a b:Blk) (f t:Int) (ha:a.n=6) (h:0≤f∧f≤t∧t≤6) (hr:6+(t-f)≤6):PTriple Tryz.prog gv 193 [bV a,bV b,i64V f,i64V t] (bV (behB a b f t)):=by
 obtain⟨n,k0,k1,k2,k3,k4,k5,v0,v1,v2,v3,v4,v5⟩:=a
 simp only at ha
 subst ha
 rcases(show f=0∨f=1∨f=2∨f=3∨f=4∨f=5∨f=6 by omega) with rfl|rfl|rfl|rfl|rfl|rfl|rfl
 all_goals
  rcases(show t=0∨t=1∨t=2∨t=3∨t=4∨t=5∨t=6 by omega) with rfl|rfl|rfl|rfl|rfl|rfl|rfl
 all_goals first|(exfalso;omega)|skip
 all_goals clear h hr
 all_goals dsimp only[bV,bc]
 all_goals refine PTriple.of_body (C:=cx) Tryz.func193 rfl (by kernel_rfl) mixed fun E hE=>?_
 all_goals
  repeat' (conv=>whnf);first
   | (apply And.intro;· first|exact nd7)
   | (apply Exists.intro;apply And.intro;· first|exact rfl)
   | fail
 all_goals (conv=>whnf)
 all_goals rfl
theorem behind_ok (a b:Blk) (f t:Int) (ha:0≤a.n) (h:0≤f∧f≤t∧t≤6) (hr:a.n+(t-f)≤6):PTriple Tryz.prog gv 193 [bV a,bV b,i64V f,i64V t] (bV (behB a b f t)):=by
 rcases(show a.n=0∨a.n=1∨a.n=2∨a.n=3∨a.n=4∨a.n=5∨a.n=6 by omega) with e|e|e|e|e|e|e
 ·exact behind_0 a b f t e h (by omega)
 ·exact behind_1 a b f t e h (by omega)
 ·exact behind_2 a b f t e h (by omega)
 ·exact behind_3 a b f t e h (by omega)
 ·exact behind_4 a b f t e h (by omega)
 ·exact behind_5 a b f t e h (by omega)
 ·exact behind_6 a b f t e h (by omega)
end Go.Proofs.YtbppemcdphgknaaGreatDoor.T
