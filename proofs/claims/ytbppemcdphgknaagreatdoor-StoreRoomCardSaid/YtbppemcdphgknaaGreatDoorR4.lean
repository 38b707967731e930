/- A part of the proofs over the seat YtbppemcdphgknaaGreatDoor. -/
import Derived.Test.YtbppemcdphgknaaGreatDoorR3
set_option linter.unusedVariables false
set_option linter.unusedSimpArgs false
set_option maxRecDepth 100000
set_option maxHeartbeats 40000000
namespace Go.Proofs.YtbppemcdphgknaaGreatDoor.T
open Go Go.Vm
set_option maxRecDepth 100000
set_option maxHeartbeats 4000000
set_option linter.unusedSimpArgs false
set_option linter.unusedVariables false
def aft:List (Int×Int)→List (Int×Int)→Bool
 | _,[]=>true
 | l,y::_=>match l.getLast? with
  | none=>true
  | some x=>decide (x.1<y.1)
def aheadK (a b:Blk):Bool:=(a.n==0)||(b.n==0)||decide (keyB a (a.n-1)<b.k0)
theorem n_B {l:List (Int×Int)} (h:l.length≤6):(B l).n=l.length:=by
 rcases len_cases (h) with rfl|⟨a,rfl⟩|⟨a,b,rfl⟩|⟨a,b,c,rfl⟩|⟨a,b,c,d,rfl⟩|⟨a,b,c,d,e,rfl⟩|⟨a,b,c,d,e,f,rfl⟩
 all_goals rfl
theorem rank_le (l:List (Int×Int)) (k:Int):0≤rank l k∧rank l k≤l.length:=by
 induction l with
 | nil=>simp[rank]
 | cons a r ih=>
  by_cases h:a.1<k
  ·simp[rank,h];omega
  ·simp[rank,h];omega
theorem rank_lt {l:List (Int×Int)} {k:Int} (h:has l k=true):rank l k<l.length:=by
 induction l with
 | nil=>simp[has] at h
 | cons a r ih=>
  by_cases h1:a.1<k
  ·simp only[has,h1,if_true] at h
   have:=ih h
   simp[rank,h1];omega
  ·simp[rank,h1]<;>omega
theorem aheadK_eq {l m:List (Int×Int)} (hl:Lg l) (hm:Lg m):aheadK (B l) (B m)=aft l m:=by
 rcases len_cases (hl.len) with rfl|⟨a,rfl⟩|⟨a,b,rfl⟩|⟨a,b,c,rfl⟩|⟨a,b,c,d,rfl⟩|⟨a,b,c,d,e,rfl⟩|⟨a,b,c,d,e,f,rfl⟩
 all_goals
  rcases len_cases (hm.len) with rfl|⟨a,rfl⟩|⟨a,b,rfl⟩|⟨a,b,c,rfl⟩|⟨a,b,c,d,rfl⟩|⟨a,b,c,d,e,rfl⟩|⟨a,b,c,d,e,f,rfl⟩
 all_goals first|rfl|simp[aheadK,aft,B,keyB]
theorem ahead_good (a b:Blk) (ha:goodB a=true) (hb:goodB b=true):PTriple Tryz.prog gv 201 [bV a,bV b] (.bool (aheadK a b)):=by
 have c1:=good_ok a
 have c2:=good_ok b
 rw[ha] at c1
 rw[hb] at c2
 have hn:=((goodB_iff a).1 ha)
 have hn1:=hn.1
 have hn2:=hn.2.1
 clear ha hb hn
 obtain⟨n,k0,k1,k2,k3,k4,k5,v0,v1,v2,v3,v4,v5⟩:=a
 dsimp only at hn1 hn2
 rcases(show n=0∨n=1∨n=2∨n=3∨n=4∨n=5∨n=6 by omega) with rfl|rfl|rfl|rfl|rfl|rfl|rfl
 all_goals dsimp only[bV,bc] at c1 c2 ⊢
 all_goals refine PTriple.of_body (C:=cx) Tryz.func201 rfl (by kernel_rfl) mixed fun E hE=>?_
 all_goals
  repeat' (conv=>whnf);first
   | (refine bcase_of (fun hr=>?_) (fun hr=>?_)<;>skip)
   | (apply And.intro;· first|exact nd8)
   | (apply Exists.intro;apply And.intro;· first|exact rfl|exact c1|exact c2)
   | fail
 all_goals (conv=>whnf)
 all_goals first|rfl|(simp[aheadK,keyB, *];done)|(simp[aheadK,keyB, *];rfl)
theorem ahead_ok {l m:List (Int×Int)} (hl:Lg l) (hm:Lg m):PTriple Tryz.prog gv 201 [bV (B l),bV (B m)] (.bool (aft l m)):=by
 rw[←aheadK_eq hl hm]
 exact ahead_good _ _ (goodB_B hl) (goodB_B hm)
end Go.Proofs.YtbppemcdphgknaaGreatDoor.T
namespace Go.Proofs.YtbppemcdphgknaaGreatDoor.T
open Go Go.Vm
theorem take_eq {l:List (Int×Int)} (hl:l.length≤6) {n:Nat} (h:n≤l.length):ofB (B l) 0 n=B (l.take n):=by
 rcases(show n=0∨n=1∨n=2∨n=3∨n=4∨n=5∨n=6 by omega) with rfl|rfl|rfl|rfl|rfl|rfl|rfl
 all_goals
  rcases len_cases (hl) with rfl|⟨a,rfl⟩|⟨a,b,rfl⟩|⟨a,b,c,rfl⟩|⟨a,b,c,d,rfl⟩|⟨a,b,c,d,e,rfl⟩|⟨a,b,c,d,e,f,rfl⟩
 all_goals first|rfl|(exfalso;revert h;simp;done)
theorem drop_eq {l:List (Int×Int)} (hl:l.length≤6) {n:Nat} (h:n≤l.length):ofB (B l) n l.length=B (l.drop n):=by
 rcases(show n=0∨n=1∨n=2∨n=3∨n=4∨n=5∨n=6 by omega) with rfl|rfl|rfl|rfl|rfl|rfl|rfl
 all_goals
  rcases len_cases (hl) with rfl|⟨a,rfl⟩|⟨a,b,rfl⟩|⟨a,b,c,rfl⟩|⟨a,b,c,d,rfl⟩|⟨a,b,c,d,e,rfl⟩|⟨a,b,c,d,e,f,rfl⟩
 all_goals first|rfl|(exfalso;revert h;simp;done)
theorem beh_eq {l m:List (Int×Int)} (hl:l.length≤6) (hm:m.length≤6) {t:Nat} (ht:t≤m.length) (h:l.length+t≤6):behB (B l) (B m) 0 t=B (l++m.take t):=by
 rcases(show t=0∨t=1∨t=2∨t=3∨t=4∨t=5∨t=6 by omega) with rfl|rfl|rfl|rfl|rfl|rfl|rfl
 all_goals
  rcases len_cases (hl) with rfl|⟨a,rfl⟩|⟨a,b,rfl⟩|⟨a,b,c,rfl⟩|⟨a,b,c,d,rfl⟩|⟨a,b,c,d,e,rfl⟩|⟨a,b,c,d,e,f,rfl⟩
 all_goals
  rcases len_cases (hm) with rfl|⟨a,rfl⟩|⟨a,b,rfl⟩|⟨a,b,c,rfl⟩|⟨a,b,c,d,rfl⟩|⟨a,b,c,d,e,rfl⟩|⟨a,b,c,d,e,f,rfl⟩
 all_goals first|rfl|(exfalso;revert ht h;simp;done)
theorem oute_1 (a:Int×Int) (hl:Lg [a]) (k:Int) (h:has [a] k=true):behB (ofB (B [a]) 0 (rank [a] k)) (B [a]) (rank [a] k+1) 1=B (out [a] k):=by
 have hs:=hl.srt
 simp only[List.pairwise_cons,List.mem_cons,List.not_mem_nil,forall_eq_or_imp,or_false,forall_eq] at hs
 by_cases h0:a.1<k
 case neg=>
  by_cases e0:a.1=k
  case pos=>
   have ee:out [a] k=[]:=by simp[out,e0]
   have ff:rank [a] k=0:=by simp[rank,h0,e0]
   rw[ee,ff]
   rfl
  case neg=>
   exfalso
   simp[has,h0,e0] at h
 case pos=>
  exfalso
  simp[has,h0] at h
theorem oute_2 (a b:Int×Int) (hl:Lg [a,b]) (k:Int) (h:has [a,b] k=true):behB (ofB (B [a,b]) 0 (rank [a,b] k)) (B [a,b]) (rank [a,b] k+1) 2=B (out [a,b] k):=by
 have hs:=hl.srt
 simp only[List.pairwise_cons,List.mem_cons,List.not_mem_nil,forall_eq_or_imp,or_false,forall_eq] at hs
 by_cases h0:a.1<k
 case neg=>
  by_cases e0:a.1=k
  case pos=>
   have z1:¬b.1=k:=by omega
   have ee:out [a,b] k=[b]:=by simp[out,e0,z1]
   have ff:rank [a,b] k=0:=by simp[rank,h0,e0]
   rw[ee,ff]
   rfl
  case neg=>
   exfalso
   simp[has,h0,e0] at h
 case pos=>
  by_cases h1:b.1<k
  case neg=>
   by_cases e1:b.1=k
   case pos=>
    have z0:¬a.1=k:=by omega
    have ee:out [a,b] k=[a]:=by simp[out,e1,z0]
    have ff:rank [a,b] k=1:=by simp[rank,h0,h1,e1]
    rw[ee,ff]
    rfl
   case neg=>
    exfalso
    simp[has,h0,h1,e1] at h
  case pos=>
   exfalso
   simp[has,h0,h1] at h
theorem oute_3 (a b c:Int×Int) (hl:Lg [a,b,c]) (k:Int) (h:has [a,b,c] k=true):behB (ofB (B [a,b,c]) 0 (rank [a,b,c] k)) (B [a,b,c]) (rank [a,b,c] k+1) 3=B (out [a,b,c] k):=by
 have hs:=hl.srt
 simp only[List.pairwise_cons,List.mem_cons,List.not_mem_nil,forall_eq_or_imp,or_false,forall_eq] at hs
 by_cases h0:a.1<k
 case neg=>
  by_cases e0:a.1=k
  case pos=>
   have z1:¬b.1=k:=by omega
   have z2:¬c.1=k:=by omega
   have ee:out [a,b,c] k=[b,c]:=by simp[out,e0,z1,z2]
   have ff:rank [a,b,c] k=0:=by simp[rank,h0,e0]
   rw[ee,ff]
   rfl
  case neg=>
   exfalso
   simp[has,h0,e0] at h
 case pos=>
  by_cases h1:b.1<k
  case neg=>
   by_cases e1:b.1=k
   case pos=>
    have z0:¬a.1=k:=by omega
    have z2:¬c.1=k:=by omega
    have ee:out [a,b,c] k=[a,c]:=by simp[out,e1,z0,z2]
    have ff:rank [a,b,c] k=1:=by simp[rank,h0,h1,e1]
    rw[ee,ff]
    rfl
   case neg=>
    exfalso
    simp[has,h0,h1,e1] at h
  case pos=>
   by_cases h2:c.1<k
   case neg=>
    by_cases e2:c.1=k
    case pos=>
     have z0:¬a.1=k:=by omega
     have z1:¬b.1=k:=by omega
     have ee:out [a,b,c] k=[a,b]:=by simp[out,e2,z0,z1]
     have ff:rank [a,b,c] k=2:=by simp[rank,h0,h1,h2,e2]
     rw[ee,ff]
     rfl
    case neg=>
     exfalso
     simp[has,h0,h1,h2,e2] at h
   case pos=>
    exfalso
    simp[has,h0,h1,h2] at h
theorem oute_4 (a b c d:Int×Int) (hl:Lg [a,b,c,d]) (k:Int) (h:has [a,b,c,d] k=true):behB (ofB (B [a,b,c,d]) 0 (rank [a,b,c,d] k)) (B [a,b,c,d]) (rank [a,b,c,d] k+1) 4=B (out [a,b,c,d] k):=by
 have hs:=hl.srt
 simp only[List.pairwise_cons,List.mem_cons,List.not_mem_nil,forall_eq_or_imp,or_false,forall_eq] at hs
 by_cases h0:a.1<k
 case neg=>
  by_cases e0:a.1=k
  case pos=>
   have z1:¬b.1=k:=by omega
   have z2:¬c.1=k:=by omega
   have z3:¬d.1=k:=by omega
   have ee:out [a,b,c,d] k=[b,c,d]:=by simp[out,e0,z1,z2,z3]
   have ff:rank [a,b,c,d] k=0:=by simp[rank,h0,e0]
   rw[ee,ff]
   rfl
  case neg=>
   exfalso
   simp[has,h0,e0] at h
 case pos=>
  by_cases h1:b.1<k
  case neg=>
   by_cases e1:b.1=k
   case pos=>
    have z0:¬a.1=k:=by omega
    have z2:¬c.1=k:=by omega
    have z3:¬d.1=k:=by omega
    have ee:out [a,b,c,d] k=[a,c,d]:=by simp[out,e1,z0,z2,z3]
    have ff:rank [a,b,c,d] k=1:=by simp[rank,h0,h1,e1]
    rw[ee,ff]
    rfl
   case neg=>
    exfalso
    simp[has,h0,h1,e1] at h
  case pos=>
   by_cases h2:c.1<k
   case neg=>
    by_cases e2:c.1=k
    case pos=>
     have z0:¬a.1=k:=by omega
     have z1:¬b.1=k:=by omega
     have z3:¬d.1=k:=by omega
     have ee:out [a,b,c,d] k=[a,b,d]:=by simp[out,e2,z0,z1,z3]
     have ff:rank [a,b,c,d] k=2:=by simp[rank,h0,h1,h2,e2]
     rw[ee,ff]
     rfl
    case neg=>
     exfalso
     simp[has,h0,h1,h2,e2] at h
   case pos=>
    by_cases h3:d.1<k
    case neg=>
     by_cases e3:d.1=k
     case pos=>
      have z0:¬a.1=k:=by omega
      have z1:¬b.1=k:=by omega
      have z2:¬c.1=k:=by omega
      have ee:out [a,b,c,d] k=[a,b,c]:=by simp[out,e3,z0,z1,z2]
      have ff:rank [a,b,c,d] k=3:=by simp[rank,h0,h1,h2,h3,e3]
      rw[ee,ff]
      rfl
     case neg=>
      exfalso
      simp[has,h0,h1,h2,h3,e3] at h
    case pos=>
     exfalso
     simp[has,h0,h1,h2,h3] at h
theorem oute_5 (a b c d e:Int×Int) (hl:Lg [a,b,c,d,e]) (k:Int) (h:has [a,b,c,d,e] k=true):behB (ofB (B [a,b,c,d,e]) 0 (rank [a,b,c,d,e] k)) (B [a,b,c,d,e]) (rank [a,b,c,d,e] k+1) 5=B (out [a,b,c,d,e] k):=by
 have hs:=hl.srt
 simp only[List.pairwise_cons,List.mem_cons,List.not_mem_nil,forall_eq_or_imp,or_false,forall_eq] at hs
 by_cases h0:a.1<k
 case neg=>
  by_cases e0:a.1=k
  case pos=>
   have z1:¬b.1=k:=by omega
   have z2:¬c.1=k:=by omega
   have z3:¬d.1=k:=by omega
   have z4:¬e.1=k:=by omega
   have ee:out [a,b,c,d,e] k=[b,c,d,e]:=by simp[out,e0,z1,z2,z3,z4]
   have ff:rank [a,b,c,d,e] k=0:=by simp[rank,h0,e0]
   rw[ee,ff]
   rfl
  case neg=>
   exfalso
   simp[has,h0,e0] at h
 case pos=>
  by_cases h1:b.1<k
  case neg=>
   by_cases e1:b.1=k
   case pos=>
    have z0:¬a.1=k:=by omega
    have z2:¬c.1=k:=by omega
    have z3:¬d.1=k:=by omega
    have z4:¬e.1=k:=by omega
    have ee:out [a,b,c,d,e] k=[a,c,d,e]:=by simp[out,e1,z0,z2,z3,z4]
    have ff:rank [a,b,c,d,e] k=1:=by simp[rank,h0,h1,e1]
    rw[ee,ff]
    rfl
   case neg=>
    exfalso
    simp[has,h0,h1,e1] at h
  case pos=>
   by_cases h2:c.1<k
   case neg=>
    by_cases e2:c.1=k
    case pos=>
     have z0:¬a.1=k:=by omega
     have z1:¬b.1=k:=by omega
     have z3:¬d.1=k:=by omega
     have z4:¬e.1=k:=by omega
     have ee:out [a,b,c,d,e] k=[a,b,d,e]:=by simp[out,e2,z0,z1,z3,z4]
     have ff:rank [a,b,c,d,e] k=2:=by simp[rank,h0,h1,h2,e2]
     rw[ee,ff]
     rfl
    case neg=>
     exfalso
     simp[has,h0,h1,h2,e2] at h
   case pos=>
    by_cases h3:d.1<k
    case neg=>
     by_cases e3:d.1=k
     case pos=>
      have z0:¬a.1=k:=by omega
      have z1:¬b.1=k:=by omega
      have z2:¬c.1=k:=by omega
      have z4:¬e.1=k:=by omega
      have ee:out [a,b,c,d,e] k=[a,b,c,e]:=by simp[out,e3,z0,z1,z2,z4]
      have ff:rank [a,b,c,d,e] k=3:=by simp[rank,h0,h1,h2,h3,e3]
      rw[ee,ff]
      rfl
     case neg=>
      exfalso
      simp[has,h0,h1,h2,h3,e3] at h
    case pos=>
     by_cases h4:e.1<k
     case neg=>
      by_cases e4:e.1=k
      case pos=>
       have z0:¬a.1=k:=by omega
       have z1:¬b.1=k:=by omega
       have z2:¬c.1=k:=by omega
       have z3:¬d.1=k:=by omega
       have ee:out [a,b,c,d,e] k=[a,b,c,d]:=by simp[out,e4,z0,z1,z2,z3]
       have ff:rank [a,b,c,d,e] k=4:=by simp[rank,h0,h1,h2,h3,h4,e4]
       rw[ee,ff]
       rfl
      case neg=>
       exfalso
       simp[has,h0,h1,h2,h3,h4,e4] at h
     case pos=>
      exfalso
      simp[has,h0,h1,h2,h3,h4] at h
theorem oute_6 (a b c d e f:Int×Int) (hl:Lg [a,b,c,d,e,f]) (k:Int) (h:has [a,b,c,d,e,f] k=true):behB (ofB (B [a,b,c,d,e,f]) 0 (rank [a,b,c,d,e,f] k)) (B [a,b,c,d,e,f]) (rank [a,b,c,d,e,f] k+1) 6=B (out [a,b,c,d,e,f] k):=by
 have hs:=hl.srt
 simp only[List.pairwise_cons,List.mem_cons,List.not_mem_nil,forall_eq_or_imp,or_false,forall_eq] at hs
 by_cases h0:a.1<k
 case neg=>
  by_cases e0:a.1=k
  case pos=>
   have z1:¬b.1=k:=by omega
   have z2:¬c.1=k:=by omega
   have z3:¬d.1=k:=by omega
   have z4:¬e.1=k:=by omega
   have z5:¬f.1=k:=by omega
   have ee:out [a,b,c,d,e,f] k=[b,c,d,e,f]:=by simp[out,e0,z1,z2,z3,z4,z5]
   have ff:rank [a,b,c,d,e,f] k=0:=by simp[rank,h0,e0]
   rw[ee,ff]
   rfl
  case neg=>
   exfalso
   simp[has,h0,e0] at h
 case pos=>
  by_cases h1:b.1<k
  case neg=>
   by_cases e1:b.1=k
   case pos=>
    have z0:¬a.1=k:=by omega
    have z2:¬c.1=k:=by omega
    have z3:¬d.1=k:=by omega
    have z4:¬e.1=k:=by omega
    have z5:¬f.1=k:=by omega
    have ee:out [a,b,c,d,e,f] k=[a,c,d,e,f]:=by simp[out,e1,z0,z2,z3,z4,z5]
    have ff:rank [a,b,c,d,e,f] k=1:=by simp[rank,h0,h1,e1]
    rw[ee,ff]
    rfl
   case neg=>
    exfalso
    simp[has,h0,h1,e1] at h
  case pos=>
   by_cases h2:c.1<k
   case neg=>
    by_cases e2:c.1=k
    case pos=>
     have z0:¬a.1=k:=by omega
     have z1:¬b.1=k:=by omega
     have z3:¬d.1=k:=by omega
     have z4:¬e.1=k:=by omega
     have z5:¬f.1=k:=by omega
     have ee:out [a,b,c,d,e,f] k=[a,b,d,e,f]:=by simp[out,e2,z0,z1,z3,z4,z5]
     have ff:rank [a,b,c,d,e,f] k=2:=by simp[rank,h0,h1,h2,e2]
     rw[ee,ff]
     rfl
    case neg=>
     exfalso
     simp[has,h0,h1,h2,e2] at h
   case pos=>
    by_cases h3:d.1<k
    case neg=>
     by_cases e3:d.1=k
     case pos=>
      have z0:¬a.1=k:=by omega
      have z1:¬b.1=k:=by omega
      have z2:¬c.1=k:=by omega
      have z4:¬e.1=k:=by omega
      have z5:¬f.1=k:=by omega
      have ee:out [a,b,c,d,e,f] k=[a,b,c,e,f]:=by simp[out,e3,z0,z1,z2,z4,z5]
      have ff:rank [a,b,c,d,e,f] k=3:=by simp[rank,h0,h1,h2,h3,e3]
      rw[ee,ff]
      rfl
     case neg=>
      exfalso
      simp[has,h0,h1,h2,h3,e3] at h
    case pos=>
     by_cases h4:e.1<k
     case neg=>
      by_cases e4:e.1=k
      case pos=>
       have z0:¬a.1=k:=by omega
       have z1:¬b.1=k:=by omega
       have z2:¬c.1=k:=by omega
       have z3:¬d.1=k:=by omega
       have z5:¬f.1=k:=by omega
       have ee:out [a,b,c,d,e,f] k=[a,b,c,d,f]:=by simp[out,e4,z0,z1,z2,z3,z5]
       have ff:rank [a,b,c,d,e,f] k=4:=by simp[rank,h0,h1,h2,h3,h4,e4]
       rw[ee,ff]
       rfl
      case neg=>
       exfalso
       simp[has,h0,h1,h2,h3,h4,e4] at h
     case pos=>
      by_cases h5:f.1<k
      case neg=>
       by_cases e5:f.1=k
       case pos=>
        have z0:¬a.1=k:=by omega
        have z1:¬b.1=k:=by omega
        have z2:¬c.1=k:=by omega
        have z3:¬d.1=k:=by omega
        have z4:¬e.1=k:=by omega
        have ee:out [a,b,c,d,e,f] k=[a,b,c,d,e]:=by simp[out,e5,z0,z1,z2,z3,z4]
        have ff:rank [a,b,c,d,e,f] k=5:=by simp[rank,h0,h1,h2,h3,h4,h5,e5]
        rw[ee,ff]
        rfl
       case neg=>
        exfalso
        simp[has,h0,h1,h2,h3,h4,h5,e5] at h
      case pos=>
       exfalso
       simp[has,h0,h1,h2,h3,h4,h5] at h
theorem out_eq {l:List (Int×Int)} (hl:Lg l) (k:Int) (h:has l k=true):behB (ofB (B l) 0 (rank l k)) (B l) (rank l k+1) l.length=B (out l k):=by
 rcases len_cases (hl.len) with rfl|⟨a,rfl⟩|⟨a,b,rfl⟩|⟨a,b,c,rfl⟩|⟨a,b,c,d,rfl⟩|⟨a,b,c,d,e,rfl⟩|⟨a,b,c,d,e,f,rfl⟩
 ·simp[has] at h
 ·exact oute_1 a hl k h
 ·exact oute_2 a b hl k h
 ·exact oute_3 a b c hl k h
 ·exact oute_4 a b c d hl k h
 ·exact oute_5 a b c d e hl k h
 ·exact oute_6 a b c d e f hl k h
theorem Lg.take {l:List (Int×Int)} (h:Lg l) (n:Nat):Lg (l.take n):=⟨h.srt.sublist (List.take_sublist _ _),by have:=h.len;simp;omega⟩
theorem Lg.drop {l:List (Int×Int)} (h:Lg l) (n:Nat):Lg (l.drop n):=⟨h.srt.sublist (List.drop_sublist _ _),by have:=h.len;simp;omega⟩
theorem Lg.out {l:List (Int×Int)} (h:Lg l) (k:Int):Lg (out l k):=⟨h.srt.sublist List.filter_sublist,Nat.le_trans (List.length_filter_le _ _) h.len⟩
end Go.Proofs.YtbppemcdphgknaaGreatDoor.T
namespace Go.Proofs.YtbppemcdphgknaaGreatDoor.T
open Go Go.Vm
theorem join_no (l m:List (Int×Int)) (hl:Lg l) (hm:Lg m) (h:¬(aft l m=true∧l.length+m.length≤6)):PTriple Tryz.prog gv 195 [bV (B l),bV (B m)] (.tup [bV (B []),.bool false]):=by
 have c1:=ahead_ok hl hm
 have e1:=n_B hl.len
 have e2:=n_B hm.len
 have h1:=hl.len
 have h2:=hm.len
 have hw:IntKind.i64.wrap ((B l).n+(B m).n)=l.length+m.length:=by rw[e1,e2,wrapI64 (by omega) (by omega)]
 cases ha:aft l m with
 | false=>
  rw[ha] at c1
  refine PTriple.of_body (C:=cx) Tryz.func195 rfl (by kernel_rfl) mixed fun E hE=>?_
  repeat' (conv=>whnf);first
   | (refine bcase_of (fun hr=>?_) (fun hr=>?_)<;>skip)
   | (apply And.intro;· first|exact nd2)
   | (apply Exists.intro;apply And.intro;· first|exact rfl|exact c1)
   | fail
  all_goals (conv=>whnf)
  all_goals rfl
 | true=>
  rw[ha] at c1
  have hn:¬l.length+m.length≤6:=fun h'=>h ⟨ha,h'⟩
  refine PTriple.of_body (C:=cx) Tryz.func195 rfl (by kernel_rfl) mixed fun E hE=>?_
  repeat' (conv=>whnf);first
   | (refine bcase_of (fun hr=>?_) (fun hr=>?_)<;>(try simp only[hw,decide_eq_true_eq,decide_eq_false_iff_not] at hr)<;>try(exfalso;omega))
   | (apply And.intro;· first|exact nd2)
   | (apply Exists.intro;apply And.intro;· first|exact rfl|exact c1)
   | fail
  all_goals (conv=>whnf)
  all_goals rfl
theorem join_ok (l m:List (Int×Int)) (hl:Lg l) (hm:Lg m) (ha:aft l m=true) (hn:l.length+m.length≤6):PTriple Tryz.prog gv 195 [bV (B l),bV (B m)] (.tup [bV (B (l++m)),.bool true]):=by
 have c1:=ahead_ok hl hm
 rw[ha] at c1
 have e1:=n_B hl.len
 have e2:=n_B hm.len
 have h1:=hl.len
 have h2:=hm.len
 have hw:IntKind.i64.wrap ((B l).n+(B m).n)=l.length+m.length:=by rw[e1,e2,wrapI64 (by omega) (by omega)]
 have c2:=behind_ok (B l) (B m) 0 (B m).n (by omega) (by omega) (by omega)
 have hb:behB (B l) (B m) 0 (B m).n=B (l++m):=by rw[e2,beh_eq hl.len hm.len (Nat.le_refl _) hn,List.take_length]
 rw[hb] at c2
 refine PTriple.of_body (C:=cx) Tryz.func195 rfl (by kernel_rfl) mixed fun E hE=>?_
 repeat' (conv=>whnf);first
  | (refine bcase_of (fun hr=>?_) (fun hr=>?_)<;>(try simp only[hw,decide_eq_true_eq,decide_eq_false_iff_not] at hr)<;>try(exfalso;omega))
  | (apply And.intro;· first|exact nd2)
  | (apply Exists.intro;apply And.intro;· first|exact rfl|exact c1|exact c2)
  | fail
 all_goals (conv=>whnf)
 all_goals rfl
theorem drop_ok (l:List (Int×Int)) (hl:Lg l) (k:Int) (h:has l k=true):PTriple Tryz.prog gv 181 [bV (B l),u32V k] (.tup [bV (B (out l k)),.bool true]):=by
 have c1:=find_ok l hl k
 rw[h] at c1
 have h1:=hl.len
 have h2:=rank_le l k
 have h3:=rank_lt h
 have e1:=n_B hl.len
 have hw:IntKind.i64.wrap (rank l k+1)=rank l k+1:=wrapI64 (by omega) (by omega)
 have c2:=of_ok (B l) 0 (rank l k) (by omega)
 have hn:(ofB (B l) 0 (rank l k)).n=rank l k:=by simp[ofB]
 have c3:=behind_ok (ofB (B l) 0 (rank l k)) (B l) (IntKind.i64.wrap (rank l k+1)) (B l).n (by omega) (by omega) (by omega)
 have hb:behB (ofB (B l) 0 (rank l k)) (B l) (IntKind.i64.wrap (rank l k+1)) (B l).n=B (out l k):=by rw[hw,e1];exact out_eq hl k h
 rw[hb] at c3
 refine PTriple.of_body (C:=cx) Tryz.func181 rfl (by kernel_rfl) mixed fun E hE=>?_
 repeat' (conv=>whnf);first
  | (refine bcase_of (fun hr=>?_) (fun hr=>?_)<;>skip)
  | (apply And.intro;· first|exact nd2)
  | (apply Exists.intro;apply And.intro;· first|exact rfl|exact c1|exact c2|exact c3)
  | fail
 all_goals (conv=>whnf)
 all_goals rfl
def hf (n:Nat):Nat:=(n+1) / 2
theorem split_ok (l:List (Int×Int)) (hl:Lg l):PTriple Tryz.prog gv 198 [bV (B l)] (.tup [bV (B (l.take (hf l.length))),bV (B (l.drop (hf l.length)))]):=by
 have c1:=good_ok (B l)
 rw[goodB_B hl] at c1
 have h1:=hl.len
 have e1:=n_B hl.len
 have hh:hf l.length≤l.length:=by unfold hf;omega
 have eh:((B l).n+1) / 2=hf l.length:=by rw[e1];unfold hf;omega
 have c2:=half_ok (B l).n (by omega)
 rw[eh] at c2
 have c3:=of_ok (B l) 0 (hf l.length) (by omega)
 rw[take_eq hl.len hh] at c3
 have c4:=of_ok (B l) (hf l.length) (B l).n (by omega)
 have e4:ofB (B l) (hf l.length) (B l).n=B (l.drop (hf l.length)):=by rw[e1];exact drop_eq hl.len hh
 rw[e4] at c4
 refine PTriple.of_body (C:=cx) Tryz.func198 rfl (by kernel_rfl) mixed fun E hE=>?_
 repeat' (conv=>whnf);first
  | (refine bcase_of (fun hr=>?_) (fun hr=>?_)<;>skip)
  | (apply And.intro;· first|exact nd2)
  | (apply Exists.intro;apply And.intro;· first|exact rfl|exact c1|exact c2|exact c3|exact c4)
  | fail
 all_goals (conv=>whnf)
 all_goals rfl
theorem even_ok (l m:List (Int×Int)) (hl:Lg l) (hm:Lg m) (h:aft l m=true):PTriple Tryz.prog gv 196 [bV (B l),bV (B m)] (.tup [bV (B ((l++m).take (hf (l.length+m.length)))),bV (B ((l++m).drop (hf (l.length+m.length)))),.bool true]):=by
 have c1:=ahead_ok hl hm
 rw[h] at c1
 have h1:=hl.len
 have h2:=hm.len
 have e1:=n_B hl.len
 have e2:=n_B hm.len
 have hw:IntKind.i64.wrap ((B l).n+(B m).n)=l.length+m.length:=by rw[e1,e2,wrapI64 (by omega) (by omega)]
 have c2:=half_ok (IntKind.i64.wrap ((B l).n+(B m).n)) (by rw[hw];omega)
 have eh:(IntKind.i64.wrap ((B l).n+(B m).n)+1) / 2=hf (l.length+m.length):=by rw[hw];unfold hf;omega
 rw[eh] at c2
 obtain⟨H,hH⟩:∃z,z=hf (l.length+m.length):=⟨_,rfl⟩
 rw[←hH] at c2 ⊢
 have hH2:H=(l.length+m.length+1) / 2:=hH
 clear eh hw hH
 by_cases hc:H≤l.length
 ·have c3:=of_ok (B l) 0 H (by omega)
  rw[take_eq hl.len hc] at c3
  have c4:=of_ok (B l) H (B l).n (by omega)
  have e4:ofB (B l) H (B l).n=B (l.drop H):=by rw[e1];exact drop_eq hl.len hc
  rw[e4] at c4
  have hd:=n_B (hl.drop H).len
  have hdl:(l.drop H).length=l.length-H:=List.length_drop
  have c5:=behind_ok (B (l.drop H)) (B m) 0 (B m).n (by omega) (by omega) (by omega)
  have e5:behB (B (l.drop H)) (B m) 0 (B m).n=B (l.drop H++m):=by rw[e2,beh_eq (hl.drop H).len hm.len (Nat.le_refl _) (by omega),List.take_length]
  rw[e5] at c5
  have t1:(l++m).take H=l.take H:=List.take_append_of_le_length hc
  have t2:(l++m).drop H=l.drop H++m:=List.drop_append_of_le_length hc
  rw[t1,t2]
  refine PTriple.of_body (C:=cx) Tryz.func196 rfl (by kernel_rfl) mixed fun E hE=>?_
  repeat' (conv=>whnf);first
   | (refine bcase_of (fun hr=>?_) (fun hr=>?_)<;>(try simp only[e1,decide_eq_true_eq,decide_eq_false_iff_not] at hr)<;>try(exfalso;omega))
   | (apply And.intro;· first|exact nd2)
   | (apply Exists.intro;apply And.intro;· first|exact rfl|exact c1|exact c2|exact c3|exact c4|exact c5)
   | fail
  all_goals (conv=>whnf)
  all_goals rfl
 ·have hw2:IntKind.i64.wrap ((H:Int)-(B l).n)=((H-l.length:Nat):Int):=by rw[e1,wrapI64 (by omega) (by omega)];omega
  have c3:=behind_ok (B l) (B m) 0 (IntKind.i64.wrap ((H:Int)-(B l).n)) (by omega) (by omega) (by omega)
  have e3:behB (B l) (B m) 0 (IntKind.i64.wrap ((H:Int)-(B l).n))=B (l++m.take (H-l.length)):=by rw[hw2,beh_eq hl.len hm.len (by omega) (by omega)]
  rw[e3] at c3
  have c4:=of_ok (B m) (IntKind.i64.wrap ((H:Int)-(B l).n)) (B m).n (by omega)
  have e4:ofB (B m) (IntKind.i64.wrap ((H:Int)-(B l).n)) (B m).n=B (m.drop (H-l.length)):=by rw[hw2,e2,drop_eq hm.len (by omega)]
  rw[e4] at c4
  have t1:(l++m).take H=l++m.take (H-l.length):=by rw[List.take_append,List.take_of_length_le (by omega)]
  have t2:(l++m).drop H=m.drop (H-l.length):=by rw[List.drop_append,List.drop_eq_nil_of_le (by omega),List.nil_append]
  rw[t1,t2]
  refine PTriple.of_body (C:=cx) Tryz.func196 rfl (by kernel_rfl) mixed fun E hE=>?_
  repeat' (conv=>whnf);first
   | (refine bcase_of (fun hr=>?_) (fun hr=>?_)<;>(try simp only[e1,decide_eq_true_eq,decide_eq_false_iff_not] at hr)<;>try(exfalso;omega))
   | (apply And.intro;· first|exact nd2)
   | (apply Exists.intro;apply And.intro;· first|exact rfl|exact c1|exact c2|exact c3|exact c4)
   | fail
  all_goals (conv=>whnf)
  all_goals rfl
end Go.Proofs.YtbppemcdphgknaaGreatDoor.T
