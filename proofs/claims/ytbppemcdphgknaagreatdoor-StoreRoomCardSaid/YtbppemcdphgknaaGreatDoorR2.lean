/- A part of the proofs over the seat YtbppemcdphgknaaGreatDoor. -/
import Derived.Test.YtbppemcdphgknaaGreatDoorR1
set_option linter.unusedVariables false
set_option linter.unusedSimpArgs false
set_option maxRecDepth 100000
set_option maxHeartbeats 40000000
namespace Go.Proofs.YtbppemcdphgknaaGreatDoor.T
open Go Go.Vm
set_option maxRecDepth 100000
set_option maxHeartbeats 4000000
set_option linter.unusedSimpArgs false
set_option linter.unusedVariables false
theorem put_0 (k v:Int) (hl:Lg []) (h:(lay [] k v).length≤6):PTriple Tryz.prog gv 197 [bV (B []),u32V k,i64V v] (.tup [bV (B (lay [] k v)),.bool true]):=by
 have c1:=find_ok [] hl k
 have c2:=good_ok (B [])
 rw[goodB_B hl] at c2
 clear hl
 have r:rank [] k=0:=by simp[rank]
 have s:has [] k=false:=by simp[has]
 have e:lay [] k v=[(k,v)]:=by simp[lay]
 rw[r,s] at c1
 rw[e]
 dsimp only[bV,bc,B] at c1 c2 ⊢
 clear r s e h
 refine PTriple.of_body (C:=cx) Tryz.func197 rfl (by kernel_rfl) mixed fun E hE=>?_
 all_goals exact kb22
theorem put_1 (a:Int×Int) (k v:Int) (hl:Lg [a]) (h:(lay [a] k v).length≤6):PTriple Tryz.prog gv 197 [bV (B [a]),u32V k,i64V v] (.tup [bV (B (lay [a] k v)),.bool true]):=by
 have c1:=find_ok [a] hl k
 have c2:=good_ok (B [a])
 rw[goodB_B hl] at c2
 clear hl
 by_cases h0:a.1<k
 case neg=>
  by_cases e0:a.1=k
  case pos=>
   have r:rank [a] k=0:=by simp[rank,h0,e0]
   have s:has [a] k=true:=by simp[has,h0,e0]
   have e:lay [a] k v=[(k,v)]:=by simp[lay,h0,e0]
   rw[r,s] at c1
   rw[e]
   dsimp only[bV,bc,B] at c1 c2 ⊢
   clear r s e h
   refine PTriple.of_body (C:=cx) Tryz.func197 rfl (by kernel_rfl) mixed fun E hE=>?_
   all_goals exact kb22
  case neg=>
   have r:rank [a] k=0:=by simp[rank,h0,e0]
   have s:has [a] k=false:=by simp[has,h0,e0]
   have e:lay [a] k v=[(k,v),a]:=by simp[lay,h0,e0]
   rw[r,s] at c1
   rw[e]
   dsimp only[bV,bc,B] at c1 c2 ⊢
   clear r s e h
   refine PTriple.of_body (C:=cx) Tryz.func197 rfl (by kernel_rfl) mixed fun E hE=>?_
   all_goals exact kb22
 case pos=>
  have r:rank [a] k=1:=by simp[rank,h0]
  have s:has [a] k=false:=by simp[has,h0]
  have e:lay [a] k v=[a,(k,v)]:=by simp[lay,h0]
  rw[r,s] at c1
  rw[e]
  dsimp only[bV,bc,B] at c1 c2 ⊢
  clear r s e h
  refine PTriple.of_body (C:=cx) Tryz.func197 rfl (by kernel_rfl) mixed fun E hE=>?_
  all_goals exact kb22
theorem put_2 (a b:Int×Int) (k v:Int) (hl:Lg [a,b]) (h:(lay [a,b] k v).length≤6):PTriple Tryz.prog gv 197 [bV (B [a,b]),u32V k,i64V v] (.tup [bV (B (lay [a,b] k v)),.bool true]):=by
 have c1:=find_ok [a,b] hl k
 have c2:=good_ok (B [a,b])
 rw[goodB_B hl] at c2
 clear hl
 by_cases h0:a.1<k
 case neg=>
  by_cases e0:a.1=k
  case pos=>
   have r:rank [a,b] k=0:=by simp[rank,h0,e0]
   have s:has [a,b] k=true:=by simp[has,h0,e0]
   have e:lay [a,b] k v=[(k,v),b]:=by simp[lay,h0,e0]
   rw[r,s] at c1
   rw[e]
   dsimp only[bV,bc,B] at c1 c2 ⊢
   clear r s e h
   refine PTriple.of_body (C:=cx) Tryz.func197 rfl (by kernel_rfl) mixed fun E hE=>?_
   all_goals exact kb22
  case neg=>
   have r:rank [a,b] k=0:=by simp[rank,h0,e0]
   have s:has [a,b] k=false:=by simp[has,h0,e0]
   have e:lay [a,b] k v=[(k,v),a,b]:=by simp[lay,h0,e0]
   rw[r,s] at c1
   rw[e]
   dsimp only[bV,bc,B] at c1 c2 ⊢
   clear r s e h
   refine PTriple.of_body (C:=cx) Tryz.func197 rfl (by kernel_rfl) mixed fun E hE=>?_
   all_goals exact kb22
 case pos=>
  by_cases h1:b.1<k
  case neg=>
   by_cases e1:b.1=k
   case pos=>
    have r:rank [a,b] k=1:=by simp[rank,h0,h1,e1]
    have s:has [a,b] k=true:=by simp[has,h0,h1,e1]
    have e:lay [a,b] k v=[a,(k,v)]:=by simp[lay,h0,h1,e1]
    rw[r,s] at c1
    rw[e]
    dsimp only[bV,bc,B] at c1 c2 ⊢
    clear r s e h
    refine PTriple.of_body (C:=cx) Tryz.func197 rfl (by kernel_rfl) mixed fun E hE=>?_
    all_goals exact kb22
   case neg=>
    have r:rank [a,b] k=1:=by simp[rank,h0,h1,e1]
    have s:has [a,b] k=false:=by simp[has,h0,h1,e1]
    have e:lay [a,b] k v=[a,(k,v),b]:=by simp[lay,h0,h1,e1]
    rw[r,s] at c1
    rw[e]
    dsimp only[bV,bc,B] at c1 c2 ⊢
    clear r s e h
    refine PTriple.of_body (C:=cx) Tryz.func197 rfl (by kernel_rfl) mixed fun E hE=>?_
    all_goals exact kb22
  case pos=>
   have r:rank [a,b] k=2:=by simp[rank,h0,h1]
   have s:has [a,b] k=false:=by simp[has,h0,h1]
   have e:lay [a,b] k v=[a,b,(k,v)]:=by simp[lay,h0,h1]
   rw[r,s] at c1
   rw[e]
   dsimp only[bV,bc,B] at c1 c2 ⊢
   clear r s e h
   refine PTriple.of_body (C:=cx) Tryz.func197 rfl (by kernel_rfl) mixed fun E hE=>?_
   all_goals exact kb22
theorem put_3 (a b c:Int×Int) (k v:Int) (hl:Lg [a,b,c]) (h:(lay [a,b,c] k v).length≤6):PTriple Tryz.prog gv 197 [bV (B [a,b,c]),u32V k,i64V v] (.tup [bV (B (lay [a,b,c] k v)),.bool true]):=by
 have c1:=find_ok [a,b,c] hl k
 have c2:=good_ok (B [a,b,c])
 rw[goodB_B hl] at c2
 clear hl
 by_cases h0:a.1<k
 case neg=>
  by_cases e0:a.1=k
  case pos=>
   have r:rank [a,b,c] k=0:=by simp[rank,h0,e0]
   have s:has [a,b,c] k=true:=by simp[has,h0,e0]
   have e:lay [a,b,c] k v=[(k,v),b,c]:=by simp[lay,h0,e0]
   rw[r,s] at c1
   rw[e]
   dsimp only[bV,bc,B] at c1 c2 ⊢
   clear r s e h
   refine PTriple.of_body (C:=cx) Tryz.func197 rfl (by kernel_rfl) mixed fun E hE=>?_
   all_goals exact kb22
  case neg=>
   have r:rank [a,b,c] k=0:=by simp[rank,h0,e0]
   have s:has [a,b,c] k=false:=by simp[has,h0,e0]
   have e:lay [a,b,c] k v=[(k,v),a,b,c]:=by simp[lay,h0,e0]
   rw[r,s] at c1
   rw[e]
   dsimp only[bV,bc,B] at c1 c2 ⊢
   clear r s e h
   refine PTriple.of_body (C:=cx) Tryz.func197 rfl (by kernel_rfl) mixed fun E hE=>?_
   all_goals exact kb22
 case pos=>
  by_cases h1:b.1<k
  case neg=>
   by_cases e1:b.1=k
   case pos=>
    have r:rank [a,b,c] k=1:=by simp[rank,h0,h1,e1]
    have s:has [a,b,c] k=true:=by simp[has,h0,h1,e1]
    have e:lay [a,b,c] k v=[a,(k,v),c]:=by simp[lay,h0,h1,e1]
    rw[r,s] at c1
    rw[e]
    dsimp only[bV,bc,B] at c1 c2 ⊢
    clear r s e h
    refine PTriple.of_body (C:=cx) Tryz.func197 rfl (by kernel_rfl) mixed fun E hE=>?_
    all_goals exact kb22
   case neg=>
    have r:rank [a,b,c] k=1:=by simp[rank,h0,h1,e1]
    have s:has [a,b,c] k=false:=by simp[has,h0,h1,e1]
    have e:lay [a,b,c] k v=[a,(k,v),b,c]:=by simp[lay,h0,h1,e1]
    rw[r,s] at c1
    rw[e]
    dsimp only[bV,bc,B] at c1 c2 ⊢
    clear r s e h
    refine PTriple.of_body (C:=cx) Tryz.func197 rfl (by kernel_rfl) mixed fun E hE=>?_
    all_goals exact kb22
  case pos=>
   by_cases h2:c.1<k
   case neg=>
    by_cases e2:c.1=k
    case pos=>
     have r:rank [a,b,c] k=2:=by simp[rank,h0,h1,h2,e2]
     have s:has [a,b,c] k=true:=by simp[has,h0,h1,h2,e2]
     have e:lay [a,b,c] k v=[a,b,(k,v)]:=by simp[lay,h0,h1,h2,e2]
     rw[r,s] at c1
     rw[e]
     dsimp only[bV,bc,B] at c1 c2 ⊢
     clear r s e h
     refine PTriple.of_body (C:=cx) Tryz.func197 rfl (by kernel_rfl) mixed fun E hE=>?_
     all_goals exact kb22
    case neg=>
     have r:rank [a,b,c] k=2:=by simp[rank,h0,h1,h2,e2]
     have s:has [a,b,c] k=false:=by simp[has,h0,h1,h2,e2]
     have e:lay [a,b,c] k v=[a,b,(k,v),c]:=by simp[lay,h0,h1,h2,e2]
     rw[r,s] at c1
     rw[e]
     dsimp only[bV,bc,B] at c1 c2 ⊢
     clear r s e h
     refine PTriple.of_body (C:=cx) Tryz.func197 rfl (by kernel_rfl) mixed fun E hE=>?_
     all_goals exact kb22
   case pos=>
    have r:rank [a,b,c] k=3:=by simp[rank,h0,h1,h2]
    have s:has [a,b,c] k=false:=by simp[has,h0,h1,h2]
    have e:lay [a,b,c] k v=[a,b,c,(k,v)]:=by simp[lay,h0,h1,h2]
    rw[r,s] at c1
    rw[e]
    dsimp only[bV,bc,B] at c1 c2 ⊢
    clear r s e h
    refine PTriple.of_body (C:=cx) Tryz.func197 rfl (by kernel_rfl) mixed fun E hE=>?_
    all_goals exact kb22
theorem put_4 (a b c d:Int×Int) (k v:Int) (hl:Lg [a,b,c,d]) (h:(lay [a,b,c,d] k v).length≤6):PTriple Tryz.prog gv 197 [bV (B [a,b,c,d]),u32V k,i64V v] (.tup [bV (B (lay [a,b,c,d] k v)),.bool true]):=by
 have c1:=find_ok [a,b,c,d] hl k
 have c2:=good_ok (B [a,b,c,d])
 rw[goodB_B hl] at c2
 clear hl
 by_cases h0:a.1<k
 case neg=>
  by_cases e0:a.1=k
  case pos=>
   have r:rank [a,b,c,d] k=0:=by simp[rank,h0,e0]
   have s:has [a,b,c,d] k=true:=by simp[has,h0,e0]
   have e:lay [a,b,c,d] k v=[(k,v),b,c,d]:=by simp[lay,h0,e0]
   rw[r,s] at c1
   rw[e]
   dsimp only[bV,bc,B] at c1 c2 ⊢
   clear r s e h
   refine PTriple.of_body (C:=cx) Tryz.func197 rfl (by kernel_rfl) mixed fun E hE=>?_
   all_goals exact kb22
  case neg=>
   have r:rank [a,b,c,d] k=0:=by simp[rank,h0,e0]
   have s:has [a,b,c,d] k=false:=by simp[has,h0,e0]
   have e:lay [a,b,c,d] k v=[(k,v),a,b,c,d]:=by simp[lay,h0,e0]
   rw[r,s] at c1
   rw[e]
   dsimp only[bV,bc,B] at c1 c2 ⊢
   clear r s e h
   refine PTriple.of_body (C:=cx) Tryz.func197 rfl (by kernel_rfl) mixed fun E hE=>?_
   all_goals exact kb22
 case pos=>
  by_cases h1:b.1<k
  case neg=>
   by_cases e1:b.1=k
   case pos=>
    have r:rank [a,b,c,d] k=1:=by simp[rank,h0,h1,e1]
    have s:has [a,b,c,d] k=true:=by simp[has,h0,h1,e1]
    have e:lay [a,b,c,d] k v=[a,(k,v),c,d]:=by simp[lay,h0,h1,e1]
    rw[r,s] at c1
    rw[e]
    dsimp only[bV,bc,B] at c1 c2 ⊢
    clear r s e h
    refine PTriple.of_body (C:=cx) Tryz.func197 rfl (by kernel_rfl) mixed fun E hE=>?_
    all_goals exact kb22
   case neg=>
    have r:rank [a,b,c,d] k=1:=by simp[rank,h0,h1,e1]
    have s:has [a,b,c,d] k=false:=by simp[has,h0,h1,e1]
    have e:lay [a,b,c,d] k v=[a,(k,v),b,c,d]:=by simp[lay,h0,h1,e1]
    rw[r,s] at c1
    rw[e]
    dsimp only[bV,bc,B] at c1 c2 ⊢
    clear r s e h
    refine PTriple.of_body (C:=cx) Tryz.func197 rfl (by kernel_rfl) mixed fun E hE=>?_
    all_goals exact kb22
  case pos=>
   by_cases h2:c.1<k
   case neg=>
    by_cases e2:c.1=k
    case pos=>
     have r:rank [a,b,c,d] k=2:=by simp[rank,h0,h1,h2,e2]
     have s:has [a,b,c,d] k=true:=by simp[has,h0,h1,h2,e2]
     have e:lay [a,b,c,d] k v=[a,b,(k,v),d]:=by simp[lay,h0,h1,h2,e2]
     rw[r,s] at c1
     rw[e]
     dsimp only[bV,bc,B] at c1 c2 ⊢
     clear r s e h
     refine PTriple.of_body (C:=cx) Tryz.func197 rfl (by kernel_rfl) mixed fun E hE=>?_
     all_goals exact kb22
    case neg=>
     have r:rank [a,b,c,d] k=2:=by simp[rank,h0,h1,h2,e2]
     have s:has [a,b,c,d] k=false:=by simp[has,h0,h1,h2,e2]
     have e:lay [a,b,c,d] k v=[a,b,(k,v),c,d]:=by simp[lay,h0,h1,h2,e2]
     rw[r,s] at c1
     rw[e]
     dsimp only[bV,bc,B] at c1 c2 ⊢
     clear r s e h
     refine PTriple.of_body (C:=cx) Tryz.func197 rfl (by kernel_rfl) mixed fun E hE=>?_
     all_goals exact kb22
   case pos=>
    by_cases h3:d.1<k
    case neg=>
     by_cases e3:d.1=k
     case pos=>
      have r:rank [a,b,c,d] k=3:=by simp[rank,h0,h1,h2,h3,e3]
      have s:has [a,b,c,d] k=true:=by simp[has,h0,h1,h2,h3,e3]
      have e:lay [a,b,c,d] k v=[a,b,c,(k,v)]:=by simp[lay,h0,h1,h2,h3,e3]
      rw[r,s] at c1
      rw[e]
      dsimp only[bV,bc,B] at c1 c2 ⊢
      clear r s e h
      refine PTriple.of_body (C:=cx) Tryz.func197 rfl (by kernel_rfl) mixed fun E hE=>?_
      all_goals exact kb22
     case neg=>
      have r:rank [a,b,c,d] k=3:=by simp[rank,h0,h1,h2,h3,e3]
      have s:has [a,b,c,d] k=false:=by simp[has,h0,h1,h2,h3,e3]
      have e:lay [a,b,c,d] k v=[a,b,c,(k,v),d]:=by simp[lay,h0,h1,h2,h3,e3]
      rw[r,s] at c1
      rw[e]
      dsimp only[bV,bc,B] at c1 c2 ⊢
      clear r s e h
      refine PTriple.of_body (C:=cx) Tryz.func197 rfl (by kernel_rfl) mixed fun E hE=>?_
      all_goals exact kb22
    case pos=>
     have r:rank [a,b,c,d] k=4:=by simp[rank,h0,h1,h2,h3]
     have s:has [a,b,c,d] k=false:=by simp[has,h0,h1,h2,h3]
     have e:lay [a,b,c,d] k v=[a,b,c,d,(k,v)]:=by simp[lay,h0,h1,h2,h3]
     rw[r,s] at c1
     rw[e]
     dsimp only[bV,bc,B] at c1 c2 ⊢
     clear r s e h
     refine PTriple.of_body (C:=cx) Tryz.func197 rfl (by kernel_rfl) mixed fun E hE=>?_
     all_goals exact kb22
theorem put_5 (a b c d e:Int×Int) (k v:Int) (hl:Lg [a,b,c,d,e]) (h:(lay [a,b,c,d,e] k v).length≤6):PTriple Tryz.prog gv 197 [bV (B [a,b,c,d,e]),u32V k,i64V v] (.tup [bV (B (lay [a,b,c,d,e] k v)),.bool true]):=by
 have c1:=find_ok [a,b,c,d,e] hl k
 have c2:=good_ok (B [a,b,c,d,e])
 rw[goodB_B hl] at c2
 clear hl
 by_cases h0:a.1<k
 case neg=>
  by_cases e0:a.1=k
  case pos=>
   have r:rank [a,b,c,d,e] k=0:=by simp[rank,h0,e0]
   have s:has [a,b,c,d,e] k=true:=by simp[has,h0,e0]
   have e:lay [a,b,c,d,e] k v=[(k,v),b,c,d,e]:=by simp[lay,h0,e0]
   rw[r,s] at c1
   rw[e]
   dsimp only[bV,bc,B] at c1 c2 ⊢
   clear r s e h
   refine PTriple.of_body (C:=cx) Tryz.func197 rfl (by kernel_rfl) mixed fun E hE=>?_
   all_goals exact kb22
  case neg=>
   have r:rank [a,b,c,d,e] k=0:=by simp[rank,h0,e0]
   have s:has [a,b,c,d,e] k=false:=by simp[has,h0,e0]
   have e:lay [a,b,c,d,e] k v=[(k,v),a,b,c,d,e]:=by simp[lay,h0,e0]
   rw[r,s] at c1
   rw[e]
   dsimp only[bV,bc,B] at c1 c2 ⊢
   clear r s e h
   refine PTriple.of_body (C:=cx) Tryz.func197 rfl (by kernel_rfl) mixed fun E hE=>?_
   all_goals exact kb22
 case pos=>
  by_cases h1:b.1<k
  case neg=>
   by_cases e1:b.1=k
   case pos=>
    have r:rank [a,b,c,d,e] k=1:=by simp[rank,h0,h1,e1]
    have s:has [a,b,c,d,e] k=true:=by simp[has,h0,h1,e1]
    have e:lay [a,b,c,d,e] k v=[a,(k,v),c,d,e]:=by simp[lay,h0,h1,e1]
    rw[r,s] at c1
    rw[e]
    dsimp only[bV,bc,B] at c1 c2 ⊢
    clear r s e h
    refine PTriple.of_body (C:=cx) Tryz.func197 rfl (by kernel_rfl) mixed fun E hE=>?_
    all_goals exact kb22
   case neg=>
    have r:rank [a,b,c,d,e] k=1:=by simp[rank,h0,h1,e1]
    have s:has [a,b,c,d,e] k=false:=by simp[has,h0,h1,e1]
    have e:lay [a,b,c,d,e] k v=[a,(k,v),b,c,d,e]:=by simp[lay,h0,h1,e1]
    rw[r,s] at c1
    rw[e]
    dsimp only[bV,bc,B] at c1 c2 ⊢
    clear r s e h
    refine PTriple.of_body (C:=cx) Tryz.func197 rfl (by kernel_rfl) mixed fun E hE=>?_
    all_goals exact kb22
  case pos=>
   by_cases h2:c.1<k
   case neg=>
    by_cases e2:c.1=k
    case pos=>
     have r:rank [a,b,c,d,e] k=2:=by simp[rank,h0,h1,h2,e2]
     have s:has [a,b,c,d,e] k=true:=by simp[has,h0,h1,h2,e2]
     have e:lay [a,b,c,d,e] k v=[a,b,(k,v),d,e]:=by simp[lay,h0,h1,h2,e2]
     rw[r,s] at c1
     rw[e]
     dsimp only[bV,bc,B] at c1 c2 ⊢
     clear r s e h
     refine PTriple.of_body (C:=cx) Tryz.func197 rfl (by kernel_rfl) mixed fun E hE=>?_
     all_goals exact kb22
    case neg=>
     have r:rank [a,b,c,d,e] k=2:=by simp[rank,h0,h1,h2,e2]
     have s:has [a,b,c,d,e] k=false:=by simp[has,h0,h1,h2,e2]
     have e:lay [a,b,c,d,e] k v=[a,b,(k,v),c,d,e]:=by simp[lay,h0,h1,h2,e2]
     rw[r,s] at c1
     rw[e]
     dsimp only[bV,bc,B] at c1 c2 ⊢
     clear r s e h
     refine PTriple.of_body (C:=cx) Tryz.func197 rfl (by kernel_rfl) mixed fun E hE=>?_
     all_goals exact kb22
   case pos=>
    by_cases h3:d.1<k
    case neg=>
     by_cases e3:d.1=k
     case pos=>
      have r:rank [a,b,c,d,e] k=3:=by simp[rank,h0,h1,h2,h3,e3]
      have s:has [a,b,c,d,e] k=true:=by simp[has,h0,h1,h2,h3,e3]
      have e:lay [a,b,c,d,e] k v=[a,b,c,(k,v),e]:=by simp[lay,h0,h1,h2,h3,e3]
      rw[r,s] at c1
      rw[e]
      dsimp only[bV,bc,B] at c1 c2 ⊢
      clear r s e h
      refine PTriple.of_body (C:=cx) Tryz.func197 rfl (by kernel_rfl) mixed fun E hE=>?_
      all_goals exact kb22
     case neg=>
      have r:rank [a,b,c,d,e] k=3:=by simp[rank,h0,h1,h2,h3,e3]
      have s:has [a,b,c,d,e] k=false:=by simp[has,h0,h1,h2,h3,e3]
      have e:lay [a,b,c,d,e] k v=[a,b,c,(k,v),d,e]:=by simp[lay,h0,h1,h2,h3,e3]
      rw[r,s] at c1
      rw[e]
      dsimp only[bV,bc,B] at c1 c2 ⊢
      clear r s e h
      refine PTriple.of_body (C:=cx) Tryz.func197 rfl (by kernel_rfl) mixed fun E hE=>?_
      all_goals exact kb22
    case pos=>
     by_cases h4:e.1<k
     case neg=>
      by_cases e4:e.1=k
      case pos=>
       have r:rank [a,b,c,d,e] k=4:=by simp[rank,h0,h1,h2,h3,h4,e4]
       have s:has [a,b,c,d,e] k=true:=by simp[has,h0,h1,h2,h3,h4,e4]
       have e:lay [a,b,c,d,e] k v=[a,b,c,d,(k,v)]:=by simp[lay,h0,h1,h2,h3,h4,e4]
       rw[r,s] at c1
       rw[e]
       dsimp only[bV,bc,B] at c1 c2 ⊢
       clear r s e h
       refine PTriple.of_body (C:=cx) Tryz.func197 rfl (by kernel_rfl) mixed fun E hE=>?_
       all_goals exact kb22
      case neg=>
       have r:rank [a,b,c,d,e] k=4:=by simp[rank,h0,h1,h2,h3,h4,e4]
       have s:has [a,b,c,d,e] k=false:=by simp[has,h0,h1,h2,h3,h4,e4]
       have e:lay [a,b,c,d,e] k v=[a,b,c,d,(k,v),e]:=by simp[lay,h0,h1,h2,h3,h4,e4]
       rw[r,s] at c1
       rw[e]
       dsimp only[bV,bc,B] at c1 c2 ⊢
       clear r s e h
       refine PTriple.of_body (C:=cx) Tryz.func197 rfl (by kernel_rfl) mixed fun E hE=>?_
       all_goals exact kb22
     case pos=>
      have r:rank [a,b,c,d,e] k=5:=by simp[rank,h0,h1,h2,h3,h4]
      have s:has [a,b,c,d,e] k=false:=by simp[has,h0,h1,h2,h3,h4]
      have e:lay [a,b,c,d,e] k v=[a,b,c,d,e,(k,v)]:=by simp[lay,h0,h1,h2,h3,h4]
      rw[r,s] at c1
      rw[e]
      dsimp only[bV,bc,B] at c1 c2 ⊢
      clear r s e h
      refine PTriple.of_body (C:=cx) Tryz.func197 rfl (by kernel_rfl) mixed fun E hE=>?_
      all_goals exact kb22
theorem put_6 (a b c d e f:Int×Int) (k v:Int) (hl:Lg [a,b,c,d,e,f]) (h:(lay [a,b,c,d,e,f] k v).length≤6):PTriple Tryz.prog gv 197 [bV (B [a,b,c,d,e,f]),u32V k,i64V v] (.tup [bV (B (lay [a,b,c,d,e,f] k v)),.bool true]):=by
 have c1:=find_ok [a,b,c,d,e,f] hl k
 have c2:=good_ok (B [a,b,c,d,e,f])
 rw[goodB_B hl] at c2
 clear hl
 by_cases h0:a.1<k
 case neg=>
  by_cases e0:a.1=k
  case pos=>
   have r:rank [a,b,c,d,e,f] k=0:=by simp[rank,h0,e0]
   have s:has [a,b,c,d,e,f] k=true:=by simp[has,h0,e0]
   have e:lay [a,b,c,d,e,f] k v=[(k,v),b,c,d,e,f]:=by simp[lay,h0,e0]
   rw[r,s] at c1
   rw[e]
   dsimp only[bV,bc,B] at c1 c2 ⊢
   clear r s e h
   refine PTriple.of_body (C:=cx) Tryz.func197 rfl (by kernel_rfl) mixed fun E hE=>?_
   all_goals exact kb22
  case neg=>
   have r:rank [a,b,c,d,e,f] k=0:=by simp[rank,h0,e0]
   have s:has [a,b,c,d,e,f] k=false:=by simp[has,h0,e0]
   have e:lay [a,b,c,d,e,f] k v=[(k,v),a,b,c,d,e,f]:=by simp[lay,h0,e0]
   rw[e] at h
   exact absurd h (by simp)
 case pos=>
  by_cases h1:b.1<k
  case neg=>
   by_cases e1:b.1=k
   case pos=>
    have r:rank [a,b,c,d,e,f] k=1:=by simp[rank,h0,h1,e1]
    have s:has [a,b,c,d,e,f] k=true:=by simp[has,h0,h1,e1]
    have e:lay [a,b,c,d,e,f] k v=[a,(k,v),c,d,e,f]:=by simp[lay,h0,h1,e1]
    rw[r,s] at c1
    rw[e]
    dsimp only[bV,bc,B] at c1 c2 ⊢
    clear r s e h
    refine PTriple.of_body (C:=cx) Tryz.func197 rfl (by kernel_rfl) mixed fun E hE=>?_
    all_goals exact kb22
   case neg=>
    have r:rank [a,b,c,d,e,f] k=1:=by simp[rank,h0,h1,e1]
    have s:has [a,b,c,d,e,f] k=false:=by simp[has,h0,h1,e1]
    have e:lay [a,b,c,d,e,f] k v=[a,(k,v),b,c,d,e,f]:=by simp[lay,h0,h1,e1]
    rw[e] at h
    exact absurd h (by simp)
  case pos=>
   by_cases h2:c.1<k
   case neg=>
    by_cases e2:c.1=k
    case pos=>
     have r:rank [a,b,c,d,e,f] k=2:=by simp[rank,h0,h1,h2,e2]
     have s:has [a,b,c,d,e,f] k=true:=by simp[has,h0,h1,h2,e2]
     have e:lay [a,b,c,d,e,f] k v=[a,b,(k,v),d,e,f]:=by simp[lay,h0,h1,h2,e2]
     rw[r,s] at c1
     rw[e]
     dsimp only[bV,bc,B] at c1 c2 ⊢
     clear r s e h
     refine PTriple.of_body (C:=cx) Tryz.func197 rfl (by kernel_rfl) mixed fun E hE=>?_
     all_goals exact kb22
    case neg=>
     have r:rank [a,b,c,d,e,f] k=2:=by simp[rank,h0,h1,h2,e2]
     have s:has [a,b,c,d,e,f] k=false:=by simp[has,h0,h1,h2,e2]
     have e:lay [a,b,c,d,e,f] k v=[a,b,(k,v),c,d,e,f]:=by simp[lay,h0,h1,h2,e2]
     rw[e] at h
     exact absurd h (by simp)
   case pos=>
    by_cases h3:d.1<k
    case neg=>
     by_cases e3:d.1=k
     case pos=>
      have r:rank [a,b,c,d,e,f] k=3:=by simp[rank,h0,h1,h2,h3,e3]
      have s:has [a,b,c,d,e,f] k=true:=by simp[has,h0,h1,h2,h3,e3]
      have e:lay [a,b,c,d,e,f] k v=[a,b,c,(k,v),e,f]:=by simp[lay,h0,h1,h2,h3,e3]
      rw[r,s] at c1
      rw[e]
      dsimp only[bV,bc,B] at c1 c2 ⊢
      clear r s e h
      refine PTriple.of_body (C:=cx) Tryz.func197 rfl (by kernel_rfl) mixed fun E hE=>?_
      all_goals exact kb22
     case neg=>
      have r:rank [a,b,c,d,e,f] k=3:=by simp[rank,h0,h1,h2,h3,e3]
      have s:has [a,b,c,d,e,f] k=false:=by simp[has,h0,h1,h2,h3,e3]
      have e:lay [a,b,c,d,e,f] k v=[a,b,c,(k,v),d,e,f]:=by simp[lay,h0,h1,h2,h3,e3]
      rw[e] at h
      exact absurd h (by simp)
    case pos=>
     by_cases h4:e.1<k
     case neg=>
      by_cases e4:e.1=k
      case pos=>
       have r:rank [a,b,c,d,e,f] k=4:=by simp[rank,h0,h1,h2,h3,h4,e4]
       have s:has [a,b,c,d,e,f] k=true:=by simp[has,h0,h1,h2,h3,h4,e4]
       have e:lay [a,b,c,d,e,f] k v=[a,b,c,d,(k,v),f]:=by simp[lay,h0,h1,h2,h3,h4,e4]
       rw[r,s] at c1
       rw[e]
       dsimp only[bV,bc,B] at c1 c2 ⊢
       clear r s e h
       refine PTriple.of_body (C:=cx) Tryz.func197 rfl (by kernel_rfl) mixed fun E hE=>?_
       all_goals exact kb22
      case neg=>
       have r:rank [a,b,c,d,e,f] k=4:=by simp[rank,h0,h1,h2,h3,h4,e4]
       have s:has [a,b,c,d,e,f] k=false:=by simp[has,h0,h1,h2,h3,h4,e4]
       have e:lay [a,b,c,d,e,f] k v=[a,b,c,d,(k,v),e,f]:=by simp[lay,h0,h1,h2,h3,h4,e4]
       rw[e] at h
       exact absurd h (by simp)
     case pos=>
      by_cases h5:f.1<k
      case neg=>
       by_cases e5:f.1=k
       case pos=>
        have r:rank [a,b,c,d,e,f] k=5:=by simp[rank,h0,h1,h2,h3,h4,h5,e5]
        have s:has [a,b,c,d,e,f] k=true:=by simp[has,h0,h1,h2,h3,h4,h5,e5]
        have e:lay [a,b,c,d,e,f] k v=[a,b,c,d,e,(k,v)]:=by simp[lay,h0,h1,h2,h3,h4,h5,e5]
        rw[r,s] at c1
        rw[e]
        dsimp only[bV,bc,B] at c1 c2 ⊢
        clear r s e h
        refine PTriple.of_body (C:=cx) Tryz.func197 rfl (by kernel_rfl) mixed fun E hE=>?_
        all_goals exact kb22
       case neg=>
        have r:rank [a,b,c,d,e,f] k=5:=by simp[rank,h0,h1,h2,h3,h4,h5,e5]
        have s:has [a,b,c,d,e,f] k=false:=by simp[has,h0,h1,h2,h3,h4,h5,e5]
        have e:lay [a,b,c,d,e,f] k v=[a,b,c,d,e,(k,v),f]:=by simp[lay,h0,h1,h2,h3,h4,h5,e5]
        rw[e] at h
        exact absurd h (by simp)
      case pos=>
       have r:rank [a,b,c,d,e,f] k=6:=by simp[rank,h0,h1,h2,h3,h4,h5]
       have s:has [a,b,c,d,e,f] k=false:=by simp[has,h0,h1,h2,h3,h4,h5]
       have e:lay [a,b,c,d,e,f] k v=[a,b,c,d,e,f,(k,v)]:=by simp[lay,h0,h1,h2,h3,h4,h5]
       rw[e] at h
       exact absurd h (by simp)
theorem put_ok (l:List (Int×Int)) (hl:Lg l) (k v:Int) (h:(lay l k v).length≤6):PTriple Tryz.prog gv 197 [bV (B l),u32V k,i64V v] (.tup [bV (B (lay l k v)),.bool true]):=by
 rcases len_cases (hl.len) with rfl|⟨a,rfl⟩|⟨a,b,rfl⟩|⟨a,b,c,rfl⟩|⟨a,b,c,d,rfl⟩|⟨a,b,c,d,e,rfl⟩|⟨a,b,c,d,e,f,rfl⟩
 ·exact put_0  k v hl h
 ·exact put_1 a k v hl h
 ·exact put_2 a b k v hl h
 ·exact put_3 a b c k v hl h
 ·exact put_4 a b c d k v hl h
 ·exact put_5 a b c d e k v hl h
 ·exact put_6 a b c d e f k v hl h
theorem lay_len (l:List (Int×Int)) (k v:Int):(lay l k v).length=l.length+(if has l k=true then 0 else 1):=by
 induction l with
 | nil=>simp[lay,has]
 | cons a r ih=>
  by_cases h:a.1<k
  ·simp[lay,has,h,ih];omega
  ·by_cases e:a.1=k
   ·simp[lay,has,h,e]
   ·simp[lay,has,h,e]
theorem put_full (l:List (Int×Int)) (hl:Lg l) (k v:Int) (h:¬(lay l k v).length≤6):PTriple Tryz.prog gv 197 [bV (B l),u32V k,i64V v] (.tup [bV (B []),.bool false]):=by
 have h6:=hl.len
 rw[lay_len] at h
 have hh:has l k=false:=by cases e:has l k<;>simp[e] at h<;>first|rfl|omega
 have hn:l.length=6:=by rw[hh] at h;simp at h;omega
 have c1:=find_ok l hl k
 have c2:=good_ok (B l)
 rw[goodB_B hl] at c2
 rw[hh] at c1
 generalize rank l k=i at c1
 obtain⟨a,b,c,d,e,f,rfl⟩:∃a b c d e f,l=[a,b,c,d,e,f]:=by
  match l,hn with
  | [a,b,c,d,e,f],_=>exact⟨a,b,c,d,e,f,rfl⟩
 clear hl h hh hn h6
 refine PTriple.of_body (C:=cx) Tryz.func197 rfl (by kernel_rfl) mixed fun E hE=>?_
 all_goals exact kb22
end Go.Proofs.YtbppemcdphgknaaGreatDoor.T
