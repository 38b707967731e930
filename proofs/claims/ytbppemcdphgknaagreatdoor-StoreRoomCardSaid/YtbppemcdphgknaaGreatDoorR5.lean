/- A part of the proofs over the seat YtbppemcdphgknaaGreatDoor. -/
import Derived.Test.YtbppemcdphgknaaGreatDoorR4
import Derived.Test.YtbppemcdphgknaaGreatDoorVm28
set_option linter.unusedVariables false
set_option linter.unusedSimpArgs false
set_option maxRecDepth 100000
set_option maxHeartbeats 40000000
namespace Go.Proofs.YtbppemcdphgknaaGreatDoor.T
open Go Go.Vm
set_option maxRecDepth 100000
set_option maxHeartbeats 40000000
set_option linter.unusedSimpArgs false
set_option linter.unusedVariables false
noncomputable def cxT:Cx DV:=cxOf [(161,2),(164,2),(183,2),(163,2),(162,2),(115,2),(182,2),(124,2)]
noncomputable abbrev R0:Rep DV:=cxT.R
abbrev PL:=List (Int×Int)
def rowL (L:List PL):List (List V):=L.map fun l=>bc (B l)
def rowF (F:List Nat):List (List V):=F.map fun(i:Nat)=>[i64V i]
def tC (m f:Name) (nL nF:Nat) (root high n:Int):List V:=[.rsl m 13 0 nL,.rsl f 1 0 nF,i64V root,i64V high,i64V n]
def trD (L:List PL) (F:List Nat) (root high n:Int):DV:=.mk (tC (0,0) (0,1) L.length F.length root high n) [.row 13 (rowL L) false,.row 1 (rowF F) false]
theorem pure_L (L:List PL):PureEs (rowL L):=fun e he v hv=>by
 obtain⟨l,_,rfl⟩:=List.mem_map.1 he
 simp[bc] at hv
 rcases hv with rfl|rfl|rfl|rfl|rfl|rfl|rfl|rfl|rfl|rfl|rfl|rfl|rfl<;>exact .int _ _
theorem pure_F (F:List Nat):PureEs (rowF F):=fun e he v hv=>by
 obtain⟨l,_,rfl⟩:=List.mem_map.1 he
 obtain rfl:v=i64V l:=by simpa using hv
 exact .int _ _
theorem rowL_len (L:List PL):(rowL L).length=L.length:=by simp[rowL]
theorem rowF_len (F:List Nat):(rowF F).length=F.length:=by simp[rowF]
theorem shut_tr (m f:Name) (L:List PL) (F:List Nat) (root high n:Int) {xs ys:List (List V)} (h:xs=rowL L) (h':ys=rowF F) {nL nF:Nat} (hl:L.length=nL) (hf:F.length=nF):Shut (trD L F root high n) [m,f] [.rsl m 13 0 nL,.rsl f 1 0 nF,i64V root,i64V high,i64V n] [.row 13 xs false,.row 1 ys false]:=by
 subst h h' hl hf
 exact⟨rfl,.cons (.refl _) (.cons (.refl _) .nil),by simp[trD,tC,Deep.op,okC,okN],by simp[trD,Deep.op,okC,okOb,pure_L,pure_F]⟩
theorem rowL_get {L:List PL} {i:Nat} {l:PL} (h:L[i]?=some l):lget (rowL L) i=some (bc (B l)):=by
 rw[lget_eq,rowL,List.getElem?_map,h];rfl
theorem rowL_set (L:List PL) (i:Nat) (l:PL):lset (rowL L) i (bc (B l))=rowL (L.set i l):=by
 rw[lset_eq,rowL,rowL,List.map_set]
theorem rowF_get {F:List Nat} {i j:Nat} (h:F[i]?=some j):lget (rowF F) i=some [i64V j]:=by
 rw[lget_eq,rowF,List.getElem?_map,h];rfl
theorem bc_key {l:PL} (hl:l.length≤6) {i:Nat} {x:Int×Int} (h:l[i]?=some x):lget (bc (B l)) (1+i)=some (u32V x.1):=by
 rw[lget_eq]
 rcases len_cases hl with rfl|⟨a,rfl⟩|⟨a,b,rfl⟩|⟨a,b,c,rfl⟩|⟨a,b,c,d,rfl⟩|⟨a,b,c,d,e,rfl⟩|⟨a,b,c,d,e,f,rfl⟩
 all_goals
  rcases i with _|_|_|_|_|_|i<;>first|(simp at h;done)|(simp at h;subst h;rfl)
theorem bc_val {l:PL} (hl:l.length≤6) {i:Nat} {x:Int×Int} (h:l[i]?=some x):lget (bc (B l)) (7+i)=some (i64V x.2):=by
 rw[lget_eq]
 rcases len_cases hl with rfl|⟨a,rfl⟩|⟨a,b,rfl⟩|⟨a,b,c,rfl⟩|⟨a,b,c,d,rfl⟩|⟨a,b,c,d,e,rfl⟩|⟨a,b,c,d,e,f,rfl⟩
 all_goals
  rcases i with _|_|_|_|_|_|i<;>first|(simp at h;done)|(simp at h;subst h;rfl)
def wayI (l:PL) (k:Int):Nat:=if has l k=true∨rank l k=0 then(rank l k).toNat else(rank l k).toNat-1
theorem way_ok (l:PL) (hl:Lg l) (k:Int):PTriple Tryz.prog gv 153 [bV (B l),u32V k] (i64V (wayI l k)):=by
 have c:=find_ok l hl k
 have hr:=rank_le l k
 have hlen:=hl.len
 unfold wayI
 generalize rank l k=r at c hr
 obtain⟨q,rfl⟩:=Int.eq_ofNat_of_zero_le hr.1
 rw[Int.toNat_natCast]
 cases hh:has l k with
 | true=>
  rw[hh] at c
  rw[if_pos (.inl rfl)]
  refine PTriple.of_body (C:=cx) Tryz.func153 rfl (by kernel_rfl) mixed fun E hE=>?_
  all_goals exact kb23
 | false=>
  rw[hh] at c
  by_cases h0:(q:Int)=0
  ·rw[if_pos (.inr h0)]
   refine PTriple.of_body (C:=cx) Tryz.func153 rfl (by kernel_rfl) mixed fun E hE=>?_
   all_goals exact kb23
  ·rw[if_neg (by simp;omega)]
   have hw:IntKind.i64.wrap ((q:Int)-1)=((q-1:Nat):Int):=(wrap64 (by omega) (by omega)).trans (by omega)
   refine PTriple.of_body (C:=cx) Tryz.func153 rfl (by kernel_rfl) mixed fun E hE=>?_
   repeat' (conv=>whnf);first
    | (refine bcase_of (fun hr=>?_) (fun hr=>?_)<;>(try simp at hr)<;>try omega)
    | (apply And.intro;· first|exact nd1)
    | (apply Exists.intro;apply And.intro;· first|exact rfl|exact c)
    | fail
   all_goals (conv=>whnf)
   all_goals (show _=V.int .i64 _;rw[←hw];rfl)
end Go.Proofs.YtbppemcdphgknaaGreatDoor.T
namespace Go.Proofs.YtbppemcdphgknaaGreatDoor.T
open Go Go.Vm
def PathB (L:List PL) (k:Int):Nat→PL→PL→Prop
 | 0,m,l=>m=l∧Lg l
 | h+1,m,l=>Lg m∧∃(x:Int) (c:Nat) (m':PL),m[wayI m k]?=some (x,(c:Int))∧L[c]?=some m'∧PathB L k h m' l
theorem PathB.lg {L:List PL} {k:Int}:∀{h:Nat} {m l:PL},PathB L k h m l→Lg m
 | 0,_,_,h=>by obtain⟨rfl,h⟩:=h;exact h
 | _+1,_,_,h=>h.1
theorem PathB.lgl {L:List PL} {k:Int}:∀{h:Nat} {m l:PL},PathB L k h m l→Lg l
 | 0,_,_,h=>h.2
 | _+1,_,_,h=>by obtain⟨_,x,c,m',_,_,h⟩:=h;exact h.lgl
def stLeaf (L:List PL) (F:List Nat) (root high n k:Int) (z:List V) (i:Nat) (m:PL):St DV:=
 mkStX 36 2 [(0,.ref (0,0) 0),(1,u32V k),(4,.ref (5,1) 0),(5,.ref (6,1) 0),(19,i64V high),(20,i64V i)] [(36,.row 13 (rowL L) false),(37,.row 1 (rowF F) false),(4,.box z),(5,.box (bc (B m)))] [some (.box (tC (37,1) (38,1) L.length F.length root high n))]
structure ZL where
 i:Nat
 m:PL
theorem leaf_ok (L:List PL) (F:List Nat) (root:Nat) (h:Nat) (n k:Int) (hh:h≤1000000) {m l:PL} (hr:L[root]?=some m) (hp:PathB L k h m l):ATriple Tryz.prog gv R0 161 [.ref (0,0) 0,u32V k] [.abs (trD L F root h n)] (bV (B l)) [.abs (trD L F root h n)] (none):=by
 have hrl:=(List.getElem?_eq_some_iff.1 hr).1
 have gr:=rowL_get hr
 have lL:=rowL_len L
 have bL:(0:Int)≤root∧(root:Int)<L.length:=⟨by omega,by omega⟩
 have hm:=hp.lg
 have pL:=pure_L L
 have pF:=pure_F F
 refine ATriple.of_bodyW (C:=cxT) Tryz.func161 rfl (by kernel_rfl) (mixedOf _) rfl (by simp[okA,okC,okN]) (by simp[okOb,okC,okN]) (by simp[okG,okA,okC,okN]) (by simp[okOb,okC,okN]) (fun o ho=>by cases ho) 2 [.opn (0,0) [36,37]] fun E hE=>?_
 repeat' (conv=>whnf);first
  | (refine bcase_of (fun hr=>?_) (fun hr=>?_)<;>try(exfalso;simp at hr;done))
  | (apply And.intro;· first|exact nd1|exact bL|exact⟨rfl,rfl⟩)
  | (apply Exists.intro;apply And.intro;· first|exact rfl|(rw[Int.toNat_natCast,Nat.zero_add];exact gr)|exact gr)
  | fail
 all_goals (conv=>whnf)
 refine VLoop.norm [0,1,4,5,19,20] [36,37,4,5] ?_
 repeat' (conv=>whnf);first
  | (apply And.intro;· first|exact nd2|exact pL|exact pF)
  | (apply Exists.intro;apply And.intro;· first|exact rfl)
  | fail
 refine VLoop.inv (fun z:ZL=>stLeaf L F root h n k (bc (B [])) z.i z.m) (fun z=>z.i≤h∧PathB L k (h-z.i) z.m l) (fun z=>h-z.i) ⟨0,m⟩ ⟨Nat.zero_le _,hp⟩ rfl ?_
 rintro⟨i,m⟩ ⟨hi,hp⟩ ih
 simp only at hi hp ih
 show VLoop cxT E _ (stLeaf L F root h n k (bc (B [])) i m) _
 have hw:IntKind.i64.wrap ((i:Int)+1)=((i+1:Nat):Int):=wrap64 (by omega) (by omega)
 refine VLoop.unroll hE (mixedOf _) ?_
 by_cases hgo:i<h
 case pos=>
  obtain⟨d,hd⟩:∃d,h-i=d+1:=⟨h-i-1,by omega⟩
  rw[hd] at hp
  obtain⟨hlm,x,c,m',q1,q2,q3⟩:=hp
  have cw:=way_ok m hlm k
  have gv':lget (bc (B m)) (0+7+(wayI m k:Int).toNat*1)=some (i64V c):=by rw[Int.toNat_natCast,Nat.mul_one,Nat.zero_add];exact bc_val hlm.len q1
  have gc:lget (rowL L) (0+(c:Int).toNat)=some (bc (B m')):=by rw[Int.toNat_natCast,Nat.zero_add];exact rowL_get q2
  have hcl:=(List.getElem?_eq_some_iff.1 q2).1
  have hwl:=(List.getElem?_eq_some_iff.1 q1).1
  have hml:=hlm.len
  generalize wayI m k=wi at cw gv' q1 hwl
  repeat' (conv=>whnf);first
   | (refine bcase_of (fun hr=>?_) (fun hr=>?_)<;>(try simp at hr)<;>try omega)
   | (apply And.intro;· first|exact nd9)
   | (apply Exists.intro;apply And.intro;· first|exact rfl|exact cw|exact gv'|exact gc)
   | fail
  all_goals (conv=>whnf)
  refine VLoop.norm [0,1,4,5,19,20] [36,37,4,5] ?_
  repeat' (conv=>whnf);first
   | (apply And.intro;· first|exact nd2|exact pL|exact pF)
   | (apply Exists.intro;apply And.intro;· first|exact rfl)
   | fail
  rw[hw]
  exact ih ⟨i+1,m'⟩ ⟨hgo,by rw[show h-(i+1)=d by omega];exact q3⟩ (by show h-(i+1)<h-i;omega)
 case neg=>
  obtain rfl:i=h:=by omega
  rw[Nat.sub_self] at hp
  obtain⟨rfl,hl⟩:=hp
  repeat' (conv=>whnf);first
   | (refine bcase_of (fun hr=>?_) (fun hr=>?_)<;>(try simp at hr)<;>try omega)
   | (apply And.intro;· first|exact nd4)
   | (apply Exists.intro;apply And.intro;· first|exact rfl)
   | fail
  all_goals (conv=>whnf)
  refine⟨[.shut (0,0) (trD L F root i n)],?_⟩
  conv=>whnf
  refine⟨shut_tr (37,1) (38,1) L F root i n rfl rfl rfl rfl,?_⟩
  conv=>whnf
  exact⟨rfl,rfl⟩
end Go.Proofs.YtbppemcdphgknaaGreatDoor.T
namespace Go.Proofs.YtbppemcdphgknaaGreatDoor.T
open Go Go.Vm
theorem has_get:∀{l:PL} {k:Int},has l k=true→∃v,l[(rank l k).toNat]?=some (k,v)
 | [],k,h=>by simp[has] at h
 | a::r,k,h=>by
  simp only[has,rank] at h ⊢
  split at h
  ·rename_i hk
   obtain⟨v,hv⟩:=has_get h
   have:=rank_le r k
   exact⟨v,by rw[if_pos hk,show(rank r k+1).toNat=(rank r k).toNat+1 by omega];simpa using hv⟩
  ·rename_i hk
   rw[if_neg hk]
   exact⟨a.2,by simp at h;simp[←h]⟩
theorem get_no (L:List PL) (F:List Nat) (root:Nat) (h:Nat) (n k:Int) (hh:h≤1000000) {m l:PL} (hr:L[root]?=some m) (hp:PathB L k h m l) (hk:has l k=false):ATriple Tryz.prog gv R0 124 [.ref (0,0) 0,u32V k] [.abs (trD L F root h n)] (.tup [i64V 0,.bool false]) [.abs (trD L F root h n)] (none):=by
 have c1:=leaf_ok L F root h n k hh hr hp
 have c2:=find_ok l hp.lgl k
 rw[hk] at c2
 refine ATriple.of_bodyW (C:=cxT) Tryz.func124 rfl (by kernel_rfl) (mixedOf _) rfl (by simp[okA,okC,okN]) (by simp[okOb,okC,okN]) (by simp[okG,okA,okC,okN]) (by simp[okOb,okC,okN]) (fun o ho=>by cases ho) 0 [] fun E hE=>?_
 repeat' (conv=>whnf);first
  | (refine bcase_of (fun hr=>?_) (fun hr=>?_)<;>(try simp at hr)<;>try omega)
  | (apply And.intro;· first|exact nd4)
  | (apply Exists.intro;apply And.intro;· first|exact rfl|exact c2)
  | (apply Exists.intro;apply Exists.intro;apply Exists.intro;apply And.intro;· first|(refine ATriple.callN (c1) ?_ ?_ ?_<;>rfl))
  | fail
 all_goals (conv=>whnf)
 all_goals refine⟨[],?_⟩
 all_goals (conv=>whnf)
 all_goals exact⟨rfl,rfl⟩
theorem get_yes (L:List PL) (F:List Nat) (root:Nat) (h:Nat) (n k:Int) (hh:h≤1000000) {m l:PL} (hr:L[root]?=some m) (hp:PathB L k h m l) {v:Int} (hk:has l k=true) (hv:l[(rank l k).toNat]?=some (k,v)):ATriple Tryz.prog gv R0 124 [.ref (0,0) 0,u32V k] [.abs (trD L F root h n)] (.tup [i64V v,.bool true]) [.abs (trD L F root h n)] (none):=by
 have c1:=leaf_ok L F root h n k hh hr hp
 have c2:=find_ok l hp.lgl k
 rw[hk] at c2
 have hlen:=hp.lgl.len
 have g1:=bc_val hlen hv
 have hrl:=rank_lt hk
 have hr0:=(rank_le l k).1
 generalize rank l k=r at c2 g1 hv hrl hr0
 obtain⟨q,rfl⟩:=Int.eq_ofNat_of_zero_le hr0
 have g2:lget (bc (B l)) (0+7+(q:Int).toNat*1)=some (i64V v):=by rw[Nat.mul_one,Nat.zero_add];exact g1
 refine ATriple.of_bodyW (C:=cxT) Tryz.func124 rfl (by kernel_rfl) (mixedOf _) rfl (by simp[okA,okC,okN]) (by simp[okOb,okC,okN]) (by simp[okG,okA,okC,okN]) (by simp[okOb,okC,okN]) (fun o ho=>by cases ho) 0 [] fun E hE=>?_
 repeat' (conv=>whnf);first
  | (refine bcase_of (fun hr=>?_) (fun hr=>?_)<;>(try simp at hr)<;>try omega)
  | (apply And.intro;· first|exact nd9)
  | (apply Exists.intro;apply And.intro;· first|exact rfl|exact c2|exact g2)
  | (apply Exists.intro;apply Exists.intro;apply Exists.intro;apply And.intro;· first|(refine ATriple.callN (c1) ?_ ?_ ?_<;>rfl))
  | fail
 all_goals (conv=>whnf)
 all_goals refine⟨[],?_⟩
 all_goals (conv=>whnf)
 all_goals exact⟨rfl,rfl⟩
theorem get_nil (k:Int):ATriple Tryz.prog gv R0 124 [.nilp,u32V k] [] (.tup [i64V 0,.bool false]) [] (none):=by
 refine ATriple.of_bodyW (C:=cxT) Tryz.func124 rfl (by kernel_rfl) (mixedOf _) rfl (by simp[okA,okC,okN]) (by simp[okOb,okC,okN]) (by simp[okG,okA,okC,okN]) (by simp[okOb,okC,okN]) (fun o ho=>by cases ho) 0 [] fun E hE=>?_
 repeat' (conv=>whnf);first
  | (refine bcase_of (fun hr=>?_) (fun hr=>?_)<;>(try simp at hr)<;>try omega)
  | (apply And.intro;· first|exact nd4)
  | (apply Exists.intro;apply And.intro;· first|exact rfl)
  | fail
 all_goals (conv=>whnf)
 all_goals refine⟨[],?_⟩
 all_goals (conv=>whnf)
 all_goals exact⟨rfl,rfl⟩
theorem len_ok (L:List PL) (F:List Nat) (root high n:Int):ATriple Tryz.prog gv R0 91 [.ref (0,0) 0] [.abs (trD L F root high n)] (i64V n) [.abs (trD L F root high n)] (none):=by
 have pL:=pure_L L
 have pF:=pure_F F
 refine ATriple.of_bodyW (C:=cxT) Tryz.func91 rfl (by kernel_rfl) (mixedOf _) rfl (by simp[okA,okC,okN]) (by simp[okOb,okC,okN]) (by simp[okG,okA,okC,okN]) (by simp[okOb,okC,okN]) (fun o ho=>by cases ho) 2 [.opn (0,0) [9,10]] fun E hE=>?_
 repeat' (conv=>whnf);first
  | (refine bcase_of (fun hr=>?_) (fun hr=>?_)<;>(try simp at hr)<;>try omega)
  | (apply And.intro;· first|exact nd4)
  | (apply Exists.intro;apply And.intro;· first|exact rfl)
  | fail
 all_goals (conv=>whnf)
 refine⟨[.shut (0,0) (trD L F root high n)],?_⟩
 conv=>whnf
 refine⟨shut_tr (10,1) (11,1) L F root high n rfl rfl rfl rfl,?_⟩
 conv=>whnf
 exact⟨rfl,rfl⟩
theorem new_ok  : ATriple Tryz.prog gv R0 83 [] [] (.ref (0,0) 0) [] (some (.abs (trD [[]] [] 0 0 0))):=by
 refine ATriple.of_bodyW (C:=cxT) Tryz.func83 rfl (by kernel_rfl) (mixedOf _) rfl (by simp[okA,okC,okN]) (by simp[okOb,okC,okN]) (by simp[okG,okA,okC,okN]) (by simp[okOb,okC,okN]) (fun o ho=>by cases ho;exact⟨trivial,rfl⟩) 2 [] fun E hE=>?_
 repeat' (conv=>whnf);first
  | (refine bcase_of (fun hr=>?_) (fun hr=>?_)<;>(try simp at hr)<;>try omega)
  | (apply And.intro;· first|exact nd4|exact⟨by decide,by decide,by decide,by decide⟩|(refine⟨by decide,by decide,?_,?_⟩<;>decide))
  | (apply Exists.intro;apply And.intro;· first|exact rfl)
  | fail
 all_goals (conv=>whnf)
 refine⟨[.nil (4,1) 1 5 1,.shut (4,1) (trD [[]] [] 0 0 0)],?_⟩
 conv=>whnf
 refine⟨rfl,?_⟩
 conv=>whnf
 refine⟨shut_tr _ _ [[]] [] 0 0 0 rfl rfl rfl rfl,?_⟩
 conv=>whnf
 exact⟨(4,1),by decide,rfl,rfl,rfl,rfl⟩
end Go.Proofs.YtbppemcdphgknaaGreatDoor.T
namespace Go.Proofs.YtbppemcdphgknaaGreatDoor.T
open Go Go.Vm
theorem rowF_app (F:List Nat) (j:Nat):rowF (F++[j])=rowF F++[[i64V j]]:=by simp[rowF]
theorem rowL_app (L:List PL) (l:PL):rowL (L++[l])=rowL L++[bc (B l)]:=by simp[rowL]
theorem rowF_cut (F:List Nat) (j:Nat):(rowF (F++[j])).take F.length=rowF F:=by
 rw[rowF_app,List.take_append_of_le_length (by rw[rowF_len];exact Nat.le_refl _),List.take_of_length_le (by rw[rowF_len];exact Nat.le_refl _)]
theorem add_pop (L:List PL) (F:List Nat) (root high n:Int) (l:PL) {j:Nat} (hj:j<L.length) (hF:F.length≤1000000):ATriple Tryz.prog gv R0 164 [.ref (0,0) 0,bV (B l)] [.abs (trD L (F++[j]) root high n)] (i64V j) [.abs (trD (L.set j l) F root high n)] (none):=by
 have lL:=rowL_len L
 have lF:=rowF_len (F++[j])
 have hfl:(F++[j]).length=F.length+1:=by simp
 have hw:IntKind.i64.wrap (((F++[j]).length:Int)-1)=(F.length:Int):=by rw[wrap64 (by omega) (by omega)];omega
 have hw2:IntKind.i64.wrap (F.length:Int)=(F.length:Int):=wrap64 (by omega) (by omega)
 have gj:lget (rowF (F++[j])) (0+(F.length:Int).toNat)=some [i64V j]:=by rw[Int.toNat_natCast,Nat.zero_add];exact rowF_get (by simp)
 have gl:lget (rowL L) (0+(j:Int).toNat)=some (bc (B L[j])):=by rw[Int.toNat_natCast,Nat.zero_add];exact rowL_get (List.getElem?_eq_getElem hj)
 have e1:lset (rowL L) (0+(j:Int).toNat) (lput (bc (B L[j])) 0 (bc (B l)))=rowL (L.set j l):=by rw[Nat.zero_add,Int.toNat_natCast];exact rowL_set L j l
 refine ATriple.of_bodyW (C:=cxT) Tryz.func164 rfl (by kernel_rfl) (mixedOf _) rfl (by simp[okA,okC,okN]) (by simp[okOb,okC,okN]) (by simp[okG,okA,okC,okN]) (by simp[okOb,okC,okN]) (fun o ho=>by cases ho) 2 [.opn (0,0) [55,56]] fun E hE=>?_
 repeat' (conv=>whnf);first
  | (refine bcase_of (fun hr=>?_) (fun hr=>?_)<;>(try simp at hr)<;>try(exfalso;first|omega|(rw[hw2] at hr;omega)))
  | (apply And.intro;· first|exact nd9|(refine⟨?_,?_,?_⟩<;>omega)|(refine⟨?_,?_,?_,?_⟩<;>omega))
  | (apply Exists.intro;apply And.intro;· first|exact rfl|exact gj|exact gl)
  | rw[hw]
  | fail
 all_goals (conv=>whnf)
 refine⟨[.cut (57,1) F.length,.shut (0,0) (trD (L.set j l) F root high n)],?_⟩
 conv=>whnf
 refine⟨shut_tr (56,1) (57,1) (L.set j l) F root high n e1 (rowF_cut F j) (by simp) (by simp),?_⟩
 conv=>whnf
 exact⟨rfl,rfl⟩
theorem add_new (L:List PL) (root high n:Int) (l:PL) (hL:L.length≤1000000):ATriple Tryz.prog gv R0 164 [.ref (0,0) 0,bV (B l)] [.abs (trD L [] root high n)] (i64V L.length) [.abs (trD (L++[l]) [] root high n)] (none):=by
 have lL:=rowL_len L
 have pL:=pure_L L
 have hra:0+L.length≤(rowL L).length∧(false=true→0+L.length=(rowL L).length)∧(L.length+(([bc (B l)].drop 0).take 1).length)*80≤roomBound∧L.length+(([bc (B l)].drop 0).take 1).length≤roomBound:=⟨by omega,fun h=>(by cases h),by show(L.length+1)*80≤_;unfold roomBound;omega,by show L.length+1≤_;unfold roomBound;omega⟩
 have hw:IntKind.i64.wrap (((L.length+(([bc (B l)].drop 0).take 1).length:Nat):Int)-1)=(L.length:Int):=by show IntKind.i64.wrap (((L.length+1:Nat):Int)-1)=_;rw[wrap64 (by omega) (by omega)];omega
 have e1:((rowL L).drop 0).take L.length++([bc (B l)].drop 0).take 1=rowL (L++[l]):=by rw[rowL_app,List.drop_zero,List.take_of_length_le (by omega)];rfl
 have hone:allOne (([bc (B l)].drop 0).take 1) 13:=allOne_of rfl
 refine ATriple.of_bodyW (C:=cxT) Tryz.func164 rfl (by kernel_rfl) (mixedOf _) rfl (by simp[okA,okC,okN]) (by simp[okOb,okC,okN]) (by simp[okG,okA,okC,okN]) (by simp[okOb,okC,okN]) (fun o ho=>by cases ho) 2 [.opn (0,0) [55,56]] fun E hE=>?_
 repeat' (conv=>whnf);first
  | (refine bcase_of (fun hr=>?_) (fun hr=>?_)<;>(try simp at hr)<;>try(exfalso;omega))
  | (apply And.intro;· first|exact nd1|exact hone|exact hra|exact⟨by omega,by omega⟩|exact⟨rfl,rfl⟩)
  | (apply Exists.intro;apply And.intro;· first|exact rfl)
  | rw[hw]
  | fail
 all_goals (conv=>whnf)
 refine⟨[.shut (0,0) (trD (L++[l]) [] root high n)],?_⟩
 conv=>whnf
 refine⟨shut_tr (47,1) (57,1) (L++[l]) [] root high n e1 rfl (by simp) rfl,?_⟩
 conv=>whnf
 exact⟨rfl,rfl⟩
end Go.Proofs.YtbppemcdphgknaaGreatDoor.T
namespace Go.Proofs.YtbppemcdphgknaaGreatDoor.T
open Go Go.Vm
def addP (n:Nat) (F:List Nat):Nat:=match F.getLast? with
 | some j=>j
 | none=>n
def addL (L:List PL) (F:List Nat) (l:PL):List PL:=match F.getLast? with
 | some j=>L.set j l
 | none=>L++[l]
theorem add_ok (L:List PL) (F:List Nat) (root high n:Int) (l:PL) (hL:L.length≤1000000) (hF:F.length≤1000000) (hj:∀j∈F,j<L.length):ATriple Tryz.prog gv R0 164 [.ref (0,0) 0,bV (B l)] [.abs (trD L F root high n)] (i64V (addP L.length F)) [.abs (trD (addL L F l) F.dropLast root high n)] none:=by
 unfold addP addL
 cases hl:F.getLast? with
 | none=>
  obtain rfl:F=[]:=by simpa using hl
  exact add_new L root high n l hL
 | some j=>
  have hne:F≠[]:=fun e=>by rw[e] at hl;cases hl
  have e:F=F.dropLast++[j]:=by
   have h1:=List.dropLast_concat_getLast hne
   rw[List.getLast?_eq_some_getLast hne] at hl
   cases hl
   exact h1.symm
  have hjl:=hj j (List.mem_of_getLast? hl)
  have:=add_pop L F.dropLast root high n l hjl (by simp;omega)
  rw[←e] at this
  exact this
theorem B_k0 {x:Int×Int} {r:PL} (h:(x::r).length≤6):(B (x::r)).k0=x.1:=by
 rcases len_cases h with h|⟨a,h⟩|⟨a,b,h⟩|⟨a,b,c,h⟩|⟨a,b,c,d,h⟩|⟨a,b,c,d,e,h⟩|⟨a,b,c,d,e,f,h⟩
 all_goals first|(cases h;done)|(cases h;rfl)
theorem set_in (L:List PL) (F:List Nat) (root high n:Int) (a:Nat) (k v:Int) {l:PL} (ha:L[a]?=some l) (hl:Lg l) (hin:(lay l k v).length≤6):ATriple Tryz.prog gv R0 183 [.ref (0,0) 0,i64V a,u32V k,i64V v] [.abs (trD L F root high n)] (.tup [i64V 0,.bool false]) [.abs (trD (L.set a (lay l k v)) F root high n)] (none):=by
 have lL:=rowL_len L
 have hal:=(List.getElem?_eq_some_iff.1 ha).1
 have ga:lget (rowL L) (0+(a:Int).toNat)=some (bc (B l)):=by rw[Int.toNat_natCast,Nat.zero_add];exact rowL_get ha
 have ba:(0:Int)≤a∧(a:Int)<L.length:=⟨by omega,by omega⟩
 have c:=put_ok l hl k v hin
 have e1:lset (rowL L) (0+(a:Int).toNat) (lput (bc (B l)) 0 (bc (B (lay l k v))))=rowL (L.set a (lay l k v)):=by rw[Nat.zero_add,Int.toNat_natCast];exact rowL_set L a _
 refine ATriple.of_bodyW (C:=cxT) Tryz.func183 rfl (by kernel_rfl) (mixedOf _) rfl (by simp[okA,okC,okN]) (by simp[okOb,okC,okN]) (by simp[okG,okA,okC,okN]) (by simp[okOb,okC,okN]) (fun o ho=>by cases ho) 2 [.opn (0,0) [75,76]] fun E hE=>?_
 repeat' (conv=>whnf);first
  | (refine bcase_of (fun hr=>?_) (fun hr=>?_)<;>(try simp at hr)<;>try(exfalso;omega))
  | (apply And.intro;· first|exact nd1|exact ba|exact⟨rfl,rfl⟩)
  | (apply Exists.intro;apply And.intro;· first|exact rfl|exact c|exact ga)
  | fail
 all_goals (conv=>whnf)
 refine⟨[.shut (0,0) (trD (L.set a (lay l k v)) F root high n)],?_⟩
 conv=>whnf
 refine⟨shut_tr _ _ (L.set a (lay l k v)) F root high n e1 rfl (by simp) rfl,?_⟩
 conv=>whnf
 exact⟨rfl,rfl⟩
theorem six_of {l:PL} {k v:Int} (hl:l.length≤6) (h:¬(lay l k v).length≤6):l.length=6∧has l k=false:=by
 rw[lay_len] at h
 split at h
 ·omega
 ·rename_i hh;exact⟨by omega,by simpa using hh⟩
theorem set_l (L:List PL) (F:List Nat) (root high n:Int) (a:Nat) (k v:Int) {l:PL} (ha:L[a]?=some l) (hl:Lg l) (hout:¬(lay l k v).length≤6) {s sv:Int} {r:PL} (hs:l.drop 3=(s,sv)::r) (hks:k<s) (hL:L.length≤1000000) (hF:F.length≤1000000) (hj:∀j∈F,j<L.length):ATriple Tryz.prog gv R0 183 [.ref (0,0) 0,i64V a,u32V k,i64V v] [.abs (trD L F root high n)] (.tup [i64V (addP L.length F),.bool true]) [.abs (trD (addL (L.set a (lay (l.take 3) k v)) F (l.drop 3)) F.dropLast root high n)] (none):=by
 have lL:=rowL_len L
 have hal:=(List.getElem?_eq_some_iff.1 ha).1
 have ga:lget (rowL L) (0+(a:Int).toNat)=some (bc (B l)):=by rw[Int.toNat_natCast,Nat.zero_add];exact rowL_get ha
 have ba:(0:Int)≤a∧(a:Int)<L.length:=⟨by omega,by omega⟩
 have c:=put_full l hl k v hout
 obtain⟨h6,hno⟩:=six_of hl.len hout
 have c2:=split_ok l hl
 rw[h6,show hf 6=3 from rfl] at c2
 have hk0:(B (l.drop 3)).k0=s:=by rw[hs];exact B_k0 (by rw[←hs];simp;omega)
 have c3:=put_ok (l.take 3) (hl.take 3) k v (by rw[lay_len];split<;>simp<;>omega)
 have e1:lset (rowL L) (0+(a:Int).toNat) (lput (bc (B l)) 0 (bc (B (lay (l.take 3) k v))))=rowL (L.set a (lay (l.take 3) k v)):=by rw[Nat.zero_add,Int.toNat_natCast];exact rowL_set L a _
 have c4:=add_ok (L.set a (lay (l.take 3) k v)) F root high n (l.drop 3) (by simpa using hL) hF (by simpa using hj)
 rw[List.length_set] at c4
 generalize hL2:addL (L.set a (lay (l.take 3) k v)) F (l.drop 3)=L2 at c4
 generalize hF2:F.dropLast=F2 at c4
 generalize hP:addP L.length F=p at c4
 refine ATriple.of_bodyW (C:=cxT) Tryz.func183 rfl (by kernel_rfl) (mixedOf _) rfl (by simp[okA,okC,okN]) (by simp[okOb,okC,okN]) (by simp[okG,okA,okC,okN]) (by simp[okOb,okC,okN]) (fun o ho=>by cases ho) 2 [.opn (0,0) [75,76]] fun E hE=>?_
 repeat' (conv=>whnf);first
  | (refine bcase_of (fun hr=>?_) (fun hr=>?_)<;>(try rw[hk0] at hr)<;>(try simp at hr)<;>try(exfalso;omega))
  | (apply And.intro;· first|exact nd1|exact ba|exact⟨rfl,rfl⟩|exact⟨shut_tr _ _ _ F root high n e1 rfl (by simp) rfl,rfl,rfl⟩)
  | (apply Exists.intro;apply And.intro;· first|exact rfl|exact c|exact c2|exact c3|exact ga)
  | (apply Exists.intro;apply Exists.intro;apply Exists.intro;apply And.intro;· first|(refine ATriple.callC (c4) ?_ ?_<;>(intro d;rfl)))
  | fail
 all_goals (conv=>whnf)
 refine⟨[.shut (0,0) (trD L2 F2 root high n)],?_⟩
 conv=>whnf
 refine⟨shut_tr _ _ L2 F2 root high n rfl rfl rfl rfl,?_⟩
 conv=>whnf
 exact⟨rfl,rfl⟩
theorem set_r (L:List PL) (F:List Nat) (root high n:Int) (a:Nat) (k v:Int) {l:PL} (ha:L[a]?=some l) (hl:Lg l) (hout:¬(lay l k v).length≤6) {s sv:Int} {r:PL} (hs:l.drop 3=(s,sv)::r) (hks:¬k<s) (hL:L.length≤1000000) (hF:F.length≤1000000) (hj:∀j∈F,j<L.length):ATriple Tryz.prog gv R0 183 [.ref (0,0) 0,i64V a,u32V k,i64V v] [.abs (trD L F root high n)] (.tup [i64V (addP L.length F),.bool true]) [.abs (trD (addL (L.set a (l.take 3)) F (lay (l.drop 3) k v)) F.dropLast root high n)] (none):=by
 have lL:=rowL_len L
 have hal:=(List.getElem?_eq_some_iff.1 ha).1
 have ga:lget (rowL L) (0+(a:Int).toNat)=some (bc (B l)):=by rw[Int.toNat_natCast,Nat.zero_add];exact rowL_get ha
 have ba:(0:Int)≤a∧(a:Int)<L.length:=⟨by omega,by omega⟩
 have c:=put_full l hl k v hout
 obtain⟨h6,hno⟩:=six_of hl.len hout
 have c2:=split_ok l hl
 rw[h6,show hf 6=3 from rfl] at c2
 have hk0:(B (l.drop 3)).k0=s:=by rw[hs];exact B_k0 (by rw[←hs];simp;omega)
 have c3:=put_ok (l.drop 3) (hl.drop 3) k v (by rw[lay_len];split<;>simp<;>omega)
 have e1:lset (rowL L) (0+(a:Int).toNat) (lput (bc (B l)) 0 (bc (B (l.take 3))))=rowL (L.set a (l.take 3)):=by rw[Nat.zero_add,Int.toNat_natCast];exact rowL_set L a _
 have c4:=add_ok (L.set a (l.take 3)) F root high n (lay (l.drop 3) k v) (by simpa using hL) hF (by simpa using hj)
 rw[List.length_set] at c4
 generalize hL2:addL (L.set a (l.take 3)) F (lay (l.drop 3) k v)=L2 at c4
 generalize hF2:F.dropLast=F2 at c4
 generalize hP:addP L.length F=p at c4
 refine ATriple.of_bodyW (C:=cxT) Tryz.func183 rfl (by kernel_rfl) (mixedOf _) rfl (by simp[okA,okC,okN]) (by simp[okOb,okC,okN]) (by simp[okG,okA,okC,okN]) (by simp[okOb,okC,okN]) (fun o ho=>by cases ho) 2 [.opn (0,0) [75,76]] fun E hE=>?_
 repeat' (conv=>whnf);first
  | (refine bcase_of (fun hr=>?_) (fun hr=>?_)<;>(try rw[hk0] at hr)<;>(try simp at hr)<;>try(exfalso;omega))
  | (apply And.intro;· first|exact nd1|exact ba|exact⟨rfl,rfl⟩|exact⟨shut_tr _ _ _ F root high n e1 rfl (by simp) rfl,rfl,rfl⟩)
  | (apply Exists.intro;apply And.intro;· first|exact rfl|exact c|exact c2|exact c3|exact ga)
  | (apply Exists.intro;apply Exists.intro;apply Exists.intro;apply And.intro;· first|(refine ATriple.callC (c4) ?_ ?_<;>(intro d;rfl)))
  | fail
 all_goals (conv=>whnf)
 refine⟨[.shut (0,0) (trD L2 F2 root high n)],?_⟩
 conv=>whnf
 refine⟨shut_tr _ _ L2 F2 root high n rfl rfl rfl rfl,?_⟩
 conv=>whnf
 exact⟨rfl,rfl⟩
end Go.Proofs.YtbppemcdphgknaaGreatDoor.T
namespace Go.Proofs.YtbppemcdphgknaaGreatDoor.T
open Go Go.Vm
theorem lget_lset_ne {α:Type} {l:List α} {i j:Nat} (x:α) (h:i≠j):lget (lset l i x) j=lget l j:=by
 rw[lget_eq,lget_eq,lset_eq,List.getElem?_set_ne h]
theorem lget_lset {α:Type} {l:List α} {i:Nat} (x:α) (h:i<l.length):lget (lset l i x) i=some x:=by
 rw[lget_eq,lset_eq,List.getElem?_set_self h]
theorem has_mem:∀{l:PL},l.Pairwise (fun a b=>a.1<b.1)→∀{x:Int×Int},x∈l→has l x.1=true
 | [],_,_,h=>by cases h
 | a::r,hs,x,h=>by
  rw[List.pairwise_cons] at hs
  rcases List.mem_cons.1 h with rfl|h
  ·simp[has]
  ·have:=hs.1 x h
   simp only[has,if_pos this]
   exact has_mem hs.2 h
theorem has_of_get {l:PL} (hl:Lg l) {i:Nat} {x:Int×Int} (h:l[i]?=some x):has l x.1=true:=has_mem hl.srt (List.mem_of_getElem? h)
theorem even_join (L:List PL) (F:List Nat) (root high n:Int) (a i p q:Nat) {m l1 l2:PL} {x y:Int} (ha:L[a]?=some m) (hm:Lg m) (hx:m[i]?=some (x,(p:Int))) (hy:m[i+1]?=some (y,(q:Int))) (hp:L[p]?=some l1) (hq:L[q]?=some l2) (h1:Lg l1) (h2:Lg l2) (hap:p≠a) (haq:q≠a) (hpq:p≠q) (haft:aft l1 l2=true) (hF:F.length≤1000000) (hsum:l1.length+l2.length≤6):ATriple Tryz.prog gv R0 182 [.ref (0,0) 0,i64V a,i64V i] [.abs (trD L F root high n)] (.tup []) [.abs (trD (((L.set p (l1++l2)).set q ([])).set a (out m y)) (F++[q]) root high n)] (none):=by
 have lL:=rowL_len L
 have hal:=(List.getElem?_eq_some_iff.1 ha).1
 have hpl:=(List.getElem?_eq_some_iff.1 hp).1
 have hql:=(List.getElem?_eq_some_iff.1 hq).1
 have hil:=(List.getElem?_eq_some_iff.1 hy).1
 have hml:=hm.len
 have hw:IntKind.i64.wrap ((i:Int)+1)=((i+1:Nat):Int):=wrap64 (by omega) (by omega)
 have ga:lget (rowL L) (0+(a:Int).toNat)=some (bc (B m)):=by rw[Int.toNat_natCast,Nat.zero_add];exact rowL_get ha
 have gp:lget (rowL L) (0+(p:Int).toNat)=some (bc (B l1)):=by rw[Int.toNat_natCast,Nat.zero_add];exact rowL_get hp
 have gq:lget (rowL L) (0+(q:Int).toNat)=some (bc (B l2)):=by rw[Int.toNat_natCast,Nat.zero_add];exact rowL_get hq
 have gx:lget (bc (B m)) (0+7+(i:Int).toNat*1)=some (i64V p):=by rw[Int.toNat_natCast,Nat.mul_one,Nat.zero_add];exact bc_val hml hx
 have gy:lget (bc (B m)) (0+7+((i+1:Nat):Int).toNat*1)=some (i64V q):=by rw[Int.toNat_natCast,Nat.mul_one,Nat.zero_add];exact bc_val hml hy
 have gk:lget (bc (B m)) (0+1+((i+1:Nat):Int).toNat*1)=some (u32V y):=by rw[Int.toNat_natCast,Nat.mul_one,Nat.zero_add];exact bc_key hml hy
 have hhas:=has_of_get hm hy
 have c1:=drop_ok m hm y hhas
 have c2:=join_ok l1 l2 h1 h2 haft hsum
 have lF:=rowF_len F
 have hone:allOne (([[i64V q]].drop 0).take 1) 1:=allOne_of rfl
 have hra:0+F.length≤(rowF F).length∧(false=true→0+F.length=(rowF F).length)∧(F.length+(([[i64V q]].drop 0).take 1).length)*8≤roomBound∧F.length+(([[i64V q]].drop 0).take 1).length≤roomBound:=⟨by omega,fun h=>(by cases h),by show(F.length+1)*8≤_;unfold roomBound;omega,by show F.length+1≤_;unfold roomBound;omega⟩
 have eF:((rowF F).drop 0).take F.length++([[i64V q]].drop 0).take 1=rowF (F++[q]):=by rw[rowF_app,List.drop_zero,List.take_of_length_le (by omega)];rfl
 have e1:lset (rowL L) (0+(p:Int).toNat) (lput (bc (B l1)) 0 (bc (B (l1++l2))))=rowL (L.set p (l1++l2)):=by rw[Nat.zero_add,Int.toNat_natCast];exact rowL_set L p _
 have gq1:lget (lset (rowL L) (0+(p:Int).toNat) (lput (bc (B l1)) 0 (bc (B (l1++l2))))) (0+(q:Int).toNat)=some (bc (B l2)):=by rw[lget_lset_ne _ (by omega)];exact gq
 have e2:lset (lset (rowL L) (0+(p:Int).toNat) (lput (bc (B l1)) 0 (bc (B (l1++l2))))) (0+(q:Int).toNat) (lput (bc (B l2)) 0 (bc (B ([]))))=rowL ((L.set p (l1++l2)).set q ([])):=by rw[e1,Nat.zero_add,Int.toNat_natCast];exact rowL_set _ q _
 have ga2:lget (lset (lset (rowL L) (0+(p:Int).toNat) (lput (bc (B l1)) 0 (bc (B (l1++l2))))) (0+(q:Int).toNat) (lput (bc (B l2)) 0 (bc (B ([]))))) (0+(a:Int).toNat)=some (bc (B m)):=by rw[lget_lset_ne _ (by omega),lget_lset_ne _ (by omega)];exact ga
 have gq2:lget (lset (lset (rowL L) (0+(p:Int).toNat) (lput (bc (B l1)) 0 (bc (B (l1++l2))))) (0+(q:Int).toNat) (lput (bc (B l2)) 0 (bc (B ([]))))) (0+(q:Int).toNat)=some (bc (B ([]))):=lget_lset _ (by rw[lset_eq,List.length_set];omega)
 have e3:lset (lset (lset (rowL L) (0+(p:Int).toNat) (lput (bc (B l1)) 0 (bc (B (l1++l2))))) (0+(q:Int).toNat) (lput (bc (B l2)) 0 (bc (B ([]))))) (0+(a:Int).toNat) (lput (bc (B m)) 0 (bc (B (out m y))))=rowL (((L.set p (l1++l2)).set q ([])).set a (out m y)):=by rw[e2,Nat.zero_add,Int.toNat_natCast];exact rowL_set _ a _
 refine ATriple.of_bodyW (C:=cxT) Tryz.func182 rfl (by kernel_rfl) (mixedOf _) rfl (by simp[okA,okC,okN]) (by simp[okOb,okC,okN]) (by simp[okG,okA,okC,okN]) (by simp[okOb,okC,okN]) (fun o ho=>by cases ho) 2 [.opn (0,0) [141,142]] fun E hE=>?_
 repeat' (conv=>whnf);first
  | (refine bcase_of (fun hr=>?_) (fun hr=>?_)<;>(try simp at hr)<;>try(exfalso;omega))
  | (apply And.intro;· first|exact nd9|exact hone|exact hra)
  | (apply Exists.intro;apply And.intro;· first|exact rfl|exact c1|exact c2|exact gx|exact gy|exact gk|exact gp|exact gq|exact ga|exact gq1|exact ga2|exact gq2)
  | rw[hw]
  | fail
 all_goals (conv=>whnf)
 refine⟨[.shut (0,0) (trD (((L.set p (l1++l2)).set q ([])).set a (out m y)) (F++[q]) root high n)],?_⟩
 conv=>whnf
 refine⟨shut_tr _ _ _ _ root high n e3 eF (by simp) (by simp),?_⟩
 conv=>whnf
 exact⟨rfl,rfl⟩
theorem even_two (L:List PL) (F:List Nat) (root high n:Int) (a i p q:Nat) {m l1 l2:PL} {x y:Int} (ha:L[a]?=some m) (hm:Lg m) (hx:m[i]?=some (x,(p:Int))) (hy:m[i+1]?=some (y,(q:Int))) (hp:L[p]?=some l1) (hq:L[q]?=some l2) (h1:Lg l1) (h2:Lg l2) (hap:p≠a) (haq:q≠a) (hpq:p≠q) (haft:aft l1 l2=true) (hF:F.length≤1000000) (hsum:¬l1.length+l2.length≤6) {s sv:Int} {r:PL} (hs:(l1++l2).drop (hf (l1.length+l2.length))=(s,sv)::r) (hrl:r.length≤5):ATriple Tryz.prog gv R0 182 [.ref (0,0) 0,i64V a,i64V i] [.abs (trD L F root high n)] (.tup []) [.abs (trD (((L.set p ((l1++l2).take (hf (l1.length+l2.length)))).set q ((l1++l2).drop (hf (l1.length+l2.length)))).set a (lay (out m y) s q)) F root high n)] (none):=by
 have lL:=rowL_len L
 have hal:=(List.getElem?_eq_some_iff.1 ha).1
 have hpl:=(List.getElem?_eq_some_iff.1 hp).1
 have hql:=(List.getElem?_eq_some_iff.1 hq).1
 have hil:=(List.getElem?_eq_some_iff.1 hy).1
 have hml:=hm.len
 have hw:IntKind.i64.wrap ((i:Int)+1)=((i+1:Nat):Int):=wrap64 (by omega) (by omega)
 have ga:lget (rowL L) (0+(a:Int).toNat)=some (bc (B m)):=by rw[Int.toNat_natCast,Nat.zero_add];exact rowL_get ha
 have gp:lget (rowL L) (0+(p:Int).toNat)=some (bc (B l1)):=by rw[Int.toNat_natCast,Nat.zero_add];exact rowL_get hp
 have gq:lget (rowL L) (0+(q:Int).toNat)=some (bc (B l2)):=by rw[Int.toNat_natCast,Nat.zero_add];exact rowL_get hq
 have gx:lget (bc (B m)) (0+7+(i:Int).toNat*1)=some (i64V p):=by rw[Int.toNat_natCast,Nat.mul_one,Nat.zero_add];exact bc_val hml hx
 have gy:lget (bc (B m)) (0+7+((i+1:Nat):Int).toNat*1)=some (i64V q):=by rw[Int.toNat_natCast,Nat.mul_one,Nat.zero_add];exact bc_val hml hy
 have gk:lget (bc (B m)) (0+1+((i+1:Nat):Int).toNat*1)=some (u32V y):=by rw[Int.toNat_natCast,Nat.mul_one,Nat.zero_add];exact bc_key hml hy
 have hhas:=has_of_get hm hy
 have c1:=drop_ok m hm y hhas
 have c2:=join_no l1 l2 h1 h2 (fun h=>hsum h.2)
 have c3:=even_ok l1 l2 h1 h2 haft
 generalize (l1++l2).take (hf (l1.length+l2.length))=j1 at c3 ⊢
 generalize (l1++l2).drop (hf (l1.length+l2.length))=j2 at c3 hs ⊢
 have hol:(out m y).length+1≤m.length:=by
  have:(out m y).length<m.length:=by
   unfold out
   exact List.length_filter_lt_length_iff_exists.2 ⟨_,List.mem_of_getElem? hy,by simp⟩
  omega
 have c4:=put_ok (out m y) (hm.out y) s q (by rw[lay_len];split<;>omega)
 have hk0:(B j2).k0=s:=by rw[hs];exact B_k0 (by simp;omega)
 subst hk0
 have e1:lset (rowL L) (0+(p:Int).toNat) (lput (bc (B l1)) 0 (bc (B (j1))))=rowL (L.set p (j1)):=by rw[Nat.zero_add,Int.toNat_natCast];exact rowL_set L p _
 have gq1:lget (lset (rowL L) (0+(p:Int).toNat) (lput (bc (B l1)) 0 (bc (B (j1))))) (0+(q:Int).toNat)=some (bc (B l2)):=by rw[lget_lset_ne _ (by omega)];exact gq
 have e2:lset (lset (rowL L) (0+(p:Int).toNat) (lput (bc (B l1)) 0 (bc (B (j1))))) (0+(q:Int).toNat) (lput (bc (B l2)) 0 (bc (B (j2))))=rowL ((L.set p (j1)).set q (j2)):=by rw[e1,Nat.zero_add,Int.toNat_natCast];exact rowL_set _ q _
 have ga2:lget (lset (lset (rowL L) (0+(p:Int).toNat) (lput (bc (B l1)) 0 (bc (B (j1))))) (0+(q:Int).toNat) (lput (bc (B l2)) 0 (bc (B (j2))))) (0+(a:Int).toNat)=some (bc (B m)):=by rw[lget_lset_ne _ (by omega),lget_lset_ne _ (by omega)];exact ga
 have gq2:lget (lset (lset (rowL L) (0+(p:Int).toNat) (lput (bc (B l1)) 0 (bc (B (j1))))) (0+(q:Int).toNat) (lput (bc (B l2)) 0 (bc (B (j2))))) (0+(q:Int).toNat)=some (bc (B (j2))):=lget_lset _ (by rw[lset_eq,List.length_set];omega)
 have e3:lset (lset (lset (rowL L) (0+(p:Int).toNat) (lput (bc (B l1)) 0 (bc (B (j1))))) (0+(q:Int).toNat) (lput (bc (B l2)) 0 (bc (B (j2))))) (0+(a:Int).toNat) (lput (bc (B m)) 0 (bc (B (lay (out m y) (B j2).k0 q))))=rowL (((L.set p (j1)).set q (j2)).set a (lay (out m y) (B j2).k0 q)):=by rw[e2,Nat.zero_add,Int.toNat_natCast];exact rowL_set _ a _
 refine ATriple.of_bodyW (C:=cxT) Tryz.func182 rfl (by kernel_rfl) (mixedOf _) rfl (by simp[okA,okC,okN]) (by simp[okOb,okC,okN]) (by simp[okG,okA,okC,okN]) (by simp[okOb,okC,okN]) (fun o ho=>by cases ho) 2 [.opn (0,0) [141,142]] fun E hE=>?_
 repeat' (conv=>whnf);first
  | (refine bcase_of (fun hr=>?_) (fun hr=>?_)<;>(try simp at hr)<;>try(exfalso;omega))
  | (apply And.intro;· first|exact nd9)
  | (apply Exists.intro;apply And.intro;· first|exact rfl|exact c1|exact c2|exact c3|exact c4|exact gx|exact gy|exact gk|exact gp|exact gq|exact ga|exact gq1|exact ga2|exact gq2)
  | rw[hw]
  | fail
 all_goals (conv=>whnf)
 refine⟨[.shut (0,0) (trD (((L.set p (j1)).set q (j2)).set a (lay (out m y) (B j2).k0 q)) F root high n)],?_⟩
 conv=>whnf
 refine⟨shut_tr _ _ _ _ root high n e3 rfl (by simp) rfl,?_⟩
 conv=>whnf
 exact⟨rfl,rfl⟩
end Go.Proofs.YtbppemcdphgknaaGreatDoor.T
namespace Go.Proofs.YtbppemcdphgknaaGreatDoor.T
open Go Go.Vm
theorem B_key0 {x:Int×Int} {r:PL} (h:(x::r).length≤6) (y:Int):lput (bc (B (x::r))) 1 [u32V y]=bc (B ((y,x.2)::r)):=by
 rcases len_cases h with h|⟨a,h⟩|⟨a,b,h⟩|⟨a,b,c,h⟩|⟨a,b,c,d,h⟩|⟨a,b,c,d,e,h⟩|⟨a,b,c,d,e,f,h⟩
 all_goals first|(cases h;done)|(cases h;rfl)
theorem tput_0t (L L2:List PL) (F F2:List Nat) (root high n:Int) (a nx:Nat) (k v:Int) (cS:ATriple Tryz.prog gv R0 183 [.ref (0,0) 0,i64V a,u32V k,i64V v] [.abs (trD L F root high n)] (.tup [i64V nx,.bool true]) [.abs (trD L2 F2 root high n)] none):ATriple Tryz.prog gv R0 163 [.ref (0,0) 0,i64V a,i64V 0,u32V k,i64V v] [.abs (trD L F root high n)] (.tup [i64V nx,.bool true]) [.abs (trD L2 F2 root high n)] (none):=by
 refine ATriple.of_bodyW (C:=cxT) Tryz.func163 rfl (by kernel_rfl) (mixedOf _) rfl (by simp[okA,okC,okN]) (by simp[okOb,okC,okN]) (by simp[okG,okA,okC,okN]) (by simp[okOb,okC,okN]) (fun o ho=>by cases ho) 0 [] fun E hE=>?_
 all_goals exact kb24
theorem tput_0f (L L2:List PL) (F F2:List Nat) (root high n:Int) (a nx:Nat) (k v:Int) (cS:ATriple Tryz.prog gv R0 183 [.ref (0,0) 0,i64V a,u32V k,i64V v] [.abs (trD L F root high n)] (.tup [i64V nx,.bool false]) [.abs (trD L2 F2 root high n)] none):ATriple Tryz.prog gv R0 163 [.ref (0,0) 0,i64V a,i64V 0,u32V k,i64V v] [.abs (trD L F root high n)] (.tup [i64V nx,.bool false]) [.abs (trD L2 F2 root high n)] (none):=by
 refine ATriple.of_bodyW (C:=cxT) Tryz.func163 rfl (by kernel_rfl) (mixedOf _) rfl (by simp[okA,okC,okN]) (by simp[okOb,okC,okN]) (by simp[okG,okA,okC,okN]) (by simp[okOb,okC,okN]) (fun o ho=>by cases ho) 0 [] fun E hE=>?_
 all_goals exact kb24
theorem tput_n0 (L L2:List PL) (F F2:List Nat) (root high n:Int) (a h c nx:Nat) (k v:Int) {x0 v0 x:Int} {mr m1:PL} (hh:h≤1000000) (ha:L[a]?=some ((x0,v0)::mr)) (hm:((x0,v0)::mr).length≤6) (h1:m1=((if k<x0 then k else x0),v0)::mr) (hl1:Lg m1) (hw:m1[wayI m1 k]?=some (x,(c:Int))) (cR:ATriple Tryz.prog gv R0 163 [.ref (0,0) 0,i64V c,i64V h,u32V k,i64V v] [.abs (trD (L.set a m1) F root high n)] (.tup [i64V nx,.bool false]) [.abs (trD L2 F2 root high n)] none):ATriple Tryz.prog gv R0 163 [.ref (0,0) 0,i64V a,i64V (h+1:Nat),u32V k,i64V v] [.abs (trD L F root high n)] (.tup [i64V 0,.bool false]) [.abs (trD L2 F2 root high n)] (none):=by
 have lL:=rowL_len L
 have hal:=(List.getElem?_eq_some_iff.1 ha).1
 have ba:(0:Int)≤a∧(a:Int)<L.length:=⟨by omega,by omega⟩
 have ga:lget (rowL L) (0+(a:Int).toNat)=some (bc (B ((x0,v0)::mr))):=by rw[Int.toNat_natCast,Nat.zero_add];exact rowL_get ha
 have hk0:(B ((x0,v0)::mr)).k0=x0:=B_k0 hm
 have gk:lget (bc (B ((x0,v0)::mr))) (0+1+(0:Int).toNat*1)=some (u32V x0):=by show some (u32V (B ((x0,v0)::mr)).k0)=_;rw[hk0]
 have e0:=B_key0 hm (if k<x0 then k else x0)
 rw[←h1] at e0
 have e1:lset (rowL L) (0+(a:Int).toNat) (lput (bc (B ((x0,v0)::mr))) (0+1+(0:Int).toNat*1) [u32V (if k<(B ((x0,v0)::mr)).k0 then k else(B ((x0,v0)::mr)).k0)])=rowL (L.set a m1):=by
  rw[hk0,Nat.zero_add,Int.toNat_natCast,←rowL_set,←e0];rfl
 have ga1:lget (lset (rowL L) (0+(a:Int).toNat) (lput (bc (B ((x0,v0)::mr))) (0+1+(0:Int).toNat*1) [u32V (if k<(B ((x0,v0)::mr)).k0 then k else(B ((x0,v0)::mr)).k0)])) (0+(a:Int).toNat)=some (bc (B m1)):=by
  rw[e1,Int.toNat_natCast,Nat.zero_add];exact rowL_get (List.getElem?_set_self hal)
 have cw:=way_ok m1 hl1 k
 have hml:=hl1.len
 have hwl:=(List.getElem?_eq_some_iff.1 hw).1
 have gv':lget (bc (B m1)) (0+7+(wayI m1 k:Int).toNat*1)=some (i64V c):=by rw[Int.toNat_natCast,Nat.mul_one,Nat.zero_add];exact bc_val hml hw
 generalize wayI m1 k=wi at cw gv' hw hwl
 have hd:IntKind.i64.wrap (((h+1:Nat):Int)-1)=(h:Int):=by rw[wrap64 (by omega) (by omega)];omega
 refine ATriple.of_bodyW (C:=cxT) Tryz.func163 rfl (by kernel_rfl) (mixedOf _) rfl (by simp[okA,okC,okN]) (by simp[okOb,okC,okN]) (by simp[okG,okA,okC,okN]) (by simp[okOb,okC,okN]) (fun o ho=>by cases ho) 2 [.opn (0,0) [82,83]] fun E hE=>?_
 repeat' (conv=>whnf);first
  | (refine bcase_of (fun hr=>?_) (fun hr=>?_)<;>(try simp at hr)<;>try(exfalso;omega))
  | (apply And.intro;· first|exact nd1|exact ba|exact⟨by omega,by omega⟩|exact⟨rfl,rfl⟩|exact⟨shut_tr _ _ (L.set a m1) F root high n e1 rfl (by simp) rfl,rfl,rfl⟩|exact⟨shut_tr _ _ L2 F2 root high n rfl rfl rfl rfl,rfl,rfl⟩)
  | (apply Exists.intro;apply And.intro;· first|exact rfl|exact cw|exact ga|exact gk|exact ga1|exact gv')
  | rw[hd]
  | (apply Exists.intro;apply Exists.intro;apply Exists.intro;apply And.intro;· first|(refine ATriple.callC (cR) ?_ ?_<;>(intro d;rfl)))
  | fail
 all_goals (conv=>whnf)
 refine⟨[.shut (0,0) (trD L2 F2 root high n)],?_⟩
 conv=>whnf
 refine⟨shut_tr _ _ L2 F2 root high n rfl rfl rfl rfl,?_⟩
 conv=>whnf
 exact⟨rfl,rfl⟩
theorem tput_n1t (L L2:List PL) (F F2:List Nat) (root high n:Int) (a h c nx:Nat) (k v:Int) {x0 v0 x:Int} {mr m1:PL} (hh:h≤1000000) (ha:L[a]?=some ((x0,v0)::mr)) (hm:((x0,v0)::mr).length≤6) (h1:m1=((if k<x0 then k else x0),v0)::mr) (hl1:Lg m1) (hw:m1[wayI m1 k]?=some (x,(c:Int))) (L3:List PL) (F3:List Nat) (nx2:Nat) {s sv:Int} {r:PL} (hn:L2[nx]?=some ((s,sv)::r)) (hr6:r.length≤5) (cR:ATriple Tryz.prog gv R0 163 [.ref (0,0) 0,i64V c,i64V h,u32V k,i64V v] [.abs (trD (L.set a m1) F root high n)] (.tup [i64V nx,.bool true]) [.abs (trD L2 F2 root high n)] none) (cS:ATriple Tryz.prog gv R0 183 [.ref (0,0) 0,i64V a,u32V s,i64V nx] [.abs (trD L2 F2 root high n)] (.tup [i64V nx2,.bool true]) [.abs (trD L3 F3 root high n)] none):ATriple Tryz.prog gv R0 163 [.ref (0,0) 0,i64V a,i64V (h+1:Nat),u32V k,i64V v] [.abs (trD L F root high n)] (.tup [i64V nx2,.bool true]) [.abs (trD L3 F3 root high n)] (none):=by
 have lL:=rowL_len L
 have hal:=(List.getElem?_eq_some_iff.1 ha).1
 have ba:(0:Int)≤a∧(a:Int)<L.length:=⟨by omega,by omega⟩
 have ga:lget (rowL L) (0+(a:Int).toNat)=some (bc (B ((x0,v0)::mr))):=by rw[Int.toNat_natCast,Nat.zero_add];exact rowL_get ha
 have hk0:(B ((x0,v0)::mr)).k0=x0:=B_k0 hm
 have gk:lget (bc (B ((x0,v0)::mr))) (0+1+(0:Int).toNat*1)=some (u32V x0):=by show some (u32V (B ((x0,v0)::mr)).k0)=_;rw[hk0]
 have e0:=B_key0 hm (if k<x0 then k else x0)
 rw[←h1] at e0
 have e1:lset (rowL L) (0+(a:Int).toNat) (lput (bc (B ((x0,v0)::mr))) (0+1+(0:Int).toNat*1) [u32V (if k<(B ((x0,v0)::mr)).k0 then k else(B ((x0,v0)::mr)).k0)])=rowL (L.set a m1):=by
  rw[hk0,Nat.zero_add,Int.toNat_natCast,←rowL_set,←e0];rfl
 have ga1:lget (lset (rowL L) (0+(a:Int).toNat) (lput (bc (B ((x0,v0)::mr))) (0+1+(0:Int).toNat*1) [u32V (if k<(B ((x0,v0)::mr)).k0 then k else(B ((x0,v0)::mr)).k0)])) (0+(a:Int).toNat)=some (bc (B m1)):=by
  rw[e1,Int.toNat_natCast,Nat.zero_add];exact rowL_get (List.getElem?_set_self hal)
 have cw:=way_ok m1 hl1 k
 have hml:=hl1.len
 have hwl:=(List.getElem?_eq_some_iff.1 hw).1
 have gv':lget (bc (B m1)) (0+7+(wayI m1 k:Int).toNat*1)=some (i64V c):=by rw[Int.toNat_natCast,Nat.mul_one,Nat.zero_add];exact bc_val hml hw
 generalize wayI m1 k=wi at cw gv' hw hwl
 have hd:IntKind.i64.wrap (((h+1:Nat):Int)-1)=(h:Int):=by rw[wrap64 (by omega) (by omega)];omega
 have hnl:=(List.getElem?_eq_some_iff.1 hn).1
 have lL2:=rowL_len L2
 have gn:lget (rowL L2) (0+(nx:Int).toNat)=some (bc (B ((s,sv)::r))):=by rw[Int.toNat_natCast,Nat.zero_add];exact rowL_get hn
 have hks:(B ((s,sv)::r)).k0=s:=B_k0 (by simp;omega)
 rw[←hks] at cS
 refine ATriple.of_bodyW (C:=cxT) Tryz.func163 rfl (by kernel_rfl) (mixedOf _) rfl (by simp[okA,okC,okN]) (by simp[okOb,okC,okN]) (by simp[okG,okA,okC,okN]) (by simp[okOb,okC,okN]) (fun o ho=>by cases ho) 2 [.opn (0,0) [82,83]] fun E hE=>?_
 repeat' (conv=>whnf);first
  | (refine bcase_of (fun hr=>?_) (fun hr=>?_)<;>(try simp at hr)<;>try(exfalso;omega))
  | (apply And.intro;· first|exact nd1|exact ba|exact⟨by omega,by omega⟩|exact⟨rfl,rfl⟩|exact⟨shut_tr _ _ (L.set a m1) F root high n e1 rfl (by simp) rfl,rfl,rfl⟩|exact⟨shut_tr _ _ L2 F2 root high n rfl rfl rfl rfl,rfl,rfl⟩)
  | (apply Exists.intro;apply And.intro;· first|exact rfl|exact cw|exact ga|exact gk|exact ga1|exact gv'|exact gn)
  | rw[hd]
  | (apply Exists.intro;apply Exists.intro;apply Exists.intro;apply And.intro;· first|(refine ATriple.callC (cR) ?_ ?_<;>(intro d;rfl))|(refine ATriple.callC (cS) ?_ ?_<;>(intro d;rfl)))
  | fail
 all_goals (conv=>whnf)
 refine⟨[.shut (0,0) (trD L3 F3 root high n)],?_⟩
 conv=>whnf
 refine⟨shut_tr _ _ L3 F3 root high n rfl rfl rfl rfl,?_⟩
 conv=>whnf
 exact⟨rfl,rfl⟩
theorem tput_n1f (L L2:List PL) (F F2:List Nat) (root high n:Int) (a h c nx:Nat) (k v:Int) {x0 v0 x:Int} {mr m1:PL} (hh:h≤1000000) (ha:L[a]?=some ((x0,v0)::mr)) (hm:((x0,v0)::mr).length≤6) (h1:m1=((if k<x0 then k else x0),v0)::mr) (hl1:Lg m1) (hw:m1[wayI m1 k]?=some (x,(c:Int))) (L3:List PL) (F3:List Nat) (nx2:Nat) {s sv:Int} {r:PL} (hn:L2[nx]?=some ((s,sv)::r)) (hr6:r.length≤5) (cR:ATriple Tryz.prog gv R0 163 [.ref (0,0) 0,i64V c,i64V h,u32V k,i64V v] [.abs (trD (L.set a m1) F root high n)] (.tup [i64V nx,.bool true]) [.abs (trD L2 F2 root high n)] none) (cS:ATriple Tryz.prog gv R0 183 [.ref (0,0) 0,i64V a,u32V s,i64V nx] [.abs (trD L2 F2 root high n)] (.tup [i64V nx2,.bool false]) [.abs (trD L3 F3 root high n)] none):ATriple Tryz.prog gv R0 163 [.ref (0,0) 0,i64V a,i64V (h+1:Nat),u32V k,i64V v] [.abs (trD L F root high n)] (.tup [i64V nx2,.bool false]) [.abs (trD L3 F3 root high n)] (none):=by
 have lL:=rowL_len L
 have hal:=(List.getElem?_eq_some_iff.1 ha).1
 have ba:(0:Int)≤a∧(a:Int)<L.length:=⟨by omega,by omega⟩
 have ga:lget (rowL L) (0+(a:Int).toNat)=some (bc (B ((x0,v0)::mr))):=by rw[Int.toNat_natCast,Nat.zero_add];exact rowL_get ha
 have hk0:(B ((x0,v0)::mr)).k0=x0:=B_k0 hm
 have gk:lget (bc (B ((x0,v0)::mr))) (0+1+(0:Int).toNat*1)=some (u32V x0):=by show some (u32V (B ((x0,v0)::mr)).k0)=_;rw[hk0]
 have e0:=B_key0 hm (if k<x0 then k else x0)
 rw[←h1] at e0
 have e1:lset (rowL L) (0+(a:Int).toNat) (lput (bc (B ((x0,v0)::mr))) (0+1+(0:Int).toNat*1) [u32V (if k<(B ((x0,v0)::mr)).k0 then k else(B ((x0,v0)::mr)).k0)])=rowL (L.set a m1):=by
  rw[hk0,Nat.zero_add,Int.toNat_natCast,←rowL_set,←e0];rfl
 have ga1:lget (lset (rowL L) (0+(a:Int).toNat) (lput (bc (B ((x0,v0)::mr))) (0+1+(0:Int).toNat*1) [u32V (if k<(B ((x0,v0)::mr)).k0 then k else(B ((x0,v0)::mr)).k0)])) (0+(a:Int).toNat)=some (bc (B m1)):=by
  rw[e1,Int.toNat_natCast,Nat.zero_add];exact rowL_get (List.getElem?_set_self hal)
 have cw:=way_ok m1 hl1 k
 have hml:=hl1.len
 have hwl:=(List.getElem?_eq_some_iff.1 hw).1
 have gv':lget (bc (B m1)) (0+7+(wayI m1 k:Int).toNat*1)=some (i64V c):=by rw[Int.toNat_natCast,Nat.mul_one,Nat.zero_add];exact bc_val hml hw
 generalize wayI m1 k=wi at cw gv' hw hwl
 have hd:IntKind.i64.wrap (((h+1:Nat):Int)-1)=(h:Int):=by rw[wrap64 (by omega) (by omega)];omega
 have hnl:=(List.getElem?_eq_some_iff.1 hn).1
 have lL2:=rowL_len L2
 have gn:lget (rowL L2) (0+(nx:Int).toNat)=some (bc (B ((s,sv)::r))):=by rw[Int.toNat_natCast,Nat.zero_add];exact rowL_get hn
 have hks:(B ((s,sv)::r)).k0=s:=B_k0 (by simp;omega)
 rw[←hks] at cS
 refine ATriple.of_bodyW (C:=cxT) Tryz.func163 rfl (by kernel_rfl) (mixedOf _) rfl (by simp[okA,okC,okN]) (by simp[okOb,okC,okN]) (by simp[okG,okA,okC,okN]) (by simp[okOb,okC,okN]) (fun o ho=>by cases ho) 2 [.opn (0,0) [82,83]] fun E hE=>?_
 repeat' (conv=>whnf);first
  | (refine bcase_of (fun hr=>?_) (fun hr=>?_)<;>(try simp at hr)<;>try(exfalso;omega))
  | (apply And.intro;· first|exact nd1|exact ba|exact⟨by omega,by omega⟩|exact⟨rfl,rfl⟩|exact⟨shut_tr _ _ (L.set a m1) F root high n e1 rfl (by simp) rfl,rfl,rfl⟩|exact⟨shut_tr _ _ L2 F2 root high n rfl rfl rfl rfl,rfl,rfl⟩)
  | (apply Exists.intro;apply And.intro;· first|exact rfl|exact cw|exact ga|exact gk|exact ga1|exact gv'|exact gn)
  | rw[hd]
  | (apply Exists.intro;apply Exists.intro;apply Exists.intro;apply And.intro;· first|(refine ATriple.callC (cR) ?_ ?_<;>(intro d;rfl))|(refine ATriple.callC (cS) ?_ ?_<;>(intro d;rfl)))
  | fail
 all_goals (conv=>whnf)
 refine⟨[.shut (0,0) (trD L3 F3 root high n)],?_⟩
 conv=>whnf
 refine⟨shut_tr _ _ L3 F3 root high n rfl rfl rfl rfl,?_⟩
 conv=>whnf
 exact⟨rfl,rfl⟩
end Go.Proofs.YtbppemcdphgknaaGreatDoor.T
namespace Go.Proofs.YtbppemcdphgknaaGreatDoor.T
open Go Go.Vm
theorem Tput_y0 (L L2:List PL) (F F2:List Nat) (root h nx:Nat) (n k v g:Int) (hn:0≤n∧n≤1000000) (hh:h≤1000000) (cG:ATriple Tryz.prog gv R0 124 [.ref (0,0) 0,u32V k] [.abs (trD L F root h n)] (.tup [i64V g,.bool true]) [.abs (trD L F root h n)] none) (cP:ATriple Tryz.prog gv R0 163 [.ref (0,0) 0,i64V root,i64V h,u32V k,i64V v] [.abs (trD L F root h n)] (.tup [i64V nx,.bool false]) [.abs (trD L2 F2 root h n)] none):ATriple Tryz.prog gv R0 128 [.ref (0,0) 0,u32V k,i64V v] [.abs (trD L F root h n)] (.tup []) [.abs (trD L2 F2 root h n)] (none):=by
 have lL:=rowL_len L
 have lL2:=rowL_len L2
 have hw1:IntKind.i64.wrap (n+1)=n+1:=wrap64 (by omega) (by omega)
 have hw2:IntKind.i64.wrap ((h:Int)+1)=((h+1:Nat):Int):=wrap64 (by omega) (by omega)
 refine ATriple.of_bodyW (C:=cxT) Tryz.func128 rfl (by kernel_rfl) (mixedOf _) rfl (by simp[okA,okC,okN]) (by simp[okOb,okC,okN]) (by simp[okG,okA,okC,okN]) (by simp[okOb,okC,okN]) (fun o ho=>by cases ho) 2 [.opn (0,0) [88,89]] fun E hE=>?_
 repeat' (conv=>whnf);first
  | (refine bcase_of (fun hr=>?_) (fun hr=>?_)<;>(try simp at hr)<;>try(exfalso;omega))
  | (apply And.intro;· first|exact nd9|exact⟨shut_tr _ _ L F root h n rfl rfl rfl rfl,rfl,rfl⟩|exact⟨shut_tr _ _ L F root h (n+1) rfl rfl rfl rfl,rfl,rfl⟩)
  | (apply Exists.intro;apply And.intro;· first|exact rfl)
  | rw[hw1]
  | rw[hw2]
  | (apply Exists.intro;apply Exists.intro;apply Exists.intro;apply And.intro;· first|(refine ATriple.callC (cG) ?_ ?_<;>(intro d;rfl))|(refine ATriple.callC (cP) ?_ ?_<;>(intro d;rfl)))
  | fail
 all_goals (conv=>whnf)
 refine⟨[.shut (0,0) (trD L2 F2 root h n)],?_⟩
 conv=>whnf
 refine⟨shut_tr _ _ L2 F2 root h n rfl rfl rfl rfl,?_⟩
 conv=>whnf
 exact⟨rfl,rfl⟩
theorem Tput_n0 (L L2:List PL) (F F2:List Nat) (root h nx:Nat) (n k v g:Int) (hn:0≤n∧n≤1000000) (hh:h≤1000000) (cG:ATriple Tryz.prog gv R0 124 [.ref (0,0) 0,u32V k] [.abs (trD L F root h n)] (.tup [i64V g,.bool false]) [.abs (trD L F root h n)] none) (cP:ATriple Tryz.prog gv R0 163 [.ref (0,0) 0,i64V root,i64V h,u32V k,i64V v] [.abs (trD L F root h (n+1))] (.tup [i64V nx,.bool false]) [.abs (trD L2 F2 root h (n+1))] none):ATriple Tryz.prog gv R0 128 [.ref (0,0) 0,u32V k,i64V v] [.abs (trD L F root h n)] (.tup []) [.abs (trD L2 F2 root h (n+1))] (none):=by
 have lL:=rowL_len L
 have lL2:=rowL_len L2
 have hw1:IntKind.i64.wrap (n+1)=n+1:=wrap64 (by omega) (by omega)
 have hw2:IntKind.i64.wrap ((h:Int)+1)=((h+1:Nat):Int):=wrap64 (by omega) (by omega)
 refine ATriple.of_bodyW (C:=cxT) Tryz.func128 rfl (by kernel_rfl) (mixedOf _) rfl (by simp[okA,okC,okN]) (by simp[okOb,okC,okN]) (by simp[okG,okA,okC,okN]) (by simp[okOb,okC,okN]) (fun o ho=>by cases ho) 2 [.opn (0,0) [88,89]] fun E hE=>?_
 repeat' (conv=>whnf);first
  | (refine bcase_of (fun hr=>?_) (fun hr=>?_)<;>(try simp at hr)<;>try(exfalso;omega))
  | (apply And.intro;· first|exact nd9|exact⟨shut_tr _ _ L F root h n rfl rfl rfl rfl,rfl,rfl⟩|exact⟨shut_tr _ _ L F root h (n+1) rfl rfl rfl rfl,rfl,rfl⟩)
  | (apply Exists.intro;apply And.intro;· first|exact rfl)
  | rw[hw1]
  | rw[hw2]
  | (apply Exists.intro;apply Exists.intro;apply Exists.intro;apply And.intro;· first|(refine ATriple.callC (cG) ?_ ?_<;>(intro d;rfl))|(refine ATriple.callC (cP) ?_ ?_<;>(intro d;rfl)))
  | fail
 all_goals (conv=>whnf)
 refine⟨[.shut (0,0) (trD L2 F2 root h (n+1))],?_⟩
 conv=>whnf
 refine⟨shut_tr _ _ L2 F2 root h (n+1) rfl rfl rfl rfl,?_⟩
 conv=>whnf
 exact⟨rfl,rfl⟩
theorem Tput_y1 (L L2:List PL) (F F2:List Nat) (root h nx:Nat) (n k v g:Int) (hn:0≤n∧n≤1000000) (hh:h≤1000000) (cG:ATriple Tryz.prog gv R0 124 [.ref (0,0) 0,u32V k] [.abs (trD L F root h n)] (.tup [i64V g,.bool true]) [.abs (trD L F root h n)] none) (cP:ATriple Tryz.prog gv R0 163 [.ref (0,0) 0,i64V root,i64V h,u32V k,i64V v] [.abs (trD L F root h n)] (.tup [i64V nx,.bool true]) [.abs (trD L2 F2 root h n)] none) {r0 w0 s sv:Int} {rr r:PL} (h1:L2[root]?=some ((r0,w0)::rr)) (h16:rr.length≤5) (h2:L2[nx]?=some ((s,sv)::r)) (h26:r.length≤5) (L3:List PL) (F3:List Nat) (p:Nat) (cA:ATriple Tryz.prog gv R0 164 [.ref (0,0) 0,bV (B [(r0,(root:Int)),(s,(nx:Int))])] [.abs (trD L2 F2 root h n)] (i64V p) [.abs (trD L3 F3 root h n)] none):ATriple Tryz.prog gv R0 128 [.ref (0,0) 0,u32V k,i64V v] [.abs (trD L F root h n)] (.tup []) [.abs (trD L3 F3 p (h+1:Nat) n)] (none):=by
 have lL:=rowL_len L
 have lL2:=rowL_len L2
 have hw1:IntKind.i64.wrap (n+1)=n+1:=wrap64 (by omega) (by omega)
 have hw2:IntKind.i64.wrap ((h:Int)+1)=((h+1:Nat):Int):=wrap64 (by omega) (by omega)
 have hl1:=(List.getElem?_eq_some_iff.1 h1).1
 have hl2:=(List.getElem?_eq_some_iff.1 h2).1
 have g1:lget (rowL L2) (0+(root:Int).toNat)=some (bc (B ((r0,w0)::rr))):=by rw[Int.toNat_natCast,Nat.zero_add];exact rowL_get h1
 have g2:lget (rowL L2) (0+(nx:Int).toNat)=some (bc (B ((s,sv)::r))):=by rw[Int.toNat_natCast,Nat.zero_add];exact rowL_get h2
 have k1:(B ((r0,w0)::rr)).k0=r0:=B_k0 (by simp;omega)
 have k2:(B ((s,sv)::r)).k0=s:=B_k0 (by simp;omega)
 rw[←k1,←k2] at cA
 refine ATriple.of_bodyW (C:=cxT) Tryz.func128 rfl (by kernel_rfl) (mixedOf _) rfl (by simp[okA,okC,okN]) (by simp[okOb,okC,okN]) (by simp[okG,okA,okC,okN]) (by simp[okOb,okC,okN]) (fun o ho=>by cases ho) 2 [.opn (0,0) [88,89]] fun E hE=>?_
 repeat' (conv=>whnf);first
  | (refine bcase_of (fun hr=>?_) (fun hr=>?_)<;>(try simp at hr)<;>try(exfalso;omega))
  | (apply And.intro;· first|exact nd9|exact⟨shut_tr _ _ L F root h n rfl rfl rfl rfl,rfl,rfl⟩|exact⟨shut_tr _ _ L F root h (n+1) rfl rfl rfl rfl,rfl,rfl⟩|exact⟨shut_tr _ _ L2 F2 root h n rfl rfl rfl rfl,rfl,rfl⟩)
  | (apply Exists.intro;apply And.intro;· first|exact rfl|exact g1|exact g2)
  | rw[hw1]
  | rw[hw2]
  | (apply Exists.intro;apply Exists.intro;apply Exists.intro;apply And.intro;· first|(refine ATriple.callC (cG) ?_ ?_<;>(intro d;rfl))|(refine ATriple.callC (cP) ?_ ?_<;>(intro d;rfl))|(refine ATriple.callC (cA) ?_ ?_<;>(intro d;rfl)))
  | fail
 all_goals (conv=>whnf)
 refine VLoop.unroll hE (mixedOf _) ?_
 repeat' (conv=>whnf);first
  | (refine bcase_of (fun hr=>?_) (fun hr=>?_)<;>(try simp at hr)<;>try(exfalso;omega))
  | (apply And.intro;· first|exact nd9|exact⟨shut_tr _ _ L F root h n rfl rfl rfl rfl,rfl,rfl⟩|exact⟨shut_tr _ _ L F root h (n+1) rfl rfl rfl rfl,rfl,rfl⟩|exact⟨shut_tr _ _ L2 F2 root h n rfl rfl rfl rfl,rfl,rfl⟩)
  | (apply Exists.intro;apply And.intro;· first|exact rfl|exact g1|exact g2)
  | rw[hw1]
  | rw[hw2]
  | (apply Exists.intro;apply Exists.intro;apply Exists.intro;apply And.intro;· first|(refine ATriple.callC (cG) ?_ ?_<;>(intro d;rfl))|(refine ATriple.callC (cP) ?_ ?_<;>(intro d;rfl))|(refine ATriple.callC (cA) ?_ ?_<;>(intro d;rfl)))
  | fail
 all_goals (conv=>whnf)
 refine VLoop.unroll hE (mixedOf _) ?_
 repeat' (conv=>whnf);first
  | (refine bcase_of (fun hr=>?_) (fun hr=>?_)<;>(try simp at hr)<;>try(exfalso;omega))
  | (apply And.intro;· first|exact nd9|exact⟨shut_tr _ _ L F root h n rfl rfl rfl rfl,rfl,rfl⟩|exact⟨shut_tr _ _ L F root h (n+1) rfl rfl rfl rfl,rfl,rfl⟩|exact⟨shut_tr _ _ L2 F2 root h n rfl rfl rfl rfl,rfl,rfl⟩)
  | (apply Exists.intro;apply And.intro;· first|exact rfl|exact g1|exact g2)
  | rw[hw1]
  | rw[hw2]
  | (apply Exists.intro;apply Exists.intro;apply Exists.intro;apply And.intro;· first|(refine ATriple.callC (cG) ?_ ?_<;>(intro d;rfl))|(refine ATriple.callC (cP) ?_ ?_<;>(intro d;rfl))|(refine ATriple.callC (cA) ?_ ?_<;>(intro d;rfl)))
  | fail
 all_goals (conv=>whnf)
 refine VLoop.unroll hE (mixedOf _) ?_
 repeat' (conv=>whnf);first
  | (refine bcase_of (fun hr=>?_) (fun hr=>?_)<;>(try simp at hr)<;>try(exfalso;omega))
  | (apply And.intro;· first|exact nd9|exact⟨shut_tr _ _ L F root h n rfl rfl rfl rfl,rfl,rfl⟩|exact⟨shut_tr _ _ L F root h (n+1) rfl rfl rfl rfl,rfl,rfl⟩|exact⟨shut_tr _ _ L2 F2 root h n rfl rfl rfl rfl,rfl,rfl⟩)
  | (apply Exists.intro;apply And.intro;· first|exact rfl|exact g1|exact g2)
  | rw[hw1]
  | rw[hw2]
  | (apply Exists.intro;apply Exists.intro;apply Exists.intro;apply And.intro;· first|(refine ATriple.callC (cG) ?_ ?_<;>(intro d;rfl))|(refine ATriple.callC (cP) ?_ ?_<;>(intro d;rfl))|(refine ATriple.callC (cA) ?_ ?_<;>(intro d;rfl)))
  | fail
 all_goals (conv=>whnf)
 refine⟨[.shut (0,0) (trD L3 F3 p (h+1:Nat) n)],?_⟩
 conv=>whnf
 refine⟨shut_tr _ _ L3 F3 p (h+1:Nat) n rfl rfl rfl rfl,?_⟩
 conv=>whnf
 exact⟨rfl,rfl⟩
theorem Tput_n1 (L L2:List PL) (F F2:List Nat) (root h nx:Nat) (n k v g:Int) (hn:0≤n∧n≤1000000) (hh:h≤1000000) (cG:ATriple Tryz.prog gv R0 124 [.ref (0,0) 0,u32V k] [.abs (trD L F root h n)] (.tup [i64V g,.bool false]) [.abs (trD L F root h n)] none) (cP:ATriple Tryz.prog gv R0 163 [.ref (0,0) 0,i64V root,i64V h,u32V k,i64V v] [.abs (trD L F root h (n+1))] (.tup [i64V nx,.bool true]) [.abs (trD L2 F2 root h (n+1))] none) {r0 w0 s sv:Int} {rr r:PL} (h1:L2[root]?=some ((r0,w0)::rr)) (h16:rr.length≤5) (h2:L2[nx]?=some ((s,sv)::r)) (h26:r.length≤5) (L3:List PL) (F3:List Nat) (p:Nat) (cA:ATriple Tryz.prog gv R0 164 [.ref (0,0) 0,bV (B [(r0,(root:Int)),(s,(nx:Int))])] [.abs (trD L2 F2 root h (n+1))] (i64V p) [.abs (trD L3 F3 root h (n+1))] none):ATriple Tryz.prog gv R0 128 [.ref (0,0) 0,u32V k,i64V v] [.abs (trD L F root h n)] (.tup []) [.abs (trD L3 F3 p (h+1:Nat) (n+1))] (none):=by
 have lL:=rowL_len L
 have lL2:=rowL_len L2
 have hw1:IntKind.i64.wrap (n+1)=n+1:=wrap64 (by omega) (by omega)
 have hw2:IntKind.i64.wrap ((h:Int)+1)=((h+1:Nat):Int):=wrap64 (by omega) (by omega)
 have hl1:=(List.getElem?_eq_some_iff.1 h1).1
 have hl2:=(List.getElem?_eq_some_iff.1 h2).1
 have g1:lget (rowL L2) (0+(root:Int).toNat)=some (bc (B ((r0,w0)::rr))):=by rw[Int.toNat_natCast,Nat.zero_add];exact rowL_get h1
 have g2:lget (rowL L2) (0+(nx:Int).toNat)=some (bc (B ((s,sv)::r))):=by rw[Int.toNat_natCast,Nat.zero_add];exact rowL_get h2
 have k1:(B ((r0,w0)::rr)).k0=r0:=B_k0 (by simp;omega)
 have k2:(B ((s,sv)::r)).k0=s:=B_k0 (by simp;omega)
 rw[←k1,←k2] at cA
 refine ATriple.of_bodyW (C:=cxT) Tryz.func128 rfl (by kernel_rfl) (mixedOf _) rfl (by simp[okA,okC,okN]) (by simp[okOb,okC,okN]) (by simp[okG,okA,okC,okN]) (by simp[okOb,okC,okN]) (fun o ho=>by cases ho) 2 [.opn (0,0) [88,89]] fun E hE=>?_
 repeat' (conv=>whnf);first
  | (refine bcase_of (fun hr=>?_) (fun hr=>?_)<;>(try simp at hr)<;>try(exfalso;omega))
  | (apply And.intro;· first|exact nd9|exact⟨shut_tr _ _ L F root h n rfl rfl rfl rfl,rfl,rfl⟩|exact⟨shut_tr _ _ L F root h (n+1) rfl rfl rfl rfl,rfl,rfl⟩|exact⟨shut_tr _ _ L2 F2 root h (n+1) rfl rfl rfl rfl,rfl,rfl⟩)
  | (apply Exists.intro;apply And.intro;· first|exact rfl|exact g1|exact g2)
  | rw[hw1]
  | rw[hw2]
  | (apply Exists.intro;apply Exists.intro;apply Exists.intro;apply And.intro;· first|(refine ATriple.callC (cG) ?_ ?_<;>(intro d;rfl))|(refine ATriple.callC (cP) ?_ ?_<;>(intro d;rfl))|(refine ATriple.callC (cA) ?_ ?_<;>(intro d;rfl)))
  | fail
 all_goals (conv=>whnf)
 refine VLoop.unroll hE (mixedOf _) ?_
 repeat' (conv=>whnf);first
  | (refine bcase_of (fun hr=>?_) (fun hr=>?_)<;>(try simp at hr)<;>try(exfalso;omega))
  | (apply And.intro;· first|exact nd9|exact⟨shut_tr _ _ L F root h n rfl rfl rfl rfl,rfl,rfl⟩|exact⟨shut_tr _ _ L F root h (n+1) rfl rfl rfl rfl,rfl,rfl⟩|exact⟨shut_tr _ _ L2 F2 root h (n+1) rfl rfl rfl rfl,rfl,rfl⟩)
  | (apply Exists.intro;apply And.intro;· first|exact rfl|exact g1|exact g2)
  | rw[hw1]
  | rw[hw2]
  | (apply Exists.intro;apply Exists.intro;apply Exists.intro;apply And.intro;· first|(refine ATriple.callC (cG) ?_ ?_<;>(intro d;rfl))|(refine ATriple.callC (cP) ?_ ?_<;>(intro d;rfl))|(refine ATriple.callC (cA) ?_ ?_<;>(intro d;rfl)))
  | fail
 all_goals (conv=>whnf)
 refine VLoop.unroll hE (mixedOf _) ?_
 repeat' (conv=>whnf);first
  | (refine bcase_of (fun hr=>?_) (fun hr=>?_)<;>(try simp at hr)<;>try(exfalso;omega))
  | (apply And.intro;· first|exact nd9|exact⟨shut_tr _ _ L F root h n rfl rfl rfl rfl,rfl,rfl⟩|exact⟨shut_tr _ _ L F root h (n+1) rfl rfl rfl rfl,rfl,rfl⟩|exact⟨shut_tr _ _ L2 F2 root h (n+1) rfl rfl rfl rfl,rfl,rfl⟩)
  | (apply Exists.intro;apply And.intro;· first|exact rfl|exact g1|exact g2)
  | rw[hw1]
  | rw[hw2]
  | (apply Exists.intro;apply Exists.intro;apply Exists.intro;apply And.intro;· first|(refine ATriple.callC (cG) ?_ ?_<;>(intro d;rfl))|(refine ATriple.callC (cP) ?_ ?_<;>(intro d;rfl))|(refine ATriple.callC (cA) ?_ ?_<;>(intro d;rfl)))
  | fail
 all_goals (conv=>whnf)
 refine VLoop.unroll hE (mixedOf _) ?_
 repeat' (conv=>whnf);first
  | (refine bcase_of (fun hr=>?_) (fun hr=>?_)<;>(try simp at hr)<;>try(exfalso;omega))
  | (apply And.intro;· first|exact nd9|exact⟨shut_tr _ _ L F root h n rfl rfl rfl rfl,rfl,rfl⟩|exact⟨shut_tr _ _ L F root h (n+1) rfl rfl rfl rfl,rfl,rfl⟩|exact⟨shut_tr _ _ L2 F2 root h (n+1) rfl rfl rfl rfl,rfl,rfl⟩)
  | (apply Exists.intro;apply And.intro;· first|exact rfl|exact g1|exact g2)
  | rw[hw1]
  | rw[hw2]
  | (apply Exists.intro;apply Exists.intro;apply Exists.intro;apply And.intro;· first|(refine ATriple.callC (cG) ?_ ?_<;>(intro d;rfl))|(refine ATriple.callC (cP) ?_ ?_<;>(intro d;rfl))|(refine ATriple.callC (cA) ?_ ?_<;>(intro d;rfl)))
  | fail
 all_goals (conv=>whnf)
 refine⟨[.shut (0,0) (trD L3 F3 p (h+1:Nat) (n+1))],?_⟩
 conv=>whnf
 refine⟨shut_tr _ _ L3 F3 p (h+1:Nat) (n+1) rfl rfl rfl rfl,?_⟩
 conv=>whnf
 exact⟨rfl,rfl⟩
end Go.Proofs.YtbppemcdphgknaaGreatDoor.T
namespace Go.Proofs.YtbppemcdphgknaaGreatDoor.T
open Go Go.Vm
theorem tdrop_0 (L:List PL) (F:List Nat) (root high n:Int) (a:Nat) (k:Int) {m:PL} (ha:L[a]?=some m) (hm:Lg m) (hk:has m k=true):ATriple Tryz.prog gv R0 162 [.ref (0,0) 0,i64V a,i64V 0,u32V k] [.abs (trD L F root high n)] (.tup []) [.abs (trD (L.set a (out m k)) F root high n)] (none):=by
 have lL:=rowL_len L
 have hal:=(List.getElem?_eq_some_iff.1 ha).1
 have ba:(0:Int)≤a∧(a:Int)<L.length:=⟨by omega,by omega⟩
 have ga:lget (rowL L) (0+(a:Int).toNat)=some (bc (B m)):=by rw[Int.toNat_natCast,Nat.zero_add];exact rowL_get ha
 have c:=drop_ok m hm k hk
 have e1:lset (rowL L) (0+(a:Int).toNat) (lput (bc (B m)) 0 (bc (B (out m k))))=rowL (L.set a (out m k)):=by rw[Nat.zero_add,Int.toNat_natCast];exact rowL_set L a _
 refine ATriple.of_bodyW (C:=cxT) Tryz.func162 rfl (by kernel_rfl) (mixedOf _) rfl (by simp[okA,okC,okN]) (by simp[okOb,okC,okN]) (by simp[okG,okA,okC,okN]) (by simp[okOb,okC,okN]) (fun o ho=>by cases ho) 2 [.opn (0,0) [69,70]] fun E hE=>?_
 repeat' (conv=>whnf);first
  | (refine bcase_of (fun hr=>?_) (fun hr=>?_)<;>(try simp at hr)<;>try(exfalso;omega))
  | (apply And.intro;· first|exact nd1|exact ba|exact⟨rfl,rfl⟩)
  | (apply Exists.intro;apply And.intro;· first|exact rfl|exact c|exact ga)
  | fail
 all_goals (conv=>whnf)
 refine⟨[.shut (0,0) (trD (L.set a (out m k)) F root high n)],?_⟩
 conv=>whnf
 refine⟨shut_tr _ _ (L.set a (out m k)) F root high n e1 rfl (by simp) rfl,?_⟩
 conv=>whnf
 exact⟨rfl,rfl⟩
theorem tdrop_n0 (L L2:List PL) (F F2:List Nat) (root high n:Int) (a h c:Nat) (k:Int) {m l2:PL} {x:Int} (hh:h≤1000000) (ha:L[a]?=some m) (hm:Lg m) (hw:m[wayI m k]?=some (x,(c:Int))) (hc:L2[c]?=some l2) (hl2:l2.length≤6) (cR:ATriple Tryz.prog gv R0 162 [.ref (0,0) 0,i64V c,i64V h,u32V k] [.abs (trD L F root high n)] (.tup []) [.abs (trD L2 F2 root high n)] none) (hz:3≤l2.length):ATriple Tryz.prog gv R0 162 [.ref (0,0) 0,i64V a,i64V (h+1:Nat),u32V k] [.abs (trD L F root high n)] (.tup []) [.abs (trD L2 F2 root high n)] (none):=by
 have lL:=rowL_len L
 have hal:=(List.getElem?_eq_some_iff.1 ha).1
 have ba:(0:Int)≤a∧(a:Int)<L.length:=⟨by omega,by omega⟩
 have ga:lget (rowL L) (0+(a:Int).toNat)=some (bc (B m)):=by rw[Int.toNat_natCast,Nat.zero_add];exact rowL_get ha
 have lL2:=rowL_len L2
 have hcl:=(List.getElem?_eq_some_iff.1 hc).1
 have cw:=way_ok m hm k
 have hml:=hm.len
 have hwl:=(List.getElem?_eq_some_iff.1 hw).1
 have gv':lget (bc (B m)) (0+7+(wayI m k:Int).toNat*1)=some (i64V c):=by rw[Int.toNat_natCast,Nat.mul_one,Nat.zero_add];exact bc_val hml hw
 have gc:lget (rowL L2) (0+(c:Int).toNat)=some (bc (B l2)):=by rw[Int.toNat_natCast,Nat.zero_add];exact rowL_get hc
 have hn2:=n_B hl2
 have hnm:=n_B hml
 have hd:IntKind.i64.wrap (((h+1:Nat):Int)-1)=(h:Int):=by rw[wrap64 (by omega) (by omega)];omega
 generalize wayI m k=wi at cw gv' hw hwl
 refine ATriple.of_bodyW (C:=cxT) Tryz.func162 rfl (by kernel_rfl) (mixedOf _) rfl (by simp[okA,okC,okN]) (by simp[okOb,okC,okN]) (by simp[okG,okA,okC,okN]) (by simp[okOb,okC,okN]) (fun o ho=>by cases ho) 2 [.opn (0,0) [69,70]] fun E hE=>?_
 repeat' (conv=>whnf);first
  | (refine bcase_of (fun hr=>?_) (fun hr=>?_)<;>(try simp only[decide_eq_true_eq,decide_eq_false_iff_not] at hr)<;>try(exfalso;first|omega|(simp at hr;omega)|(simp at hr;done)))
  | (apply And.intro;· first|exact nd1|exact ba|exact⟨by omega,by omega⟩|exact⟨rfl,rfl⟩|exact⟨shut_tr _ _ L F root high n rfl rfl rfl rfl,rfl,rfl⟩)
  | (apply Exists.intro;apply And.intro;· first|exact rfl|exact cw|exact ga|exact gv'|exact gc)
  | rw[hd]
  | (apply Exists.intro;apply Exists.intro;apply Exists.intro;apply And.intro;· first|(refine ATriple.callC (cR) ?_ ?_<;>(intro d;rfl)))
  | fail
 all_goals (conv=>whnf)
 refine⟨[.shut (0,0) (trD L2 F2 root high n)],?_⟩
 conv=>whnf
 refine⟨shut_tr _ _ L2 F2 root high n rfl rfl rfl rfl,?_⟩
 conv=>whnf
 exact⟨rfl,rfl⟩
theorem tdrop_n1 (L L2:List PL) (F F2:List Nat) (root high n:Int) (a h c:Nat) (k:Int) {m l2:PL} {x:Int} (hh:h≤1000000) (ha:L[a]?=some m) (hm:Lg m) (hw:m[wayI m k]?=some (x,(c:Int))) (hc:L2[c]?=some l2) (hl2:l2.length≤6) (cR:ATriple Tryz.prog gv R0 162 [.ref (0,0) 0,i64V c,i64V h,u32V k] [.abs (trD L F root high n)] (.tup []) [.abs (trD L2 F2 root high n)] none) (hz:l2.length<3) (L3:List PL) (F3:List Nat) (j:Nat) (hj:j=min (wayI m k) (m.length-2)) (h2:2≤m.length) (cE:ATriple Tryz.prog gv R0 182 [.ref (0,0) 0,i64V a,i64V j] [.abs (trD L2 F2 root high n)] (.tup []) [.abs (trD L3 F3 root high n)] none):ATriple Tryz.prog gv R0 162 [.ref (0,0) 0,i64V a,i64V (h+1:Nat),u32V k] [.abs (trD L F root high n)] (.tup []) [.abs (trD L3 F3 root high n)] (none):=by
 have lL:=rowL_len L
 have hal:=(List.getElem?_eq_some_iff.1 ha).1
 have ba:(0:Int)≤a∧(a:Int)<L.length:=⟨by omega,by omega⟩
 have ga:lget (rowL L) (0+(a:Int).toNat)=some (bc (B m)):=by rw[Int.toNat_natCast,Nat.zero_add];exact rowL_get ha
 have lL2:=rowL_len L2
 have hcl:=(List.getElem?_eq_some_iff.1 hc).1
 have cw:=way_ok m hm k
 have hml:=hm.len
 have hwl:=(List.getElem?_eq_some_iff.1 hw).1
 have gv':lget (bc (B m)) (0+7+(wayI m k:Int).toNat*1)=some (i64V c):=by rw[Int.toNat_natCast,Nat.mul_one,Nat.zero_add];exact bc_val hml hw
 have gc:lget (rowL L2) (0+(c:Int).toNat)=some (bc (B l2)):=by rw[Int.toNat_natCast,Nat.zero_add];exact rowL_get hc
 have hn2:=n_B hl2
 have hnm:=n_B hml
 have hd:IntKind.i64.wrap (((h+1:Nat):Int)-1)=(h:Int):=by rw[wrap64 (by omega) (by omega)];omega
 generalize wayI m k=wi at cw gv' hw hwl hj
 have hj2:(if IntKind.i64.wrap ((B m).n-2)<(wi:Int) then IntKind.i64.wrap ((B m).n-2) else(wi:Int))=(j:Int):=by
  rw[hnm,wrap64 (by omega) (by omega)]
  split<;>omega
 refine ATriple.of_bodyW (C:=cxT) Tryz.func162 rfl (by kernel_rfl) (mixedOf _) rfl (by simp[okA,okC,okN]) (by simp[okOb,okC,okN]) (by simp[okG,okA,okC,okN]) (by simp[okOb,okC,okN]) (fun o ho=>by cases ho) 2 [.opn (0,0) [69,70]] fun E hE=>?_
 repeat' (conv=>whnf);first
  | (refine bcase_of (fun hr=>?_) (fun hr=>?_)<;>(try simp only[decide_eq_true_eq,decide_eq_false_iff_not] at hr)<;>try(exfalso;first|omega|(simp at hr;omega)|(simp at hr;done)))
  | (apply And.intro;· first|exact nd1|exact ba|exact⟨by omega,by omega⟩|exact⟨rfl,rfl⟩|exact⟨shut_tr _ _ L F root high n rfl rfl rfl rfl,rfl,rfl⟩|exact⟨shut_tr _ _ L2 F2 root high n rfl rfl rfl rfl,rfl,rfl⟩)
  | (apply Exists.intro;apply And.intro;· first|exact rfl|exact cw|exact ga|exact gv'|exact gc)
  | rw[hd]
  | rw[hj2]
  | (apply Exists.intro;apply Exists.intro;apply Exists.intro;apply And.intro;· first|(refine ATriple.callC (cR) ?_ ?_<;>(intro d;rfl))|(refine ATriple.callC (cE) ?_ ?_<;>(intro d;rfl)))
  | fail
 all_goals (conv=>whnf)
 refine⟨[.shut (0,0) (trD L3 F3 root high n)],?_⟩
 conv=>whnf
 refine⟨shut_tr _ _ L3 F3 root high n rfl rfl rfl rfl,?_⟩
 conv=>whnf
 exact⟨rfl,rfl⟩
end Go.Proofs.YtbppemcdphgknaaGreatDoor.T
namespace Go.Proofs.YtbppemcdphgknaaGreatDoor.T
open Go Go.Vm
def stNx (L:List PL) (F:List Nat) (root high n:Int) (a h:Nat) (k:Int) (m:PL) (i:Nat):St DV:=
 mkStX 70 2 [(0,.ref (0,0) 0),(1,i64V a),(2,i64V (h+1:Nat)),(3,u32V k),(11,.ref (12,1) 0),(14,i64V i)] [(70,.row 13 (rowL L) false),(71,.row 1 (rowF F) false),(11,.box (bc (B m)))] [some (.box (tC (71,1) (72,1) L.length F.length root high n))]
theorem tnext_0n (L:List PL) (F:List Nat) (root high n:Int) (a:Nat) (k:Int) {m:PL} (ha:L[a]?=some m) (hm:Lg m) (hk:rank m k=m.length):ATriple Tryz.prog gv R0 115 [.ref (0,0) 0,i64V a,i64V 0,u32V k] [.abs (trD L F root high n)] (.tup [u32V 0,i64V 0,.bool false]) [.abs (trD L F root high n)] (none):=by
 have lL:=rowL_len L
 have hal:=(List.getElem?_eq_some_iff.1 ha).1
 have ba:(0:Int)≤a∧(a:Int)<L.length:=⟨by omega,by omega⟩
 have ga:lget (rowL L) (0+(a:Int).toNat)=some (bc (B m)):=by rw[Int.toNat_natCast,Nat.zero_add];exact rowL_get ha
 have c:=find_ok m hm k
 have hrk:=rank_le m k
 have hml:=hm.len
 have hnm:=n_B hml
 refine ATriple.of_bodyW (C:=cxT) Tryz.func115 rfl (by kernel_rfl) (mixedOf _) rfl (by simp[okA,okC,okN]) (by simp[okOb,okC,okN]) (by simp[okG,okA,okC,okN]) (by simp[okOb,okC,okN]) (fun o ho=>by cases ho) 2 [.opn (0,0) [70,71]] fun E hE=>?_
 repeat' (conv=>whnf);first
  | (refine bcase_of (fun hr=>?_) (fun hr=>?_)<;>(try simp only[sl3] at hr)<;>try(exfalso;first|omega|(simp at hr;omega)|(simp at hr;done)))
  | (apply And.intro;· first|exact nd1|exact ba|exact⟨rfl,rfl⟩)
  | (apply Exists.intro;apply And.intro;· first|exact rfl|exact c|exact ga)
  | fail
 all_goals (conv=>whnf)
 all_goals refine⟨[.shut (0,0) (trD L F root high n)],?_⟩
 all_goals (conv=>whnf)
 all_goals refine⟨shut_tr _ _ L F root high n rfl rfl rfl rfl,?_⟩
 all_goals (conv=>whnf)
 all_goals exact⟨rfl,rfl⟩
theorem tnext_0y (L:List PL) (F:List Nat) (root high n:Int) (a:Nat) (k:Int) {m:PL} (ha:L[a]?=some m) (hm:Lg m) {q:Nat} (hk:rank m k=q) {x w:Int} (hx:m[q]?=some (x,w)):ATriple Tryz.prog gv R0 115 [.ref (0,0) 0,i64V a,i64V 0,u32V k] [.abs (trD L F root high n)] (.tup [u32V x,i64V w,.bool true]) [.abs (trD L F root high n)] (none):=by
 have lL:=rowL_len L
 have hal:=(List.getElem?_eq_some_iff.1 ha).1
 have ba:(0:Int)≤a∧(a:Int)<L.length:=⟨by omega,by omega⟩
 have ga:lget (rowL L) (0+(a:Int).toNat)=some (bc (B m)):=by rw[Int.toNat_natCast,Nat.zero_add];exact rowL_get ha
 have c:=find_ok m hm k
 have hrk:=rank_le m k
 have hml:=hm.len
 have hnm:=n_B hml
 have hql:=(List.getElem?_eq_some_iff.1 hx).1
 rw[hk] at c hrk
 have g1:lget (bc (B m)) (0+1+(q:Int).toNat*1)=some (u32V x):=by rw[Int.toNat_natCast,Nat.mul_one,Nat.zero_add];exact bc_key hml hx
 have g2:lget (bc (B m)) (0+7+(q:Int).toNat*1)=some (i64V w):=by rw[Int.toNat_natCast,Nat.mul_one,Nat.zero_add];exact bc_val hml hx
 refine ATriple.of_bodyW (C:=cxT) Tryz.func115 rfl (by kernel_rfl) (mixedOf _) rfl (by simp[okA,okC,okN]) (by simp[okOb,okC,okN]) (by simp[okG,okA,okC,okN]) (by simp[okOb,okC,okN]) (fun o ho=>by cases ho) 2 [.opn (0,0) [70,71]] fun E hE=>?_
 repeat' (conv=>whnf);first
  | (refine bcase_of (fun hr=>?_) (fun hr=>?_)<;>(try simp only[sl3] at hr)<;>try(exfalso;first|omega|(simp at hr;omega)|(simp at hr;done)))
  | (apply And.intro;· first|exact nd1|exact ba|exact⟨by omega,by omega⟩|exact⟨rfl,rfl⟩)
  | (apply Exists.intro;apply And.intro;· first|exact rfl|exact c|exact ga|exact g1|exact g2)
  | fail
 all_goals (conv=>whnf)
 all_goals refine⟨[.shut (0,0) (trD L F root high n)],?_⟩
 all_goals (conv=>whnf)
 all_goals refine⟨shut_tr _ _ L F root high n rfl rfl rfl rfl,?_⟩
 all_goals (conv=>whnf)
 all_goals exact⟨rfl,rfl⟩
theorem tnext_y (L:List PL) (F:List Nat) (root high n:Int) (a h:Nat) (k:Int) {m:PL} (ha:L[a]?=some m) (hm:Lg m) (hh:h≤1000000) (hcs:∀(i:Nat) (x v:Int),m[i]?=some (x,v)→∃c:Nat,v=(c:Int)) (hit:Nat) (hwl:wayI m k≤hit) (cN:∀(i:Nat) (x:Int) (c:Nat),wayI m k≤i→i<hit→m[i]?=some (x,(c:Int))→ATriple Tryz.prog gv R0 115 [.ref (0,0) 0,i64V c,i64V h,u32V k] [.abs (trD L F root high n)] (.tup [u32V 0,i64V 0,.bool false]) [.abs (trD L F root high n)] none) (hlt:hit<m.length) {y w x0:Int} {c0:Nat} (h0:m[hit]?=some (x0,(c0:Int))) (cY:ATriple Tryz.prog gv R0 115 [.ref (0,0) 0,i64V c0,i64V h,u32V k] [.abs (trD L F root high n)] (.tup [u32V y,i64V w,.bool true]) [.abs (trD L F root high n)] none):ATriple Tryz.prog gv R0 115 [.ref (0,0) 0,i64V a,i64V (h+1:Nat),u32V k] [.abs (trD L F root high n)] (.tup [u32V y,i64V w,.bool true]) [.abs (trD L F root high n)] (none):=by
 have lL:=rowL_len L
 have hal:=(List.getElem?_eq_some_iff.1 ha).1
 have ba:(0:Int)≤a∧(a:Int)<L.length:=⟨by omega,by omega⟩
 have ga:lget (rowL L) (0+(a:Int).toNat)=some (bc (B m)):=by rw[Int.toNat_natCast,Nat.zero_add];exact rowL_get ha
 have cw:=way_ok m hm k
 have pL:=pure_L L
 have pF:=pure_F F
 have hml:=hm.len
 have hnm:=n_B hml
 have hd:IntKind.i64.wrap (((h+1:Nat):Int)-1)=(h:Int):=by rw[wrap64 (by omega) (by omega)];omega
 refine ATriple.of_bodyW (C:=cxT) Tryz.func115 rfl (by kernel_rfl) (mixedOf _) rfl (by simp[okA,okC,okN]) (by simp[okOb,okC,okN]) (by simp[okG,okA,okC,okN]) (by simp[okOb,okC,okN]) (fun o ho=>by cases ho) 2 [.opn (0,0) [70,71]] fun E hE=>?_
 repeat' (conv=>whnf);first
  | (refine bcase_of (fun hr=>?_) (fun hr=>?_)<;>(try simp only[sl3] at hr)<;>try(exfalso;first|omega|(simp at hr;omega)|(simp at hr;done)))
  | (apply And.intro;· first|exact nd1|exact ba|exact⟨rfl,rfl⟩)
  | (apply Exists.intro;apply And.intro;· first|exact rfl|exact cw|exact ga)
  | fail
 all_goals (conv=>whnf)
 refine VLoop.norm [0,1,2,3,11,14] [70,71,11] ?_
 repeat' (conv=>whnf);first
  | (apply And.intro;· first|exact nd2|exact pL|exact pF)
  | (apply Exists.intro;apply And.intro;· first|exact rfl)
  | fail
 refine VLoop.inv (fun i:Nat=>stNx L F root high n a h k m i) (fun i=>wayI m k≤i∧i≤hit) (fun i=>hit-i) (wayI m k) ⟨Nat.le_refl _,hwl⟩ rfl ?_
 intro i ⟨hi0,hi1⟩ ih
 have hw:IntKind.i64.wrap ((i:Int)+1)=((i+1:Nat):Int):=wrap64 (by omega) (by omega)
 refine VLoop.unroll hE (mixedOf _) ?_
 by_cases hgo:i<hit
 case pos=>
  obtain⟨⟨xi,vi⟩,hxi⟩:∃x,m[i]?=some x:=⟨_,List.getElem?_eq_getElem (by omega)⟩
  obtain⟨ci,rfl⟩:=hcs i xi vi hxi
  have c1:=cN i xi ci hi0 hgo hxi
  have gi:lget (bc (B m)) (0+7+(i:Int).toNat*1)=some (i64V ci):=by rw[Int.toNat_natCast,Nat.mul_one,Nat.zero_add];exact bc_val hml hxi
  repeat' (conv=>whnf);first
   | (refine bcase_of (fun hr=>?_) (fun hr=>?_)<;>(try simp only[sl3] at hr)<;>try(exfalso;first|omega|(simp at hr;omega)|(simp at hr;done)))
   | (apply And.intro;· first|exact nd9|exact⟨shut_tr _ _ L F root high n rfl rfl rfl rfl,rfl,rfl⟩)
   | (apply Exists.intro;apply And.intro;· first|exact rfl|exact gi)
   | rw[hd]
   | rw[hw]
   | (apply Exists.intro;apply Exists.intro;apply Exists.intro;apply And.intro;· first|(refine ATriple.callC (c1) ?_ ?_<;>(intro d;rfl)))
   | fail
  all_goals (conv=>whnf)
  refine VLoop.norm [0,1,2,3,11,14] [70,71,11] ?_
  repeat' (conv=>whnf);first
   | (apply And.intro;· first|exact nd2|exact pL|exact pF)
   | (apply Exists.intro;apply And.intro;· first|exact rfl)
   | fail
  try rw[hw]
  exact ih (i+1) ⟨by omega,by omega⟩ (by omega)
 case neg=>
  obtain rfl:i=hit:=by omega
  have gi:lget (bc (B m)) (0+7+(i:Int).toNat*1)=some (i64V c0):=by rw[Int.toNat_natCast,Nat.mul_one,Nat.zero_add];exact bc_val hml h0
  repeat' (conv=>whnf);first
   | (refine bcase_of (fun hr=>?_) (fun hr=>?_)<;>(try simp only[sl3] at hr)<;>try(exfalso;first|omega|(simp at hr;omega)|(simp at hr;done)))
   | (apply And.intro;· first|exact nd9|exact⟨shut_tr _ _ L F root high n rfl rfl rfl rfl,rfl,rfl⟩)
   | (apply Exists.intro;apply And.intro;· first|exact rfl|exact gi)
   | rw[hd]
   | (apply Exists.intro;apply Exists.intro;apply Exists.intro;apply And.intro;· first|(refine ATriple.callC (cY) ?_ ?_<;>(intro d;rfl)))
   | fail
  all_goals (conv=>whnf)
  all_goals refine⟨[.shut (0,0) (trD L F root high n)],?_⟩
  all_goals (conv=>whnf)
  all_goals refine⟨shut_tr _ _ L F root high n rfl rfl rfl rfl,?_⟩
  all_goals (conv=>whnf)
  all_goals exact⟨rfl,rfl⟩
theorem tnext_n (L:List PL) (F:List Nat) (root high n:Int) (a h:Nat) (k:Int) {m:PL} (ha:L[a]?=some m) (hm:Lg m) (hh:h≤1000000) (hcs:∀(i:Nat) (x v:Int),m[i]?=some (x,v)→∃c:Nat,v=(c:Int)) (hit:Nat) (hwl:wayI m k≤hit) (cN:∀(i:Nat) (x:Int) (c:Nat),wayI m k≤i→i<hit→m[i]?=some (x,(c:Int))→ATriple Tryz.prog gv R0 115 [.ref (0,0) 0,i64V c,i64V h,u32V k] [.abs (trD L F root high n)] (.tup [u32V 0,i64V 0,.bool false]) [.abs (trD L F root high n)] none) (hlt:hit=m.length):ATriple Tryz.prog gv R0 115 [.ref (0,0) 0,i64V a,i64V (h+1:Nat),u32V k] [.abs (trD L F root high n)] (.tup [u32V 0,i64V 0,.bool false]) [.abs (trD L F root high n)] (none):=by
 have lL:=rowL_len L
 have hal:=(List.getElem?_eq_some_iff.1 ha).1
 have ba:(0:Int)≤a∧(a:Int)<L.length:=⟨by omega,by omega⟩
 have ga:lget (rowL L) (0+(a:Int).toNat)=some (bc (B m)):=by rw[Int.toNat_natCast,Nat.zero_add];exact rowL_get ha
 have cw:=way_ok m hm k
 have pL:=pure_L L
 have pF:=pure_F F
 have hml:=hm.len
 have hnm:=n_B hml
 have hd:IntKind.i64.wrap (((h+1:Nat):Int)-1)=(h:Int):=by rw[wrap64 (by omega) (by omega)];omega
 refine ATriple.of_bodyW (C:=cxT) Tryz.func115 rfl (by kernel_rfl) (mixedOf _) rfl (by simp[okA,okC,okN]) (by simp[okOb,okC,okN]) (by simp[okG,okA,okC,okN]) (by simp[okOb,okC,okN]) (fun o ho=>by cases ho) 2 [.opn (0,0) [70,71]] fun E hE=>?_
 repeat' (conv=>whnf);first
  | (refine bcase_of (fun hr=>?_) (fun hr=>?_)<;>(try simp only[sl3] at hr)<;>try(exfalso;first|omega|(simp at hr;omega)|(simp at hr;done)))
  | (apply And.intro;· first|exact nd1|exact ba|exact⟨rfl,rfl⟩)
  | (apply Exists.intro;apply And.intro;· first|exact rfl|exact cw|exact ga)
  | fail
 all_goals (conv=>whnf)
 refine VLoop.norm [0,1,2,3,11,14] [70,71,11] ?_
 repeat' (conv=>whnf);first
  | (apply And.intro;· first|exact nd2|exact pL|exact pF)
  | (apply Exists.intro;apply And.intro;· first|exact rfl)
  | fail
 refine VLoop.inv (fun i:Nat=>stNx L F root high n a h k m i) (fun i=>wayI m k≤i∧i≤hit) (fun i=>hit-i) (wayI m k) ⟨Nat.le_refl _,hwl⟩ rfl ?_
 intro i ⟨hi0,hi1⟩ ih
 have hw:IntKind.i64.wrap ((i:Int)+1)=((i+1:Nat):Int):=wrap64 (by omega) (by omega)
 refine VLoop.unroll hE (mixedOf _) ?_
 by_cases hgo:i<hit
 case pos=>
  obtain⟨⟨xi,vi⟩,hxi⟩:∃x,m[i]?=some x:=⟨_,List.getElem?_eq_getElem (by omega)⟩
  obtain⟨ci,rfl⟩:=hcs i xi vi hxi
  have c1:=cN i xi ci hi0 hgo hxi
  have gi:lget (bc (B m)) (0+7+(i:Int).toNat*1)=some (i64V ci):=by rw[Int.toNat_natCast,Nat.mul_one,Nat.zero_add];exact bc_val hml hxi
  repeat' (conv=>whnf);first
   | (refine bcase_of (fun hr=>?_) (fun hr=>?_)<;>(try simp only[sl3] at hr)<;>try(exfalso;first|omega|(simp at hr;omega)|(simp at hr;done)))
   | (apply And.intro;· first|exact nd9|exact⟨shut_tr _ _ L F root high n rfl rfl rfl rfl,rfl,rfl⟩)
   | (apply Exists.intro;apply And.intro;· first|exact rfl|exact gi)
   | rw[hd]
   | rw[hw]
   | (apply Exists.intro;apply Exists.intro;apply Exists.intro;apply And.intro;· first|(refine ATriple.callC (c1) ?_ ?_<;>(intro d;rfl)))
   | fail
  all_goals (conv=>whnf)
  refine VLoop.norm [0,1,2,3,11,14] [70,71,11] ?_
  repeat' (conv=>whnf);first
   | (apply And.intro;· first|exact nd2|exact pL|exact pF)
   | (apply Exists.intro;apply And.intro;· first|exact rfl)
   | fail
  try rw[hw]
  exact ih (i+1) ⟨by omega,by omega⟩ (by omega)
 case neg=>
  obtain rfl:i=hit:=by omega
  repeat' (conv=>whnf);first
   | (refine bcase_of (fun hr=>?_) (fun hr=>?_)<;>(try simp only[sl3] at hr)<;>try(exfalso;first|omega|(simp at hr;omega)|(simp at hr;done)))
   | (apply And.intro;· first|exact nd4)
   | (apply Exists.intro;apply And.intro;· first|exact rfl)
   | fail
  all_goals (conv=>whnf)
  all_goals refine⟨[.shut (0,0) (trD L F root high n)],?_⟩
  all_goals (conv=>whnf)
  all_goals refine⟨shut_tr _ _ L F root high n rfl rfl rfl rfl,?_⟩
  all_goals (conv=>whnf)
  all_goals exact⟨rfl,rfl⟩
end Go.Proofs.YtbppemcdphgknaaGreatDoor.T
namespace Go.Proofs.YtbppemcdphgknaaGreatDoor.T
open Go Go.Vm
theorem Tdrop_n (L:List PL) (F:List Nat) (root h:Nat) (n k g:Int) (cG:ATriple Tryz.prog gv R0 124 [.ref (0,0) 0,u32V k] [.abs (trD L F root h n)] (.tup [i64V g,.bool false]) [.abs (trD L F root h n)] none):ATriple Tryz.prog gv R0 125 [.ref (0,0) 0,u32V k] [.abs (trD L F root h n)] (.bool false) [.abs (trD L F root h n)] (none):=by
 refine ATriple.of_bodyW (C:=cxT) Tryz.func125 rfl (by kernel_rfl) (mixedOf _) rfl (by simp[okA,okC,okN]) (by simp[okOb,okC,okN]) (by simp[okG,okA,okC,okN]) (by simp[okOb,okC,okN]) (fun o ho=>by cases ho) 2 [.opn (0,0) [93,94]] fun E hE=>?_
 repeat' (conv=>whnf);first
  | (refine bcase_of (fun hr=>?_) (fun hr=>?_)<;>(try simp only[sl3] at hr)<;>try(exfalso;first|omega|(simp at hr;omega)|(simp at hr;done)))
  | (apply And.intro;· first|exact nd4|exact⟨shut_tr _ _ L F root h n rfl rfl rfl rfl,rfl,rfl⟩|exact⟨shut_tr _ _ L F root h (n-1) rfl rfl rfl rfl,rfl,rfl⟩)
  | (apply Exists.intro;apply And.intro;· first|exact rfl)
  | (apply Exists.intro;apply Exists.intro;apply Exists.intro;apply And.intro;· first|(refine ATriple.callC (cG) ?_ ?_<;>(intro d;rfl)))
  | fail
 all_goals (conv=>whnf)
 refine⟨[.shut (0,0) (trD L F root h n)],?_⟩
 conv=>whnf
 refine⟨shut_tr _ _ L F root h n rfl rfl rfl rfl,?_⟩
 conv=>whnf
 exact⟨rfl,rfl⟩
theorem Tdrop_y0 (L L2:List PL) (F F2:List Nat) (root h:Nat) (n k g:Int) (hn:0≤n∧n≤1000000) (hh:h≤1000000) (cG:ATriple Tryz.prog gv R0 124 [.ref (0,0) 0,u32V k] [.abs (trD L F root h n)] (.tup [i64V g,.bool true]) [.abs (trD L F root h n)] none) (cD:ATriple Tryz.prog gv R0 162 [.ref (0,0) 0,i64V root,i64V h,u32V k] [.abs (trD L F root h (n-1))] (.tup []) [.abs (trD L2 F2 root h (n-1))] none) {m:PL} (gm:L2[root]?=some m) (hm:m.length≤6) (hc:¬(1≤h∧m.length=1)):ATriple Tryz.prog gv R0 125 [.ref (0,0) 0,u32V k] [.abs (trD L F root h n)] (.bool true) [.abs (trD L2 F2 root h (n-1))] (none):=by
 have lL2:=rowL_len L2
 have hw1:IntKind.i64.wrap (n-1)=n-1:=wrap64 (by omega) (by omega)
 have hrl:=(List.getElem?_eq_some_iff.1 gm).1
 have hn2:=n_B hm
 have g1:lget (rowL L2) (0+(root:Int).toNat)=some (bc (B m)):=by rw[Int.toNat_natCast,Nat.zero_add];exact rowL_get gm
 refine ATriple.of_bodyW (C:=cxT) Tryz.func125 rfl (by kernel_rfl) (mixedOf _) rfl (by simp[okA,okC,okN]) (by simp[okOb,okC,okN]) (by simp[okG,okA,okC,okN]) (by simp[okOb,okC,okN]) (fun o ho=>by cases ho) 2 [.opn (0,0) [93,94]] fun E hE=>?_
 repeat' (conv=>whnf);first
  | (refine bcase_of (fun hr=>?_) (fun hr=>?_)<;>(try simp only[sl3] at hr)<;>try(exfalso;first|omega|(simp at hr;omega)|(simp at hr;done)))
  | (apply And.intro;· first|exact nd9|exact⟨shut_tr _ _ L F root h n rfl rfl rfl rfl,rfl,rfl⟩|exact⟨shut_tr _ _ L F root h (n-1) rfl rfl rfl rfl,rfl,rfl⟩)
  | (apply Exists.intro;apply And.intro;· first|exact rfl|exact g1)
  | rw[hw1]
  | (apply Exists.intro;apply Exists.intro;apply Exists.intro;apply And.intro;· first|(refine ATriple.callC (cG) ?_ ?_<;>(intro d;rfl))|(refine ATriple.callC (cD) ?_ ?_<;>(intro d;rfl)))
  | fail
 all_goals (conv=>whnf)
 all_goals refine⟨[.shut (0,0) (trD L2 F2 root h (n-1))],?_⟩
 all_goals (conv=>whnf)
 all_goals refine⟨shut_tr _ _ L2 F2 root h (n-1) rfl rfl rfl rfl,?_⟩
 all_goals (conv=>whnf)
 all_goals exact⟨rfl,rfl⟩
theorem Tdrop_y1 (L L2:List PL) (F F2:List Nat) (root h:Nat) (n k g:Int) (c:Nat) (hn:0≤n∧n≤1000000) (hh:h≤1000000) (hF:F2.length≤1000000) (cG:ATriple Tryz.prog gv R0 124 [.ref (0,0) 0,u32V k] [.abs (trD L F root (h+1:Nat) n)] (.tup [i64V g,.bool true]) [.abs (trD L F root (h+1:Nat) n)] none) (cD:ATriple Tryz.prog gv R0 162 [.ref (0,0) 0,i64V root,i64V (h+1:Nat),u32V k] [.abs (trD L F root (h+1:Nat) (n-1))] (.tup []) [.abs (trD L2 F2 root (h+1:Nat) (n-1))] none) {x:Int} (gr:L2[root]?=some [(x,(c:Int))]):ATriple Tryz.prog gv R0 125 [.ref (0,0) 0,u32V k] [.abs (trD L F root (h+1:Nat) n)] (.bool true) [.abs (trD (L2.set root []) (F2++[root]) c h (n-1))] (none):=by
 have lL2:=rowL_len L2
 have hw1:IntKind.i64.wrap (n-1)=n-1:=wrap64 (by omega) (by omega)
 have hw2:IntKind.i64.wrap (((h+1:Nat):Int)-1)=(h:Int):=by rw[wrap64 (by omega) (by omega)];omega
 have hrl:=(List.getElem?_eq_some_iff.1 gr).1
 have g1:lget (rowL L2) (0+(root:Int).toNat)=some (bc (B [(x,(c:Int))])):=by rw[Int.toNat_natCast,Nat.zero_add];exact rowL_get gr
 have hone:allOne (([[i64V root]].drop 0).take 1) 1:=allOne_of rfl
 have lF:=rowF_len F2
 have hra:0+F2.length≤(rowF F2).length∧(false=true→0+F2.length=(rowF F2).length)∧(F2.length+(([[i64V root]].drop 0).take 1).length)*8≤roomBound∧F2.length+(([[i64V root]].drop 0).take 1).length≤roomBound:=⟨by omega,fun h=>(by cases h),by show(F2.length+1)*8≤_;unfold roomBound;omega,by show F2.length+1≤_;unfold roomBound;omega⟩
 have eF:((rowF F2).drop 0).take F2.length++([[i64V root]].drop 0).take 1=rowF (F2++[root]):=by rw[rowF_app,List.drop_zero,List.take_of_length_le (by omega)];rfl
 have e1:lset (rowL L2) (0+(root:Int).toNat) (lput (bc (B [(x,(c:Int))])) 0 (bc (B [])))=rowL (L2.set root []):=by rw[Nat.zero_add,Int.toNat_natCast];exact rowL_set L2 root _
 refine ATriple.of_bodyW (C:=cxT) Tryz.func125 rfl (by kernel_rfl) (mixedOf _) rfl (by simp[okA,okC,okN]) (by simp[okOb,okC,okN]) (by simp[okG,okA,okC,okN]) (by simp[okOb,okC,okN]) (fun o ho=>by cases ho) 2 [.opn (0,0) [93,94]] fun E hE=>?_
 repeat' (conv=>whnf);first
  | (refine bcase_of (fun hr=>?_) (fun hr=>?_)<;>(try simp only[sl3] at hr)<;>try(exfalso;first|omega|(simp at hr;omega)|(simp at hr;done)))
  | (apply And.intro;· first|exact nd9|exact hone|exact hra|exact⟨shut_tr _ _ L F root (h+1:Nat) n rfl rfl rfl rfl,rfl,rfl⟩|exact⟨shut_tr _ _ L F root (h+1:Nat) (n-1) rfl rfl rfl rfl,rfl,rfl⟩)
  | (apply Exists.intro;apply And.intro;· first|exact rfl|exact g1)
  | rw[hw1]
  | rw[hw2]
  | (apply Exists.intro;apply Exists.intro;apply Exists.intro;apply And.intro;· first|(refine ATriple.callC (cG) ?_ ?_<;>(intro d;rfl))|(refine ATriple.callC (cD) ?_ ?_<;>(intro d;rfl)))
  | fail
 all_goals (conv=>whnf)
 refine⟨[.shut (0,0) (trD (L2.set root []) (F2++[root]) c h (n-1))],?_⟩
 conv=>whnf
 refine⟨shut_tr _ _ _ _ c h (n-1) e1 eF (by simp) (by simp),?_⟩
 conv=>whnf
 exact⟨rfl,rfl⟩
end Go.Proofs.YtbppemcdphgknaaGreatDoor.T
