/- A part of the proofs over the seat YtbppemcdphgknaaGreatDoor. -/
import Derived.Test.YtbppemcdphgknaaGreatDoorG1
import Derived.Test.YtbppemcdphgknaaGreatDoorT4
import Derived.Test.YtbppemcdphgknaaGreatDoorV29
set_option linter.unusedVariables false
set_option linter.unusedSimpArgs false
set_option maxRecDepth 100000
set_option maxHeartbeats 40000000
namespace Go.Proofs.YtbppemcdphgknaaGreatDoor
open Go Go.Vm
set_option maxRecDepth 100000
set_option maxHeartbeats 40000000
set_option linter.unusedSimpArgs false
set_option linter.unusedVariables false
theorem raL {es:List (List V)} {B:Nat} (h:es.length≤1000∧B≤1000):0+0≤([]:List (List V)).length∧(false=true→0+0=([]:List (List V)).length)∧(0+es.length)*B≤roomBound∧0+es.length≤roomBound:=by
 refine⟨by simp,by simp,?_,?_⟩
 ·have:(0+es.length)*B≤1000*1000:=Nat.mul_le_mul (by omega) h.2
  unfold roomBound;omega
 ·unfold roomBound;omega
theorem one_N (l:List Int):allOne (NR l) 1:=fun e he=>by obtain⟨x,_,rfl⟩:=List.mem_map.1 he;exact⟨rfl,rfl⟩
theorem one_U (l:List (List Int)):allOne (UR l) 1:=fun e he=>by obtain⟨x,_,rfl⟩:=List.mem_map.1 he;exact⟨rfl,rfl⟩
theorem one_D (l:List Dm):allOne (DR l) 2:=fun e he=>by obtain⟨x,_,rfl⟩:=List.mem_map.1 he;exact⟨rfl,rfl⟩
theorem one_Nd (l:List Int):allOne (NdR l) 4:=fun e he=>by obtain⟨x,_,rfl⟩:=List.mem_map.1 he;exact⟨rfl,rfl⟩
theorem clone137 (l:List Int) (hl:l.length≤1000):PTriple Tryz.prog gv 137 [.lst 1 (NR l)] (.lst 1 (NR l)):=by
 have n0:=pure_N l
 have l0:=lenN l
 have n9:PureEs (List.take (0+(NR l).length) (List.drop 0 (List.take 0 (List.drop 0 [])++NR l))):=by
  show PureEs (List.take (0+(NR l).length) (NR l))
  rw[Nat.zero_add,List.take_length];exact n0
 refine PTriple.of_vwp (C:=cx) Tryz.func137 rfl (by kernel_rfl) fun E hE=>?_
 refine VWp.seq (vcode_sound hE mixed ?_)
 show VWp _ _ _ _ _
 refine VWp.seq (VWp.seq (VWp.nilq (e:=3) (s:=0) (d1:=3) (d2:=4) hE rfl rfl rfl rfl rfl rfl rfl rfl rfl (.inr ⟨_,_,rfl⟩) fun b hb=>?_))
 show VWp _ _ _ _ _
 cases b with
 | true=>
  have h0:NR l=[]:=by
   rcases hb rfl with h|⟨sz,h⟩
   ·cases h
   ·exact(V.lst.inj h).2
  rw[h0]
  refine vcode_sound hE mixed ?_
  conv=>whnf
  refine⟨.nils,NilV.nils _,?_⟩
  all_goals exact kb38
 | false=>
  refine vcode_sound hE mixed ?_
  conv=>whnf
  show VWp _ _ _ _ _
  refine vcode_sound hE mixed ?_
  repeat' (conv=>whnf);first
   | (refine bcase_of (fun hr=>?_) (fun hr=>?_)<;>(try simp only[bs] at hr)<;>try(exfalso;first|omega|(simp at hr;done)))
   | (apply And.intro;· first|(show 0+(0+(NR l).length)≤(NR l).length;omega)|exact raL ⟨by omega,nb rfl⟩|exact one_N l|exact n0|exact n9|(show indep _ _=true;kernel_rfl)|exact n0|exact n2|exact n1|exact⟨by omega,by omega⟩|exact⟨by decide,by decide⟩|(show Nat.beq _ _=false;rfl)|exact nd12)
   | (apply Exists.intro;apply And.intro;· first|exact rfl)
   | fail
  refine⟨_,fun _ _ _ h=>h,?_⟩
  repeat' (conv=>whnf);first
   | (refine bcase_of (fun hr=>?_) (fun hr=>?_)<;>(try simp only[bs] at hr)<;>try(exfalso;first|omega|(simp at hr;done)))
   | (apply And.intro;· first|(show 0+(0+(NR l).length)≤(NR l).length;omega)|exact raL ⟨by omega,nb rfl⟩|exact one_N l|exact n0|exact n9|(show indep _ _=true;kernel_rfl)|exact n0|exact n2|exact n1|exact⟨by omega,by omega⟩|exact⟨by decide,by decide⟩|(show Nat.beq _ _=false;rfl)|exact nd12)
   | (apply Exists.intro;apply And.intro;· first|exact rfl)
   | fail
  all_goals (conv=>whnf)
  all_goals (show V.lst _ (List.take (0+(NR l).length) (NR l))=V.lst _ _;rw[Nat.zero_add,List.take_length])
theorem clone134 (l:List Int) (hl:l.length≤1000):PTriple Tryz.prog gv 134 [.lst 4 (NdR l)] (.lst 4 (NdR l)):=by
 have n0:=pure_Nd l
 have l0:=lenNd l
 have n9:PureEs (List.take (0+(NdR l).length) (List.drop 0 (List.take 0 (List.drop 0 [])++NdR l))):=by
  show PureEs (List.take (0+(NdR l).length) (NdR l))
  rw[Nat.zero_add,List.take_length];exact n0
 refine PTriple.of_vwp (C:=cx) Tryz.func134 rfl (by kernel_rfl) fun E hE=>?_
 refine VWp.seq (vcode_sound hE mixed ?_)
 show VWp _ _ _ _ _
 refine VWp.seq (VWp.seq (VWp.nilq (e:=130) (s:=0) (d1:=3) (d2:=4) hE rfl rfl rfl rfl rfl rfl rfl rfl rfl (.inr ⟨_,_,rfl⟩) fun b hb=>?_))
 show VWp _ _ _ _ _
 cases b with
 | true=>
  have h0:NdR l=[]:=by
   rcases hb rfl with h|⟨sz,h⟩
   ·cases h
   ·exact(V.lst.inj h).2
  rw[h0]
  refine vcode_sound hE mixed ?_
  conv=>whnf
  refine⟨.nils,NilV.nils _,?_⟩
  all_goals exact kb38
 | false=>
  refine vcode_sound hE mixed ?_
  conv=>whnf
  show VWp _ _ _ _ _
  refine vcode_sound hE mixed ?_
  repeat' (conv=>whnf);first
   | (refine bcase_of (fun hr=>?_) (fun hr=>?_)<;>(try simp only[bs] at hr)<;>try(exfalso;first|omega|(simp at hr;done)))
   | (apply And.intro;· first|(show 0+(0+(NdR l).length)≤(NdR l).length;omega)|exact raL ⟨by omega,nb rfl⟩|exact one_Nd l|exact n0|exact n9|(show indep _ _=true;kernel_rfl)|exact n0|exact n2|exact n1|exact⟨by omega,by omega⟩|exact⟨by decide,by decide⟩|(show Nat.beq _ _=false;rfl)|exact nd12)
   | (apply Exists.intro;apply And.intro;· first|exact rfl)
   | fail
  refine⟨_,fun _ _ _ h=>h,?_⟩
  repeat' (conv=>whnf);first
   | (refine bcase_of (fun hr=>?_) (fun hr=>?_)<;>(try simp only[bs] at hr)<;>try(exfalso;first|omega|(simp at hr;done)))
   | (apply And.intro;· first|(show 0+(0+(NdR l).length)≤(NdR l).length;omega)|exact raL ⟨by omega,nb rfl⟩|exact one_Nd l|exact n0|exact n9|(show indep _ _=true;kernel_rfl)|exact n0|exact n2|exact n1|exact⟨by omega,by omega⟩|exact⟨by decide,by decide⟩|(show Nat.beq _ _=false;rfl)|exact nd12)
   | (apply Exists.intro;apply And.intro;· first|exact rfl)
   | fail
  all_goals (conv=>whnf)
  all_goals (show V.lst _ (List.take (0+(NdR l).length) (NdR l))=V.lst _ _;rw[Nat.zero_add,List.take_length])
theorem clone136 (l:List (List Int)) (hl:l.length≤1000):PTriple Tryz.prog gv 136 [.lst 1 (UR l)] (.lst 1 (UR l)):=by
 have n0:=pure_U l
 have l0:=lenU l
 have n9:PureEs (List.take (0+(UR l).length) (List.drop 0 (List.take 0 (List.drop 0 [])++UR l))):=by
  show PureEs (List.take (0+(UR l).length) (UR l))
  rw[Nat.zero_add,List.take_length];exact n0
 refine PTriple.of_vwp (C:=cx) Tryz.func136 rfl (by kernel_rfl) fun E hE=>?_
 refine VWp.seq (vcode_sound hE mixed ?_)
 show VWp _ _ _ _ _
 refine VWp.seq (VWp.seq (VWp.nilq (e:=42) (s:=0) (d1:=3) (d2:=4) hE rfl rfl rfl rfl rfl rfl rfl rfl rfl (.inr ⟨_,_,rfl⟩) fun b hb=>?_))
 show VWp _ _ _ _ _
 cases b with
 | true=>
  have h0:UR l=[]:=by
   rcases hb rfl with h|⟨sz,h⟩
   ·cases h
   ·exact(V.lst.inj h).2
  rw[h0]
  refine vcode_sound hE mixed ?_
  conv=>whnf
  refine⟨.nils,NilV.nils _,?_⟩
  all_goals exact kb38
 | false=>
  refine vcode_sound hE mixed ?_
  conv=>whnf
  show VWp _ _ _ _ _
  refine vcode_sound hE mixed ?_
  repeat' (conv=>whnf);first
   | (refine bcase_of (fun hr=>?_) (fun hr=>?_)<;>(try simp only[bs] at hr)<;>try(exfalso;first|omega|(simp at hr;done)))
   | (apply And.intro;· first|(show 0+(0+(UR l).length)≤(UR l).length;omega)|exact raL ⟨by omega,nb rfl⟩|exact one_U l|exact n0|exact n9|(show indep _ _=true;kernel_rfl)|exact n0|exact n2|exact n1|exact⟨by omega,by omega⟩|exact⟨by decide,by decide⟩|(show Nat.beq _ _=false;rfl)|exact nd12)
   | (apply Exists.intro;apply And.intro;· first|exact rfl)
   | fail
  refine⟨_,fun _ _ _ h=>h,?_⟩
  repeat' (conv=>whnf);first
   | (refine bcase_of (fun hr=>?_) (fun hr=>?_)<;>(try simp only[bs] at hr)<;>try(exfalso;first|omega|(simp at hr;done)))
   | (apply And.intro;· first|(show 0+(0+(UR l).length)≤(UR l).length;omega)|exact raL ⟨by omega,nb rfl⟩|exact one_U l|exact n0|exact n9|(show indep _ _=true;kernel_rfl)|exact n0|exact n2|exact n1|exact⟨by omega,by omega⟩|exact⟨by decide,by decide⟩|(show Nat.beq _ _=false;rfl)|exact nd12)
   | (apply Exists.intro;apply And.intro;· first|exact rfl)
   | fail
  all_goals (conv=>whnf)
  all_goals (show V.lst _ (List.take (0+(UR l).length) (UR l))=V.lst _ _;rw[Nat.zero_add,List.take_length])
end Go.Proofs.YtbppemcdphgknaaGreatDoor
namespace Go.Proofs.YtbppemcdphgknaaGreatDoor
open Go Go.Vm
theorem cloneR135 (l:List Dm) (hl:l.length≤1000) (hne:l≠[]) (d:Name):XTriple Tryz.prog gv cx.R 135 [.lst 2 (DR l)] [] [] d (.rsl d 2 0 l.length) [] (some (.row 2 (DR l) false)):=by
 have n0:=pure_D l
 have l0:=lenD l
 have h1:1≤l.length:=by cases l with|nil=>exact absurd rfl hne|cons a r=>simp
 refine XTriple.of_rowVwp (C:=cx) Tryz.func135 rfl (by kernel_rfl) (fun v hv=>by rw[List.mem_singleton.1 hv];exact .lst n0) n0 (fun E hE=>?_) d
 refine VWp.seq (vcode_sound hE mixed ?_)
 show VWp _ _ _ _ _
 refine VWp.seq (VWp.seq (VWp.nilq (e:=169) (s:=0) (d1:=3) (d2:=4) hE rfl rfl rfl rfl rfl rfl rfl rfl rfl (.inr ⟨_,_,rfl⟩) fun b hb=>?_))
 show VWp _ _ _ _ _
 cases b with
 | true=>
  exfalso
  have h0:DR l=[]:=by
   rcases hb rfl with h|⟨sz,h⟩
   ·cases h
   ·exact(V.lst.inj h).2
  rw[h0] at l0
  simp at l0;omega
 | false=>
  refine vcode_sound hE mixed ?_
  conv=>whnf
  show VWp _ _ _ _ _
  refine vcode_sound hE mixed ?_
  repeat' (conv=>whnf);first
   | (refine bcase_of (fun hr=>?_) (fun hr=>?_)<;>(try simp only[bs] at hr)<;>try(exfalso;first|omega|(simp at hr;done)))
   | (apply And.intro;· first|(show 0+(0+(DR l).length)≤(DR l).length;omega)|exact raL ⟨by omega,nb rfl⟩|exact one_D l|exact n0|(show indep _ _=true;kernel_rfl)|exact n0|exact n2|exact n1|exact⟨by omega,by omega⟩|exact⟨by decide,by decide⟩|(show Nat.beq _ _=false;rfl)|exact nd12)
   | (apply Exists.intro;apply And.intro;· first|exact rfl)
   | fail
  all_goals (conv=>whnf)
  all_goals exact⟨(8,1),by decide,by rw[Nat.zero_add,l0],rfl⟩
theorem cloneR136 (l:List (List Int)) (hl:l.length≤1000) (hne:l≠[]) (d:Name):XTriple Tryz.prog gv cx.R 136 [.lst 1 (UR l)] [] [] d (.rsl d 1 0 l.length) [] (some (.row 1 (UR l) false)):=by
 have n0:=pure_U l
 have l0:=lenU l
 have h1:1≤l.length:=by cases l with|nil=>exact absurd rfl hne|cons a r=>simp
 refine XTriple.of_rowVwp (C:=cx) Tryz.func136 rfl (by kernel_rfl) (fun v hv=>by rw[List.mem_singleton.1 hv];exact .lst n0) n0 (fun E hE=>?_) d
 refine VWp.seq (vcode_sound hE mixed ?_)
 show VWp _ _ _ _ _
 refine VWp.seq (VWp.seq (VWp.nilq (e:=42) (s:=0) (d1:=3) (d2:=4) hE rfl rfl rfl rfl rfl rfl rfl rfl rfl (.inr ⟨_,_,rfl⟩) fun b hb=>?_))
 show VWp _ _ _ _ _
 cases b with
 | true=>
  exfalso
  have h0:UR l=[]:=by
   rcases hb rfl with h|⟨sz,h⟩
   ·cases h
   ·exact(V.lst.inj h).2
  rw[h0] at l0
  simp at l0;omega
 | false=>
  refine vcode_sound hE mixed ?_
  conv=>whnf
  show VWp _ _ _ _ _
  refine vcode_sound hE mixed ?_
  repeat' (conv=>whnf);first
   | (refine bcase_of (fun hr=>?_) (fun hr=>?_)<;>(try simp only[bs] at hr)<;>try(exfalso;first|omega|(simp at hr;done)))
   | (apply And.intro;· first|(show 0+(0+(UR l).length)≤(UR l).length;omega)|exact raL ⟨by omega,nb rfl⟩|exact one_U l|exact n0|(show indep _ _=true;kernel_rfl)|exact n0|exact n2|exact n1|exact⟨by omega,by omega⟩|exact⟨by decide,by decide⟩|(show Nat.beq _ _=false;rfl)|exact nd12)
   | (apply Exists.intro;apply And.intro;· first|exact rfl)
   | fail
  all_goals (conv=>whnf)
  all_goals exact⟨(8,1),by decide,by rw[Nat.zero_add,l0],rfl⟩
end Go.Proofs.YtbppemcdphgknaaGreatDoor
namespace Go.Proofs.YtbppemcdphgknaaGreatDoor
open Go Go.Vm
noncomputable def cxFc:Cx DV:=cxOf [(135,1),(136,1)]
theorem set_same {es:List (List V)} {i:Nat} {e:List V} (h:es[i]?=some e):lset es i e=es:=by
 have hlt:=(List.getElem?_eq_some_iff.1 h).1
 rw[lset_eq]
 refine List.ext_getElem? fun j=>?_
 rw[List.getElem?_set]
 by_cases hj:i=j
 ·subst hj;rw[if_pos rfl,if_pos hlt,h]
 ·rw[if_neg hj]
theorem takeD (l:List Dm):((DR l).drop 0).take l.length=DR l:=by rw[List.drop_zero,List.take_of_length_le (by rw[lenD];exact Nat.le_refl _)]
theorem takeU (l:List (List Int)):((UR l).drop 0).take l.length=UR l:=by rw[List.drop_zero,List.take_of_length_le (by rw[lenU];exact Nat.le_refl _)]
def zeroF:List V:=[.nils,i64V 0,.nils,i64V 0,i64V 0,i64V 0]
abbrev bxF (x:Cf):List V:=[.rsl (15,1) 2 0 x.c.d.length,i64V x.c.m,ndV x.ns,i64V x.keep,i64V x.cap,i64V x.life]
def stC1 (x:Cf) (k:Nat):St DV:=mkSt 55 [(1,.ref (2,1) 0),(2,.ref (3,1) 0),(19,.rsl (15,1) 2 0 x.c.d.length),(20,i64V x.c.d.length),(21,i64V k)] [(1,.box (bxF x)),(2,.box zeroF),(14,.row 2 (DR x.c.d) false)] []
def stC2 (x:Cf) (e:Dm) (k:Nat):St DV:=mkSt 55 [(1,.ref (2,1) 0),(2,.ref (3,1) 0),(3,i64V k),(4,.ref (5,1) 0),(5,.lst 1 (UR e.u)),(19,.rsl (15,1) 2 0 x.c.d.length),(20,i64V x.c.d.length),(21,i64V k),(30,i64V (UR e.u).length),(31,i64V (UR e.u).length)] [(1,.box (bxF x)),(2,.box zeroF),(4,.box (encD e)),(14,.row 2 (DR x.c.d) false)] []
def stC3 (x:Cf) (e:Dm) (k j:Nat):St DV:=mkSt 55 [(1,.ref (2,1) 0),(2,.ref (3,1) 0),(3,i64V k),(4,.ref (5,1) 0),(5,.rsl (29,1) 1 0 e.u.length),(19,.rsl (15,1) 2 0 x.c.d.length),(20,i64V x.c.d.length),(21,i64V k),(30,i64V e.u.length),(31,i64V j)] [(1,.box (bxF x)),(2,.box zeroF),(4,.box (encD e)),(14,.row 2 (DR x.c.d) false),(28,.row 1 (UR e.u) false)] []
theorem copy98 (x:Cf) (hx:CfIn x) (hd1:1≤x.c.d.length):PTriple Tryz.prog gv 98 [cfV x] (cfV x):=by
 have n0:=pure_D x.c.d
 have n1:=pure_Nd x.ns
 have l0:=lenD x.c.d
 have h8:=hx.c.n
 have c0:=clone134 x.ns hx.l
 have r0:=cloneR135 x.c.d (by omega) (fun h=>by rw[h] at hd1;simp at hd1)
 refine PTriple.of_body (C:=cxFc) Tryz.func98 rfl (by kernel_rfl) (mixedOf _) fun E hE=>?_
 repeat' (conv=>whnf);first
  | (refine bcase_of (fun hr=>?_) (fun hr=>?_)<;>(try simp only[bs] at hr)<;>try(exfalso;first|omega|(simp at hr;done)))
  | (apply And.intro;· first|(show indep _ _=true;kernel_rfl)|exact n0|exact n1|exact⟨by omega,by omega⟩|(show Nat.beq _ _=false;rfl)|exact q0|exact q1|exact nd12)
  | (apply Exists.intro;apply And.intro;· first|exact rfl|exact c0|exact c1|exact gi|exact gi2|exact gj2)
  | (apply Exists.intro;apply Exists.intro;apply Exists.intro;apply And.intro;· first|exact r0 _)
  | fail
 all_goals (conv=>whnf)
 refine VLoop.norm [1,2,19,20,21] [1,2,14] ?_
 repeat' (conv=>whnf);first
  | (refine bcase_of (fun hr=>?_) (fun hr=>?_)<;>(try simp only[bs] at hr)<;>try(exfalso;first|omega|(simp at hr;done)))
  | (apply And.intro;· first|(show indep _ _=true;kernel_rfl)|exact n0|exact n1|exact⟨by omega,by omega⟩|(show Nat.beq _ _=false;rfl)|exact q0|exact q1|exact nd12)
  | (apply Exists.intro;apply And.intro;· first|exact rfl|exact c0|exact c1|exact gi|exact gi2|exact gj2)
  | (apply Exists.intro;apply Exists.intro;apply Exists.intro;apply And.intro;· first|exact r0 _)
  | fail
 all_goals (conv=>whnf)
 refine VLoop.inv (fun z:Nat×Nat=>stC1 x z.1) (fun z=>z.1+z.2=x.c.d.length) (fun z=>z.2) (0,x.c.d.length) (by simp only;omega) rfl ?_
 rintro⟨k,m⟩ hk ih
 simp only at hk ih
 have hw:IntKind.i64.wrap ((k:Int)+1)=((k+1:Nat):Int):=wrap64 (by omega) (by omega)
 show VLoop _ _ _ (stC1 x k) _
 refine VLoop.unroll hE (mixedOf _) ?_
 cases m with
 | zero=>
  repeat' (conv=>whnf);first
   | (refine bcase_of (fun hr=>?_) (fun hr=>?_)<;>(try simp only[bs] at hr)<;>try(exfalso;first|omega|(simp at hr;done)))
   | (apply And.intro;· first|(show 0+x.c.d.length≤(DR x.c.d).length;omega)|(rw[takeD];exact n0)|(show indep _ _=true;kernel_rfl)|exact n0|exact n1|exact⟨by omega,by omega⟩|(show Nat.beq _ _=false;rfl)|exact q0|exact q1|exact nd12)
   | (apply Exists.intro;apply And.intro;· first|exact rfl|exact c0|exact c1|exact gi|exact gi2|exact gj2)
   | rw[hw]
   | fail
  all_goals (conv=>whnf)
  all_goals (show V.agg [V.lst 2 (((DR x.c.d).drop 0).take x.c.d.length),_,_,_,_,_]=_;rw[takeD])
 | succ m=>
  obtain⟨e,he⟩:∃e,x.c.d[k]?=some e:=⟨_,List.getElem?_eq_getElem (by omega)⟩
  have gi:=getDl he
  have gi2:lget (DR x.c.d) (0+((k:Int)).toNat)=some (encD e):=by rw[Nat.zero_add];exact gi
  have hei:=hx.c.d e (List.mem_of_getElem? he)
  have h10:=hei.u
  have h11:=hei.s
  have q0:=pure_N e.s
  have q1:=pure_U e.u
  have l1:=lenU e.u
  have hps:lset (DR x.c.d) (0+((k:Int)).toNat) (lput (encD e) 0 (V.agg [V.lst 1 (NR e.s),V.lst 1 (UR e.u)]).cells)=DR x.c.d:=by
   show lset (DR x.c.d) (0+((k:Int)).toNat) (encD e)=_
   rw[Nat.zero_add,Int.toNat_natCast];exact set_same (by rw[List.getElem?_map,he];rfl)
  refine cutLoops (C:=cxFc) (E:=E) (b:=?bq) (K:=?Kq) (fun _:Unit=>stC2 x e k) (fun _=>True) (fun hh=>?uu) ?vv
  case uu=>
   by_cases hu:e.u=[]
   case pos=>
    obtain⟨es,eu⟩:=e
    simp only at hu
    subst hu
    have r1:=fun d=>XTriple.of_p (R:=cxFc.R) (clone136 [] (by simp)) ⟨_,Tryz.func136,by kernel_rfl,by kernel_rfl⟩ (fun v hv=>by rw[List.mem_singleton.1 hv];exact .lst (pure_U [])) d
    repeat' (conv=>whnf);first
     | (refine bcase_of (fun hr=>?_) (fun hr=>?_)<;>(try simp only[bs] at hr)<;>try(exfalso;first|omega|(simp at hr;done)))
     | (apply And.intro;· first|(show indep _ _=true;kernel_rfl)|exact n0|exact n1|exact⟨by omega,by omega⟩|(show Nat.beq _ _=false;rfl)|exact q0|exact q1|exact nd12)
     | (apply Exists.intro;apply And.intro;· first|exact rfl|exact c0|exact c1|exact gi|exact gi2|exact gj2)
     | rw[hw]
     | (apply Exists.intro;apply Exists.intro;apply Exists.intro;apply And.intro;· first|exact r1 _)
     | fail
    all_goals (conv=>whnf)
    refine VLoop.norm [1,2,3,4,5,19,20,21,30,31] [1,2,4,14] ?_
    repeat' (conv=>whnf);first
     | (refine bcase_of (fun hr=>?_) (fun hr=>?_)<;>(try simp only[bs] at hr)<;>try(exfalso;first|omega|(simp at hr;done)))
     | (apply And.intro;· first|(show indep _ _=true;kernel_rfl)|exact n0|exact n1|exact⟨by omega,by omega⟩|(show Nat.beq _ _=false;rfl)|exact q0|exact q1|exact nd12)
     | (apply Exists.intro;apply And.intro;· first|exact rfl|exact c0|exact c1|exact gi|exact gi2|exact gj2)
     | rw[hw]
     | (apply Exists.intro;apply Exists.intro;apply Exists.intro;apply And.intro;· first|exact r1 _)
     | fail
    all_goals (conv=>whnf)
    exact hh () trivial
   case neg=>
    have r1:=cloneR136 e.u (by omega) hu
    repeat' (conv=>whnf);first
     | (refine bcase_of (fun hr=>?_) (fun hr=>?_)<;>(try simp only[bs] at hr)<;>try(exfalso;first|omega|(simp at hr;done)))
     | (apply And.intro;· first|(show indep _ _=true;kernel_rfl)|exact n0|exact n1|exact⟨by omega,by omega⟩|(show Nat.beq _ _=false;rfl)|exact q0|exact q1|exact nd12)
     | (apply Exists.intro;apply And.intro;· first|exact rfl|exact c0|exact c1|exact gi|exact gi2|exact gj2)
     | rw[hw]
     | (apply Exists.intro;apply Exists.intro;apply Exists.intro;apply And.intro;· first|exact r1 _)
     | fail
    all_goals (conv=>whnf)
    refine VLoop.norm [1,2,3,4,5,19,20,21,30,31] [1,2,4,14,28] ?_
    repeat' (conv=>whnf);first
     | (refine bcase_of (fun hr=>?_) (fun hr=>?_)<;>(try simp only[bs] at hr)<;>try(exfalso;first|omega|(simp at hr;done)))
     | (apply And.intro;· first|(show indep _ _=true;kernel_rfl)|exact n0|exact n1|exact⟨by omega,by omega⟩|(show Nat.beq _ _=false;rfl)|exact q0|exact q1|exact nd12)
     | (apply Exists.intro;apply And.intro;· first|exact rfl|exact c0|exact c1|exact gi|exact gi2|exact gj2)
     | rw[hw]
     | (apply Exists.intro;apply Exists.intro;apply Exists.intro;apply And.intro;· first|exact r1 _)
     | fail
    all_goals (conv=>whnf)
    refine VLoop.inv (fun z:Nat×Nat=>stC3 x e k z.1) (fun z=>z.1+z.2=e.u.length) (fun z=>z.2) (0,e.u.length) (by simp only;omega) rfl ?_
    rintro⟨j,n⟩ hj ih2
    simp only at hj ih2
    have hw2:IntKind.i64.wrap ((j:Int)+1)=((j+1:Nat):Int):=wrap64 (by omega) (by omega)
    show VLoop _ _ _ (stC3 x e k j) _
    cases n with
    | zero=>
     obtain rfl:j=e.u.length:=by omega
     refine VLoop.weak [.snapT 5] ?_
     repeat' (conv=>whnf);first
      | (refine bcase_of (fun hr=>?_) (fun hr=>?_)<;>(try simp only[bs] at hr)<;>try(exfalso;first|omega|(simp at hr;done)))
      | (apply And.intro;· first|exact⟨rfl,by simp[lenU]⟩|(rw[takeU];exact q1)|(show indep _ _=true;kernel_rfl)|exact n0|exact n1|exact⟨by omega,by omega⟩|(show Nat.beq _ _=false;rfl)|exact q0|exact q1|exact nd12)
      | (apply Exists.intro;apply And.intro;· first|exact rfl)
      | fail
     refine VLoop.norm [1,2,3,4,5,19,20,21,30,31] [1,2,4,14] ?_
     repeat' (conv=>whnf);first
      | (refine bcase_of (fun hr=>?_) (fun hr=>?_)<;>(try simp only[bs] at hr)<;>try(exfalso;first|omega|(simp at hr;done)))
      | (apply And.intro;· first|exact⟨rfl,by simp[lenU]⟩|(rw[takeU];exact q1)|(show indep _ _=true;kernel_rfl)|exact n0|exact n1|exact⟨by omega,by omega⟩|(show Nat.beq _ _=false;rfl)|exact q0|exact q1|exact nd12)
      | (apply Exists.intro;apply And.intro;· first|exact rfl)
      | fail
     rw[takeU]
     rw[show(e.u.length:Int)=((UR e.u).length:Int) by rw[l1]]
     exact hh () trivial
    | succ n=>
     refine VLoop.unroll hE (mixedOf _) ?_
     obtain⟨f,hf⟩:∃f,e.u[j]?=some f:=⟨_,List.getElem?_eq_getElem (by omega)⟩
     have gj:=getUl hf
     have gj2:lget (UR e.u) (0+((j:Int)).toNat)=some [nlV f]:=by rw[Nat.zero_add];exact gj
     have q2:=pure_N f
     have c1:=clone137 f (by have:=hei.l f (List.mem_of_getElem? hf);omega)
     have hqs:lset (UR e.u) (0+((j:Int)).toNat) (lput [nlV f] 0 (V.lst 1 (NR f)).cells)=UR e.u:=by
      show lset (UR e.u) (0+((j:Int)).toNat) [nlV f]=_
      rw[Nat.zero_add,Int.toNat_natCast];exact set_same (by rw[List.getElem?_map,hf];rfl)
     repeat' (conv=>whnf);first
      | (refine bcase_of (fun hr=>?_) (fun hr=>?_)<;>(try simp only[bs] at hr)<;>try(exfalso;first|omega|(simp at hr;done)))
      | (apply And.intro;· first|(show indep _ _=true;kernel_rfl)|exact n0|exact n1|exact⟨by omega,by omega⟩|(show Nat.beq _ _=false;rfl)|exact q0|exact q1|exact q2|(rw[hqs];exact q1)|exact nd12)
      | (apply Exists.intro;apply And.intro;· first|exact rfl|exact c0|exact c1|exact gi|exact gi2|exact gj2|exact gj)
      | rw[hw2]
      | rw[hqs]
      | fail
     all_goals (conv=>whnf)
     refine VLoop.norm [1,2,3,4,5,19,20,21,30,31] [1,2,4,14,28] ?_
     repeat' (conv=>whnf);first
      | (refine bcase_of (fun hr=>?_) (fun hr=>?_)<;>(try simp only[bs] at hr)<;>try(exfalso;first|omega|(simp at hr;done)))
      | (apply And.intro;· first|(show indep _ _=true;kernel_rfl)|exact n0|exact n1|exact⟨by omega,by omega⟩|(show Nat.beq _ _=false;rfl)|exact q0|exact q1|exact q2|(rw[hqs];exact q1)|exact nd12)
      | (apply Exists.intro;apply And.intro;· first|exact rfl|exact c0|exact c1|exact gi|exact gi2|exact gj2|exact gj)
      | rw[hw2]
      | rw[hqs]
      | fail
     all_goals (conv=>whnf)
     exact ih2 (j+1,n) (by simp only;omega) (by simp only;omega)
  case vv=>
  rintro _ _
  have c1:=clone137 e.s (by omega)
  refine VLoop.unroll hE (mixedOf _) ?_
  repeat' (conv=>whnf);first
   | (refine bcase_of (fun hr=>?_) (fun hr=>?_)<;>(try simp only[bs] at hr)<;>try(exfalso;first|omega|(simp at hr;done)))
   | (apply And.intro;· first|(show indep _ _=true;kernel_rfl)|exact n0|exact n1|exact⟨by omega,by omega⟩|(show Nat.beq _ _=false;rfl)|exact q0|exact q1|(rw[hps];exact n0)|exact nd12)
   | (apply Exists.intro;apply And.intro;· first|exact rfl|exact c0|exact c1|exact gi|exact gi2|exact gj2)
   | rw[hw]
   | rw[hps]
   | fail
  all_goals (conv=>whnf)
  refine VLoop.norm [1,2,19,20,21] [1,2,14] ?_
  repeat' (conv=>whnf);first
   | (refine bcase_of (fun hr=>?_) (fun hr=>?_)<;>(try simp only[bs] at hr)<;>try(exfalso;first|omega|(simp at hr;done)))
   | (apply And.intro;· first|(show indep _ _=true;kernel_rfl)|exact n0|exact n1|exact⟨by omega,by omega⟩|(show Nat.beq _ _=false;rfl)|exact q0|exact q1|(rw[hps];exact n0)|exact nd12)
   | (apply Exists.intro;apply And.intro;· first|exact rfl|exact c0|exact c1|exact gi|exact gi2|exact gj2)
   | rw[hw]
   | rw[hps]
   | fail
  all_goals (conv=>whnf)
  exact ih (k+1,m) (by simp only;omega) (by simp only;omega)
end Go.Proofs.YtbppemcdphgknaaGreatDoor
namespace Go.Proofs.YtbppemcdphgknaaGreatDoor
open Go Go.Vm
noncomputable def cxSn:Cx DV:=cxOf [(27,1)]
abbrev stCells (m:Name) (x:Cf) (n:Nat):List V:=[.lst 2 (DR x.c.d),i64V x.c.m,ndV x.ns,i64V x.keep,i64V x.cap,i64V x.life,.rsl m 1 0 n]
def stoD (x:Cf) (ts:List DV):DV:=.mk (stCells (0,0) x ts.length) [.prow ts]
theorem shut_sto (m:Name) (x:Cf) (ts:List DV) {n:Nat} (hn:ts.length=n):Shut (stoD x ts) [m] (stCells m x n) [.prow ts]:=by
 subst hn
 exact⟨rfl,.cons (.refl _) .nil,by simp[stoD,Deep.op,okC,okN,pure_D,pure_Nd],by simp[stoD,Deep.op,okOb]⟩
theorem pure_F (x:Cf):PureV (cfV x):=.agg fun v hv=>by
 simp only[List.mem_cons,List.not_mem_nil,or_false] at hv
 rcases hv with rfl|rfl|rfl|rfl|rfl|rfl
 ·exact .lst (pure_D _)
 ·exact .int _ _
 ·exact .lst (pure_Nd _)
 ·exact .int _ _
 ·exact .int _ _
 ·exact .int _ _
structure CfOk (x:Cf):Prop extends CfIn x where
 d1:1≤x.c.d.length
 n1:1≤x.ns.length∧x.ns.length≤12
 m2:1≤x.c.m∧x.c.m≤2
 k8:2≤x.keep∧x.keep≤8
 cap:0≤x.cap∧x.cap≤2000
theorem goodF_ok {x:Cf} (hx:CfIn x) (h:goodF x=true):CfOk x:=by
 simp only[goodF,goodN,goodK,inR,Bool.and_eq_true,decide_eq_true_eq] at h
 obtain⟨⟨⟨h1,h2,_⟩,h3,_⟩,h4,h5,_⟩:=h
 exact {toCfIn:=hx,d1:=by omega,n1:=by omega,m2:=h2,k8:=h4,cap:=h5}
def stNw (x:Cf) (x0:DV) (k:Nat):St DV:=mkSt 36 [(1,.ref (2,1) 0),(4,.ref (12,1) 0),(14,i64V (NdR x.ns).length),(15,i64V k)] [(1,.box (encF x)),(11,.box (stCells (32,1) x k)),(31,.prow (List.replicate k x0))] []
theorem new44 (x:Cf) (hx:CfIn x) (hg:goodF x=true):∃x0,TB x.c.m x.keep x.cap [] 0 x0∧YTriple Tryz.prog gv R0 44 [cfV x] (.tup [.ref (0,0) 0,i64V 0]) [.abs (stoD x (List.replicate x.ns.length x0))]:=by
 have ho:=goodF_ok hx hg
 obtain⟨_,hd1,⟨hn1,hn2⟩,hm,hk8,hcap⟩:=ho
 obtain⟨x0,aN,h0⟩:=tNew (m:=x.c.m) (keep:=x.keep) (cap:=x.cap) ⟨hm,hk8,hcap⟩
 refine⟨x0,h0,?_⟩
 have n0:=pure_D x.c.d
 have n1:=pure_Nd x.ns
 have l1:=lenNd x.ns
 have c0:=good59 x hx
 have c1:=copy98 x hx hd1
 rw[hg] at c0
 refine YTriple.of_body (C:=cxSn) Tryz.func44 rfl (by kernel_rfl) (mixedOf _) (fun v hv=>?_) (by simp) (by simp[okG,okA,okC,okN]) (by simp[okOb]) 0 fun E hE=>?_
 ·rw[List.mem_singleton.1 hv]
  exact pure_F x
 repeat' (conv=>whnf);first
  | (refine bcase_of (fun hr=>?_) (fun hr=>?_)<;>(try simp only[bs] at hr)<;>try(exfalso;first|omega|(simp at hr;done)))
  | (apply And.intro;· first|(show indep _ _=true;kernel_rfl)|exact n0|exact n1|exact⟨by omega,by omega⟩|exact⟨rfl,by decide⟩|exact⟨nb rfl,nb rfl⟩|(show k=(List.replicate k x0).length∧(k+1)*8≤roomBound∧k+1≤roomBound;exact⟨by simp,by unfold roomBound;omega,by unfold roomBound;omega⟩)|(show Nat.beq _ _=false;rfl)|exact nd12)
  | (apply Exists.intro;apply And.intro;· first|exact rfl|exact c0|exact c1)
  | (apply Exists.intro;apply Exists.intro;apply Exists.intro;apply And.intro;· first|(refine ATriple.callN (aN) ?_ ?_ ?_<;>rfl))
  | fail
 all_goals (conv=>whnf)
 refine VLoop.norm [1,4,14,15] [1,11] ?_
 repeat' (conv=>whnf);first
  | (refine bcase_of (fun hr=>?_) (fun hr=>?_)<;>(try simp only[bs] at hr)<;>try(exfalso;first|omega|(simp at hr;done)))
  | (apply And.intro;· first|(show indep _ _=true;kernel_rfl)|exact n0|exact n1|exact⟨by omega,by omega⟩|exact⟨rfl,by decide⟩|exact⟨nb rfl,nb rfl⟩|(show k=(List.replicate k x0).length∧(k+1)*8≤roomBound∧k+1≤roomBound;exact⟨by simp,by unfold roomBound;omega,by unfold roomBound;omega⟩)|(show Nat.beq _ _=false;rfl)|exact nd12)
  | (apply Exists.intro;apply And.intro;· first|exact rfl|exact c0|exact c1)
  | (apply Exists.intro;apply Exists.intro;apply Exists.intro;apply And.intro;· first|(refine ATriple.callN (aN) ?_ ?_ ?_<;>rfl))
  | fail
 all_goals (conv=>whnf)
 refine VLoop.unroll hE (mixedOf _) ?_
 repeat' (conv=>whnf);first
  | (refine bcase_of (fun hr=>?_) (fun hr=>?_)<;>(try simp only[bs] at hr)<;>try(exfalso;first|omega|(simp at hr;done)))
  | (apply And.intro;· first|(show indep _ _=true;kernel_rfl)|exact n0|exact n1|exact⟨by omega,by omega⟩|exact⟨rfl,by decide⟩|exact⟨nb rfl,nb rfl⟩|(show k=(List.replicate k x0).length∧(k+1)*8≤roomBound∧k+1≤roomBound;exact⟨by simp,by unfold roomBound;omega,by unfold roomBound;omega⟩)|(show Nat.beq _ _=false;rfl)|exact nd12)
  | (apply Exists.intro;apply And.intro;· first|exact rfl|exact c0|exact c1)
  | (apply Exists.intro;apply Exists.intro;apply Exists.intro;apply And.intro;· first|(refine ATriple.callN (aN) ?_ ?_ ?_<;>rfl))
  | fail
 all_goals (conv=>whnf)
 refine VLoop.norm [1,4,14,15] [1,11,31] ?_
 repeat' (conv=>whnf);first
  | (refine bcase_of (fun hr=>?_) (fun hr=>?_)<;>(try simp only[bs] at hr)<;>try(exfalso;first|omega|(simp at hr;done)))
  | (apply And.intro;· first|(show indep _ _=true;kernel_rfl)|exact n0|exact n1|exact⟨by omega,by omega⟩|exact⟨rfl,by decide⟩|exact⟨nb rfl,nb rfl⟩|(show k=(List.replicate k x0).length∧(k+1)*8≤roomBound∧k+1≤roomBound;exact⟨by simp,by unfold roomBound;omega,by unfold roomBound;omega⟩)|(show Nat.beq _ _=false;rfl)|exact nd12)
  | (apply Exists.intro;apply And.intro;· first|exact rfl|exact c0|exact c1)
  | (apply Exists.intro;apply Exists.intro;apply Exists.intro;apply And.intro;· first|(refine ATriple.callN (aN) ?_ ?_ ?_<;>rfl))
  | fail
 all_goals (conv=>whnf)
 refine VLoop.inv (fun z:Nat×Nat=>stNw x x0 z.1) (fun z=>z.1+z.2=x.ns.length) (fun z=>z.2) (1,x.ns.length-1) (by simp only;omega) rfl ?_
 rintro⟨k,m⟩ hk ih
 simp only at hk ih
 have hw:IntKind.i64.wrap ((k:Int)+1)=((k+1:Nat):Int):=wrap64 (by omega) (by omega)
 show VLoop _ _ _ (stNw x x0 k) _
 refine VLoop.unroll hE (mixedOf _) ?_
 cases m with
 | zero=>
  obtain rfl:k=x.ns.length:=by omega
  repeat' (conv=>whnf);first
   | (refine bcase_of (fun hr=>?_) (fun hr=>?_)<;>(try simp only[bs] at hr)<;>try(exfalso;first|omega|(simp at hr;done)))
   | (apply And.intro;· first|(show indep _ _=true;kernel_rfl)|exact n0|exact n1|exact⟨by omega,by omega⟩|exact⟨rfl,by decide⟩|exact⟨nb rfl,nb rfl⟩|(show k=(List.replicate k x0).length∧(k+1)*8≤roomBound∧k+1≤roomBound;exact⟨by simp,by unfold roomBound;omega,by unfold roomBound;omega⟩)|(show Nat.beq _ _=false;rfl)|exact nd12)
   | (apply Exists.intro;apply And.intro;· first|exact rfl|exact c0|exact c1)
   | (apply Exists.intro;apply Exists.intro;apply Exists.intro;apply And.intro;· first|(refine ATriple.callN (aN) ?_ ?_ ?_<;>rfl))
   | rw[hw]
   | rw[hrep]
   | fail
  all_goals (conv=>whnf)
  refine⟨[.shut (12,1) (stoD x (List.replicate x.ns.length x0))],?_⟩
  conv=>whnf
  refine⟨shut_sto (32,1) x _ (by simp),?_⟩
  conv=>whnf
  refine⟨[(12,1)],⟨rfl,by decide,?_⟩,rfl⟩
  intro p hp
  simp only[List.zip_cons_cons,List.zip_nil_right,List.mem_cons,List.not_mem_nil,or_false] at hp
  subst hp
  rfl
 | succ m=>
  have hrep:List.replicate k x0++[x0]=List.replicate (k+1) x0:=List.replicate_succ'.symm
  repeat' (conv=>whnf);first
   | (refine bcase_of (fun hr=>?_) (fun hr=>?_)<;>(try simp only[bs] at hr)<;>try(exfalso;first|omega|(simp at hr;done)))
   | (apply And.intro;· first|(show indep _ _=true;kernel_rfl)|exact n0|exact n1|exact⟨by omega,by omega⟩|exact⟨rfl,by decide⟩|exact⟨nb rfl,nb rfl⟩|(show k=(List.replicate k x0).length∧(k+1)*8≤roomBound∧k+1≤roomBound;exact⟨by simp,by unfold roomBound;omega,by unfold roomBound;omega⟩)|(show Nat.beq _ _=false;rfl)|exact nd12)
   | (apply Exists.intro;apply And.intro;· first|exact rfl|exact c0|exact c1)
   | (apply Exists.intro;apply Exists.intro;apply Exists.intro;apply And.intro;· first|(refine ATriple.callN (aN) ?_ ?_ ?_<;>rfl))
   | rw[hw]
   | rw[hrep]
   | fail
  all_goals (conv=>whnf)
  refine VLoop.norm [1,4,14,15] [1,11,31] ?_
  repeat' (conv=>whnf);first
   | (refine bcase_of (fun hr=>?_) (fun hr=>?_)<;>(try simp only[bs] at hr)<;>try(exfalso;first|omega|(simp at hr;done)))
   | (apply And.intro;· first|(show indep _ _=true;kernel_rfl)|exact n0|exact n1|exact⟨by omega,by omega⟩|exact⟨rfl,by decide⟩|exact⟨nb rfl,nb rfl⟩|(show k=(List.replicate k x0).length∧(k+1)*8≤roomBound∧k+1≤roomBound;exact⟨by simp,by unfold roomBound;omega,by unfold roomBound;omega⟩)|(show Nat.beq _ _=false;rfl)|exact nd12)
   | (apply Exists.intro;apply And.intro;· first|exact rfl|exact c0|exact c1)
   | (apply Exists.intro;apply Exists.intro;apply Exists.intro;apply And.intro;· first|(refine ATriple.callN (aN) ?_ ?_ ?_<;>rfl))
   | rw[hw]
   | rw[hrep]
   | fail
  all_goals (conv=>whnf)
  exact ih (k+1,m) (by simp only;omega) (by simp only;omega)
end Go.Proofs.YtbppemcdphgknaaGreatDoor
namespace Go.Proofs.YtbppemcdphgknaaGreatDoor
open Go Go.Vm
noncomputable def cxSt:Cx DV:=cxOf [(27,1),(100,3),(42,3),(22,1),(23,1),(21,1),(26,1),(70,1),(31,1),(33,1),(34,1)]
theorem node_at (x:Cf) (xs:List DV) (hl:xs.length≤1000) {i:Nat} (hi:i<xs.length) :
  ATriple Tryz.prog gv R0 100 [.ref (0,0) 0,i64V i] [.box (stCells (0,1) x xs.length),.prow xs] (.sub (0,1) i 0) [.box (stCells (0,1) x xs.length),.prow xs] none:=by
 have n0:=pure_D x.c.d
 have n1:=pure_Nd x.ns
 have hw0:IntKind.i64.wrap ((xs.length:Int)-1)=(xs.length:Int)-1:=wrap64 (by omega) (by omega)
 have c0:=btw109 i 0 ((xs.length:Int)-1)
 rw[show inR 0 ((xs.length:Int)-1) (i:Int)=true from decide_eq_true (by omega)] at c0
 refine ATriple.of_bodyW (C:=cxSt) Tryz.func100 rfl (by kernel_rfl) (mixedOf _) rfl (by simp[okA,okC,okN]) (by simp[okOb,okC,okN,pure_D,pure_Nd]) (by simp[okG,okA,okC,okN]) (by simp[okOb,okC,okN,pure_D,pure_Nd]) (fun o ho=>by cases ho) 0 [] fun E hE=>?_
 repeat' (conv=>whnf);first
  | (refine bcase_of (fun hr=>?_) (fun hr=>?_)<;>(try simp only[bs] at hr)<;>try(exfalso;first|omega|(simp at hr;done)))
  | (apply And.intro;· first|(show indep _ _=true;kernel_rfl)|exact n0|exact n1|exact⟨by omega,by omega⟩|(show 0+((i:Int)).toNat<xs.length;omega)|exact⟨rfl,by decide⟩|(show Nat.beq _ _=false;rfl)|exact nd12)
  | (apply Exists.intro;apply And.intro;· first|exact rfl|exact c0|exact c1)
  | rw[hw0]
  | fail
 all_goals (conv=>whnf)
 all_goals (refine⟨[],?_⟩;(conv=>whnf);refine⟨?_,rfl⟩)
 all_goals (show V.sub _ (0+((i:Int)).toNat) _=V.sub _ i _;rw[Nat.zero_add,Int.toNat_natCast])
end Go.Proofs.YtbppemcdphgknaaGreatDoor
namespace Go.Proofs.YtbppemcdphgknaaGreatDoor
open Go Go.Vm
structure SB (x:Cf) (Ts:List Tab) (i:Nat) (xs:List DV):Prop where
 ok:CfOk x
 lt:Ts.length=x.ns.length
 lx:xs.length=x.ns.length
 tb:∀(j:Nat) (T:Tab) (y:DV),Ts[j]?=some T→xs[j]?=some y→∃k,k≤i∧TB x.c.m x.keep x.cap T k y
def lenS (Ts:List Tab):Nat:=(Ts.map List.length).sum
theorem lenS_take {Ts:List Tab} {k:Nat} {T:Tab} (h:Ts[k]?=some T):lenS (Ts.take (k+1))=lenS (Ts.take k)+T.length:=by
 unfold lenS
 rw[List.take_add_one,h];simp
theorem lenS_le {Ts:List Tab} (h:∀T∈Ts,T.length≤2000):lenS Ts≤2000*Ts.length:=by
 induction Ts with
 | nil=>simp[lenS]
 | cons a r ih=>
  have:=ih fun T hT=>h T (by simp[hT])
  have:=h a (by simp)
  unfold lenS at *
  simp only[List.map_cons,List.sum_cons,List.length_cons];omega
theorem dset_same {xs:List DV} {j:Nat} {y:DV} (h:xs[j]?=some y):lset xs j y=xs:=by
 have hlt:=(List.getElem?_eq_some_iff.1 h).1
 rw[lset_eq]
 refine List.ext_getElem? fun k=>?_
 rw[List.getElem?_set]
 by_cases hj:j=k
 ·subst hj;rw[if_pos rfl,if_pos hlt,h]
 ·rw[if_neg hj]
section
variable {x:Cf} {Ts:List Tab} {i:Nat} {xs:List DV}
theorem SB.at (h:SB x Ts i xs) {j:Nat} (hj:j<x.ns.length):∃T y k,Ts[j]?=some T∧xs[j]?=some y∧k≤i∧TB x.c.m x.keep x.cap T k y:=by
 have h1:=h.lt
 have h2:=h.lx
 obtain⟨T,hT⟩:∃T,Ts[j]?=some T:=⟨_,List.getElem?_eq_getElem (by omega)⟩
 obtain⟨y,hy⟩:∃y,xs[j]?=some y:=⟨_,List.getElem?_eq_getElem (by omega)⟩
 obtain⟨k,hk,ht⟩:=h.tb j T y hT hy
 exact⟨T,y,k,hT,hy,hk,ht⟩
theorem SB.size (h:SB x Ts i xs):∀T∈Ts,T.length≤2000:=fun T hT=>by
 obtain⟨j,hj,rfl⟩:=List.getElem_of_mem hT
 obtain⟨T,y,k,h1,h2,_,ht⟩:=h.at (j:=j) (by have:=h.lt;omega)
 rw[List.getElem?_eq_getElem hj] at h1
 cases h1
 exact ht.size
end
def stLn (x:Cf) (xs:List DV) (s k:Nat):St DV:=mkStX 27 0 [(0,.ref (0,0) 0),(3,i64V s),(11,i64V xs.length),(12,i64V k)] [] [some (.box (stCells (0,1) x xs.length)),some (.prow xs)]
theorem lenN42 {x:Cf} {Ts:List Tab} {i:Nat} {xs:List DV} (h:SB x Ts i xs):ATriple Tryz.prog gv R0 42 [.ref (0,0) 0] [.box (stCells (0,1) x xs.length),.prow xs] (i64V (lenS Ts)) [.box (stCells (0,1) x xs.length),.prow xs] none:=by
 have n0:=pure_D x.c.d
 have n1:=pure_Nd x.ns
 have hlx:=h.lx
 have hlt:=h.lt
 have hn:=h.ok.n1
 have hsz:=h.size
 refine ATriple.of_bodyW (C:=cxSt) Tryz.func42 rfl (by kernel_rfl) (mixedOf _) rfl (by simp[okA,okC,okN]) (by simp[okOb,okC,okN,pure_D,pure_Nd]) (by simp[okG,okA,okC,okN]) (by simp[okOb,okC,okN,pure_D,pure_Nd]) (fun o ho=>by cases ho) 0 [] fun E hE=>?_
 repeat' (conv=>whnf);first
  | (refine bcase_of (fun hr=>?_) (fun hr=>?_)<;>(try simp only[bs] at hr)<;>try(exfalso;first|omega|(simp at hr;done)))
  | (apply And.intro;· first|exact True.intro|(show indep _ _=true;kernel_rfl)|exact n0|exact n1|exact⟨by omega,by omega⟩|(show 0+((k:Int)).toNat<xs.length;omega)|exact⟨rfl,by decide⟩|(show Nat.beq _ _=false;rfl)|exact nd12)
  | (apply Exists.intro;apply And.intro;· first|exact rfl|exact c0|exact c1|exact hgy)
  | fail
 all_goals (conv=>whnf)
 refine VLoop.norm [0,3,11,12] [] ?_
 repeat' (conv=>whnf);first
  | (refine bcase_of (fun hr=>?_) (fun hr=>?_)<;>(try simp only[bs] at hr)<;>try(exfalso;first|omega|(simp at hr;done)))
  | (apply And.intro;· first|exact True.intro|(show indep _ _=true;kernel_rfl)|exact n0|exact n1|exact⟨by omega,by omega⟩|(show 0+((k:Int)).toNat<xs.length;omega)|exact⟨rfl,by decide⟩|(show Nat.beq _ _=false;rfl)|exact nd12)
  | (apply Exists.intro;apply And.intro;· first|exact rfl|exact c0|exact c1|exact hgy)
  | fail
 all_goals (conv=>whnf)
 refine VLoop.inv (fun k:Nat=>stLn x xs (lenS (Ts.take k)) k) (fun k=>k≤xs.length) (fun k=>xs.length-k) 0 (Nat.zero_le _) rfl ?_
 intro k hk ih
 have hle:lenS (Ts.take k)≤2000*(Ts.take k).length:=lenS_le fun T hT=>hsz T (List.mem_of_mem_take hT)
 rw[List.length_take] at hle
 have hw:IntKind.i64.wrap ((k:Int)+1)=((k+1:Nat):Int):=wrap64 (by omega) (by omega)
 show VLoop _ _ _ (stLn x xs (lenS (Ts.take k)) k) _
 refine VLoop.unroll hE (mixedOf _) ?_
 by_cases hkn:k<xs.length
 case neg=>
  obtain rfl:k=xs.length:=by omega
  have htk:Ts.take xs.length=Ts:=List.take_of_length_le (by omega)
  repeat' (conv=>whnf);first
   | (refine bcase_of (fun hr=>?_) (fun hr=>?_)<;>(try simp only[bs] at hr)<;>try(exfalso;first|omega|(simp at hr;done)))
   | (apply And.intro;· first|exact True.intro|(show indep _ _=true;kernel_rfl)|exact n0|exact n1|exact⟨by omega,by omega⟩|(show 0+((k:Int)).toNat<xs.length;omega)|exact⟨rfl,by decide⟩|(show Nat.beq _ _=false;rfl)|exact nd12)
   | (apply Exists.intro;apply And.intro;· first|exact rfl|exact c0|exact c1|exact hgy)
   | rw[hw]
   | rw[hw2]
   | rw[hds]
   | fail
  all_goals (conv=>whnf)
  all_goals (refine⟨[],?_⟩;(conv=>whnf);exact⟨by rw[htk];rfl,rfl⟩)
 case pos=>
  obtain⟨T,y,j,hT,hy,hj,ht⟩:=h.at (j:=k) (by omega)
  have aL:=tLen ht
  have hsm:=ht.size
  have hst:=lenS_take hT
  have hds:lset xs (0+((k:Int)).toNat) y=xs:=by rw[Nat.zero_add,Int.toNat_natCast];exact dset_same hy
  have hgy:lget xs (0+((k:Int)).toNat)=some y:=by rw[Nat.zero_add,Int.toNat_natCast,lget_eq];exact hy
  have hw2:IntKind.i64.wrap ((lenS (Ts.take k):Int)+(T.length:Int))=((lenS (Ts.take (k+1)):Nat):Int):=(wrap64 (by omega) (by omega)).trans (by omega)
  repeat' (conv=>whnf);first
   | (refine bcase_of (fun hr=>?_) (fun hr=>?_)<;>(try simp only[bs] at hr)<;>try(exfalso;first|omega|(simp at hr;done)))
   | (apply And.intro;· first|exact True.intro|(show indep _ _=true;kernel_rfl)|exact n0|exact n1|exact⟨by omega,by omega⟩|(show 0+((k:Int)).toNat<xs.length;omega)|exact⟨rfl,by decide⟩|(show Nat.beq _ _=false;rfl)|exact nd12)
   | (apply Exists.intro;apply And.intro;· first|exact rfl|exact c0|exact c1|exact hgy)
   | rw[hw]
   | rw[hw2]
   | rw[hds]
   | (apply Exists.intro;apply Exists.intro;apply And.intro;· first|(refine ATriple.callS (aL) ?_ ?_<;>(intro m d;rfl)))
   | fail
  all_goals (conv=>whnf)
  all_goals refine VLoop.norm [0,3,11,12] [] ?_
  all_goals exact kb39
def stLa (x:Cf) (xs:List DV) (s k:Nat):St DV:=mkStX 27 1 [(0,.ref (0,0) 0),(3,i64V s),(11,i64V xs.length),(12,i64V k)] [(27,.prow xs)] [some (.box (stCells (28,1) x xs.length))]
theorem lenA42 {x:Cf} {Ts:List Tab} {i:Nat} {xs:List DV} (h:SB x Ts i xs):ATriple Tryz.prog gv R0 42 [.ref (0,0) 0] [.abs (stoD x xs)] (i64V (lenS Ts)) [.abs (stoD x xs)] none:=by
 have n0:=pure_D x.c.d
 have n1:=pure_Nd x.ns
 have hlx:=h.lx
 have hlt:=h.lt
 have hn:=h.ok.n1
 have hsz:=h.size
 refine ATriple.of_bodyW (C:=cxSt) Tryz.func42 rfl (by kernel_rfl) (mixedOf _) rfl (by simp[okA,okC,okN]) (by simp[okOb,okC,okN,pure_D,pure_Nd]) (by simp[okG,okA,okC,okN]) (by simp[okOb,okC,okN,pure_D,pure_Nd]) (fun o ho=>by cases ho) 1 [.opn (0,0) [27]] fun E hE=>?_
 repeat' (conv=>whnf);first
  | (refine bcase_of (fun hr=>?_) (fun hr=>?_)<;>(try simp only[bs] at hr)<;>try(exfalso;first|omega|(simp at hr;done)))
  | (apply And.intro;· first|exact True.intro|(show indep _ _=true;kernel_rfl)|exact n0|exact n1|exact⟨by omega,by omega⟩|(show 0+((k:Int)).toNat<xs.length;omega)|exact⟨rfl,by decide⟩|(show Nat.beq _ _=false;rfl)|exact nd12)
  | (apply Exists.intro;apply And.intro;· first|exact rfl|exact c0|exact c1|exact hgy)
  | fail
 all_goals (conv=>whnf)
 refine VLoop.norm [0,3,11,12] [27] ?_
 repeat' (conv=>whnf);first
  | (refine bcase_of (fun hr=>?_) (fun hr=>?_)<;>(try simp only[bs] at hr)<;>try(exfalso;first|omega|(simp at hr;done)))
  | (apply And.intro;· first|exact True.intro|(show indep _ _=true;kernel_rfl)|exact n0|exact n1|exact⟨by omega,by omega⟩|(show 0+((k:Int)).toNat<xs.length;omega)|exact⟨rfl,by decide⟩|(show Nat.beq _ _=false;rfl)|exact nd12)
  | (apply Exists.intro;apply And.intro;· first|exact rfl|exact c0|exact c1|exact hgy)
  | fail
 all_goals (conv=>whnf)
 refine VLoop.inv (fun k:Nat=>stLa x xs (lenS (Ts.take k)) k) (fun k=>k≤xs.length) (fun k=>xs.length-k) 0 (Nat.zero_le _) rfl ?_
 intro k hk ih
 have hle:lenS (Ts.take k)≤2000*(Ts.take k).length:=lenS_le fun T hT=>hsz T (List.mem_of_mem_take hT)
 rw[List.length_take] at hle
 have hw:IntKind.i64.wrap ((k:Int)+1)=((k+1:Nat):Int):=wrap64 (by omega) (by omega)
 show VLoop _ _ _ (stLa x xs (lenS (Ts.take k)) k) _
 refine VLoop.unroll hE (mixedOf _) ?_
 by_cases hkn:k<xs.length
 case neg=>
  obtain rfl:k=xs.length:=by omega
  have htk:Ts.take xs.length=Ts:=List.take_of_length_le (by omega)
  repeat' (conv=>whnf);first
   | (refine bcase_of (fun hr=>?_) (fun hr=>?_)<;>(try simp only[bs] at hr)<;>try(exfalso;first|omega|(simp at hr;done)))
   | (apply And.intro;· first|exact True.intro|(show indep _ _=true;kernel_rfl)|exact n0|exact n1|exact⟨by omega,by omega⟩|(show 0+((k:Int)).toNat<xs.length;omega)|exact⟨rfl,by decide⟩|(show Nat.beq _ _=false;rfl)|exact nd12)
   | (apply Exists.intro;apply And.intro;· first|exact rfl|exact c0|exact c1|exact hgy)
   | rw[hw]
   | rw[hw2]
   | rw[hds]
   | fail
  all_goals (conv=>whnf)
  all_goals refine⟨[.shut (0,0) (stoD x xs)],?_⟩
  all_goals (conv=>whnf)
  all_goals refine⟨shut_sto (28,1) x xs rfl,?_⟩
  all_goals (conv=>whnf)
  all_goals exact⟨by rw[htk];rfl,rfl⟩
 case pos=>
  obtain⟨T,y,j,hT,hy,hj,ht⟩:=h.at (j:=k) (by omega)
  have aL:=tLen ht
  have hsm:=ht.size
  have hst:=lenS_take hT
  have hds:lset xs (0+((k:Int)).toNat) y=xs:=by rw[Nat.zero_add,Int.toNat_natCast];exact dset_same hy
  have hgy:lget xs (0+((k:Int)).toNat)=some y:=by rw[Nat.zero_add,Int.toNat_natCast,lget_eq];exact hy
  have hw2:IntKind.i64.wrap ((lenS (Ts.take k):Int)+(T.length:Int))=((lenS (Ts.take (k+1)):Nat):Int):=(wrap64 (by omega) (by omega)).trans (by omega)
  repeat' (conv=>whnf);first
   | (refine bcase_of (fun hr=>?_) (fun hr=>?_)<;>(try simp only[bs] at hr)<;>try(exfalso;first|omega|(simp at hr;done)))
   | (apply And.intro;· first|exact True.intro|(show indep _ _=true;kernel_rfl)|exact n0|exact n1|exact⟨by omega,by omega⟩|(show 0+((k:Int)).toNat<xs.length;omega)|exact⟨rfl,by decide⟩|(show Nat.beq _ _=false;rfl)|exact nd12)
   | (apply Exists.intro;apply And.intro;· first|exact rfl|exact c0|exact c1|exact hgy)
   | rw[hw]
   | rw[hw2]
   | rw[hds]
   | (apply Exists.intro;apply Exists.intro;apply And.intro;· first|(refine ATriple.callS (aL) ?_ ?_<;>(intro m d;rfl)))
   | fail
  all_goals (conv=>whnf)
  all_goals refine VLoop.norm [0,3,11,12] [27] ?_
  all_goals exact kb39
end Go.Proofs.YtbppemcdphgknaaGreatDoor
