/- A part of the proofs over the seat YtbppemcdphgknaaGreatDoor. -/
import Derived.Test.YtbppemcdphgknaaGreatDoorC7
import Derived.Test.YtbppemcdphgknaaGreatDoorVm28
set_option linter.unusedVariables false
set_option linter.unusedSimpArgs false
set_option maxRecDepth 100000
set_option maxHeartbeats 40000000
namespace Go.Proofs.YtbppemcdphgknaaGreatDoor
open Go Go.Vm
set_option maxRecDepth 100000
set_option maxHeartbeats 40000000
set_option linter.unusedSimpArgs false
set_option linter.unusedVariables false
structure Pl where
 t:Bool
 l:Option (List En)
def lV:Option (List En)→V
 | none=>.nils
 | some l=>chV l
def plC (p:Pl):List V:=[.bool p.t,lV p.l]
def pgC (g:List Pl):List V:=(g.map plC).flatten
def pgD (g:List Pl):DV:=.mk (pgC g) []
abbrev slC (n:Name) (cap taken low:Int) (ps:List (List Pl)):List V:=[i64V cap,i64V taken,i64V low,.rsl n 1 0 ps.length]
def slD (cap taken low:Int) (ps:List (List Pl)):DV:=.mk (slC (0,0) cap taken low ps) [.prow (ps.map pgD)]
theorem pgC_get {g:List Pl} {m:Nat} {p:Pl} (h:g[m]?=some p):lget (pgC g) (m*2)=some (.bool p.t)∧lget (pgC g) (m*2+1)=some (lV p.l):=by
 induction g generalizing m with
 | nil=>simp at h
 | cons x r ih=>
  cases m with
  | zero=>simp at h;subst h;exact⟨rfl,rfl⟩
  | succ m=>
   obtain⟨h1,h2⟩:=ih (m:=m) (by simpa using h)
   have e:∀k,lget (pgC (x::r)) (k+2)=lget (pgC r) k:=fun k=>rfl
   rw[Nat.succ_mul]
   exact⟨(e _).trans h1,by rw[show m*2+2+1=m*2+1+2 by omega];exact(e _).trans h2⟩
theorem pages_get {ps:List (List Pl)} {j:Nat} {g:List Pl} (h:ps[j]?=some g):lget (ps.map pgD) j=some (pgD g):=by
 rw[lget_eq,List.getElem?_map,h];rfl
theorem div8 {i:Int} (h:0≤i) (h':i≤100000):IntKind.i64.wrap (i.tdiv 8)=(i.toNat / 8:Nat):=by
 have h1:i.tdiv 8=(i.toNat / 8:Nat):=by
  obtain⟨n,rfl⟩:=Int.eq_ofNat_of_zero_le h
  rw[Int.toNat_natCast];rfl
 rw[h1];exact wrap64 (by omega) (by omega)
theorem mod8 {i:Int} (h:0≤i):i.tmod 8=(i.toNat % 8:Nat):=by
 obtain⟨n,rfl⟩:=Int.eq_ofNat_of_zero_le h
 rw[Int.toNat_natCast];rfl
noncomputable def cx3:Cx DV:=cxOf [(116,3),(82,1),(127,1),(126,1),(223,1),(224,1),(129,1),(74,1)]
abbrev R0:Rep DV:=dvRep DV
theorem at_some (cap taken low:Int) (ps:List (List Pl)) (hl:ps.length≤1000) (i:Int) (h0:0≤i) {g:List Pl} (hg:ps[i.toNat / 8]?=some g) {p:Pl} (hp:g[i.toNat % 8]?=some p) (ht:p.t=true) :
  ATriple Tryz.prog gv R0 116 [.ref (0,0) 0,i64V i] [.box (slC (0,1) cap taken low ps),.prow (ps.map pgD)] (.sub (0,1) (i.toNat / 8) (i.toNat % 8*2)) [.box (slC (0,1) cap taken low ps),.prow (ps.map pgD)] none:=by
 have hj:=(List.getElem?_eq_some_iff.1 hg).1
 have hd:=div8 h0 (by omega)
 have hm:=mod8 h0
 have hw:IntKind.i64.wrap ((ps.length:Int)*8)=ps.length*8:=wrap64 (by omega) (by omega)
 obtain⟨c1,c2⟩:=pgC_get hp
 rw[ht] at c1
 refine ATriple.of_bodyW (C:=cx3) Tryz.func116 rfl (by kernel_rfl) (mixedOf _) rfl (by simp[okA,okC,okN]) (by simp[okOb,okC,okN]) (by simp[okG,okA,okC,okN]) (by simp[okOb,okC,okN]) (fun o ho=>by cases ho) 0 [] fun E hE=>?_
 repeat' (conv=>whnf);first
  | (refine bcase_of (fun hr=>?_) (fun hr=>?_)<;>try(exfalso;simp at hr;omega))
  | (apply And.intro;· first|exact nd1|exact⟨by rw[hd];omega,by rw[hd];omega⟩|(rw[hd,Int.toNat_natCast,Nat.zero_add,List.length_map];exact hj)|exact⟨by rw[hm];omega,by rw[hm];omega⟩)
  | (apply Exists.intro;apply And.intro;· first|exact rfl|(rw[hd,Nat.zero_add,Int.toNat_natCast];exact pages_get hg)|(show lget (pgC g) (0+(i.tmod 8).toNat*2+0)=some _;rw[hm,Nat.zero_add,Int.toNat_natCast];exact c1))
  | fail
 refine⟨[],?_⟩
 conv=>whnf
 refine⟨?_,rfl⟩
 show V.sub _ (0+_) (0+_*2)=_
 rw[hd,hm,Int.toNat_natCast,Int.toNat_natCast,Nat.zero_add,Nat.zero_add]
theorem at_free (cap taken low:Int) (ps:List (List Pl)) (hl:ps.length≤1000) (i:Int) (h0:0≤i) {g:List Pl} (hg:ps[i.toNat / 8]?=some g) {p:Pl} (hp:g[i.toNat % 8]?=some p) (ht:p.t=false) :
  ATriple Tryz.prog gv R0 116 [.ref (0,0) 0,i64V i] [.box (slC (0,1) cap taken low ps),.prow (ps.map pgD)] .nilp [.box (slC (0,1) cap taken low ps),.prow (ps.map pgD)] none:=by
 have hj:=(List.getElem?_eq_some_iff.1 hg).1
 have hd:=div8 h0 (by omega)
 have hm:=mod8 h0
 have hw:IntKind.i64.wrap ((ps.length:Int)*8)=ps.length*8:=wrap64 (by omega) (by omega)
 obtain⟨c1,c2⟩:=pgC_get hp
 rw[ht] at c1
 refine ATriple.of_bodyW (C:=cx3) Tryz.func116 rfl (by kernel_rfl) (mixedOf _) rfl (by simp[okA,okC,okN]) (by simp[okOb,okC,okN]) (by simp[okG,okA,okC,okN]) (by simp[okOb,okC,okN]) (fun o ho=>by cases ho) 0 [] fun E hE=>?_
 repeat' (conv=>whnf);first
  | (refine bcase_of (fun hr=>?_) (fun hr=>?_)<;>try(exfalso;simp at hr;omega))
  | (apply And.intro;· first|exact nd1|exact⟨by rw[hd];omega,by rw[hd];omega⟩|(rw[hd,Int.toNat_natCast,Nat.zero_add,List.length_map];exact hj)|exact⟨by rw[hm];omega,by rw[hm];omega⟩)
  | (apply Exists.intro;apply And.intro;· first|exact rfl|(rw[hd,Nat.zero_add,Int.toNat_natCast];exact pages_get hg)|(show lget (pgC g) (0+(i.tmod 8).toNat*2+0)=some _;rw[hm,Nat.zero_add,Int.toNat_natCast];exact c1))
  | fail
 refine⟨[],?_⟩
 conv=>whnf
 exact⟨rfl,rfl⟩
theorem at_out (cap taken low:Int) (ps:List (List Pl)) (hl:ps.length≤1000) (i:Int) (h0:i<0∨ps.length*8≤i) :
  ATriple Tryz.prog gv R0 116 [.ref (0,0) 0,i64V i] [.box (slC (0,1) cap taken low ps),.prow (ps.map pgD)] .nilp [.box (slC (0,1) cap taken low ps),.prow (ps.map pgD)] none:=by
 have hw:IntKind.i64.wrap ((ps.length:Int)*8)=ps.length*8:=wrap64 (by omega) (by omega)
 refine ATriple.of_bodyW (C:=cx3) Tryz.func116 rfl (by kernel_rfl) (mixedOf _) rfl (by simp[okA,okC,okN]) (by simp[okOb,okC,okN]) (by simp[okG,okA,okC,okN]) (by simp[okOb,okC,okN]) (fun o ho=>by cases ho) 0 [] fun E hE=>?_
 repeat' (conv=>whnf);first
  | (refine bcase_of (fun hr=>?_) (fun hr=>?_)<;>try(exfalso;simp at *;omega))
  | (apply And.intro;· first|exact nd1)
  | (apply Exists.intro;apply And.intro;· first|exact rfl)
  | fail
 all_goals refine⟨[],?_⟩
 all_goals (conv=>whnf)
 all_goals exact⟨rfl,rfl⟩
end Go.Proofs.YtbppemcdphgknaaGreatDoor
namespace Go.Proofs.YtbppemcdphgknaaGreatDoor
open Go Go.Vm
theorem pgC_length (g:List Pl):(pgC g).length=g.length*2:=by
 induction g with
 | nil=>rfl
 | cons x r ih=>
  have:(pgC (x::r)).length=(pgC r).length+2:=rfl
  rw[this,ih,List.length_cons];omega
theorem lput_cons2 {α:Type} (x y:α) (r:List α) (k:Nat) (n:List α):lput (x::y::r) (k+2) n=x::y::lput r k n:=by
 have e:k+2+n.length=(k+n.length)+1+1:=by omega
 simp only[lput,e,List.take_succ_cons,List.drop_succ_cons,List.cons_append]
theorem pgC_put {g:List Pl} {m:Nat} {p:Pl} (h:g[m]?=some p) (l:Option (List En)):lput (pgC g) (m*2+1) [lV l]=pgC (g.set m ⟨p.t,l⟩):=by
 induction g generalizing m with
 | nil=>simp at h
 | cons x r ih=>
  cases m with
  | zero=>simp at h;subst h;rfl
  | succ m=>
   have:=ih (m:=m) (by simpa using h)
   show lput (.bool x.t::lV x.l::pgC r) _ _=.bool x.t::lV x.l::pgC (r.set m ⟨p.t,l⟩)
   rw[show(m+1)*2+1=m*2+1+2 by omega,lput_cons2,this]
theorem pgC_lay {g:List Pl} {m:Nat} (h:m<g.length) (q:Pl):lput (pgC g) (m*2) [.bool q.t,lV q.l]=pgC (g.set m q):=by
 induction g generalizing m with
 | nil=>simp at h
 | cons x r ih=>
  cases m with
  | zero=>rfl
  | succ m=>
   have:=ih (m:=m) (by simpa using h)
   show lput (.bool x.t::lV x.l::pgC r) _ _=.bool x.t::lV x.l::pgC (r.set m q)
   rw[show(m+1)*2=m*2+2 by omega,lput_cons2,this]
theorem pages_set (ps:List (List Pl)) (j:Nat) (g:List Pl):lset (ps.map pgD) j (DV.mk (pgC g) [])=(ps.set j g).map pgD:=by
 rw[lset_eq,List.map_set];rfl
theorem shut_sl (m:Name) (cap taken low:Int) (ps:List (List Pl)) {xs:List DV} (h:xs=ps.map pgD) {n:Nat} (hn:ps.length=n):Shut (slD cap taken low ps) [m] [i64V cap,i64V taken,i64V low,.rsl m 1 0 n] [.prow xs]:=by
 subst h hn
 exact⟨rfl,.cons (.refl _) .nil,by simp[slD,Deep.op,okC,okN],by simp[slD,Deep.op,okOb]⟩
theorem put_ok (cap taken low:Int) (ps:List (List Pl)) (hl:ps.length≤1000) (i:Int) (h0:0≤i) {g:List Pl} (hg:ps[i.toNat / 8]?=some g) {p:Pl} (hp:g[i.toNat % 8]?=some p) (ht:p.t=true) (l:List En) (hll:l.length≤1000) (hb:∀e∈l,EnOk e):ATriple Tryz.prog gv R0 129 [.ref (0,0) 0,i64V i,chV l] [.abs (slD cap taken low ps)] (.bool true) [.abs (slD cap taken low (ps.set (i.toNat / 8) (g.set (i.toNat % 8) ⟨true,some l⟩)))] (none):=by
 have hj:=(List.getElem?_eq_some_iff.1 hg).1
 have hm:=(List.getElem?_eq_some_iff.1 hp).1
 have hs:lset (ps.map pgD) (i.toNat / 8) (DV.mk (lput (pgC g) (i.toNat % 8*2+1) [lV (some l)]) [])=(ps.set (i.toNat / 8) (g.set (i.toNat % 8) ⟨true,some l⟩)).map pgD:=by rw[pgC_put hp,pages_set,ht]
 refine ATriple.of_bodyW (C:=cx3) Tryz.func129 rfl (by kernel_rfl) (mixedOf _) rfl (by simp[okA,okC,okN,pure_E,pure_nil]) (by simp[okOb,okC,okN,pure_E]) (by simp[okG,okA,okC,okN,pure_E,pure_nil]) (by simp[okOb,okC,okN,pure_E]) (fun o ho=>by cases ho) 1 [.opn (0,0) [18]] fun E hE=>?_
 repeat' (conv=>whnf);first
  | (refine bcase_of (fun hr=>?_) (fun hr=>?_)<;>try(exfalso;simp at hr;done))
  | (apply And.intro;· first|exact nd4|exact pure_E _|exact⟨by rw[pgC_length];show _+1≤_;omega,pure_E _⟩)
  | (apply Exists.intro;apply And.intro;· first|exact rfl|exact copy_ok l hll hb|exact pages_get hg)
  | (apply Exists.intro;apply Exists.intro;apply Exists.intro;apply And.intro;· first|(apply ATriple.callN (at_some cap taken low ps hl i h0 hg hp ht)<;>rfl))
  | fail
 refine⟨[.shut (0,0) (slD cap taken low (ps.set (i.toNat / 8) (g.set (i.toNat % 8) ⟨true,some l⟩)))],?_⟩
 conv=>whnf
 refine⟨shut_sl (19,1) cap taken low _ hs (by simp),?_⟩
 conv=>whnf
 exact⟨rfl,rfl⟩
end Go.Proofs.YtbppemcdphgknaaGreatDoor
namespace Go.Proofs.YtbppemcdphgknaaGreatDoor
open Go Go.Vm
def Fr (ps:List (List Pl)) (i:Int):Prop:=i<0∨ps.length*8≤i∨∃g p,0≤i∧ps[i.toNat / 8]?=some g∧g[i.toNat % 8]?=some p∧p.t=false
theorem at_none (cap taken low:Int) (ps:List (List Pl)) (hl:ps.length≤1000) (i:Int) (h:Fr ps i) :
  ATriple Tryz.prog gv R0 116 [.ref (0,0) 0,i64V i] [.box (slC (0,1) cap taken low ps),.prow (ps.map pgD)] .nilp [.box (slC (0,1) cap taken low ps),.prow (ps.map pgD)] none:=by
 rcases h with h|h|⟨g,p,h0,hg,hp,ht⟩
 ·exact at_out cap taken low ps hl i (.inl h)
 ·exact at_out cap taken low ps hl i (.inr h)
 ·exact at_free cap taken low ps hl i h0 hg hp ht
theorem get_no (cap taken low:Int) (ps:List (List Pl)) (hl:ps.length≤1000) (i:Int) (h:Fr ps i):ATriple Tryz.prog gv R0 74 [.ref (0,0) 0,i64V i] [.abs (slD cap taken low ps)] (.tup [.nils,.bool false]) [.abs (slD cap taken low ps)] (none):=by
 refine ATriple.of_bodyW (C:=cx3) Tryz.func74 rfl (by kernel_rfl) (mixedOf _) rfl (by simp[okA,okC,okN,pure_E,pure_nil]) (by simp[okOb,okC,okN,pure_E]) (by simp[okG,okA,okC,okN,pure_E,pure_nil]) (by simp[okOb,okC,okN,pure_E]) (fun o ho=>by cases ho) 1 [.opn (0,0) [17]] fun E hE=>?_
 repeat' (conv=>whnf);first
  | (refine bcase_of (fun hr=>?_) (fun hr=>?_)<;>try(exfalso;simp at hr;done))
  | (apply And.intro;· first|exact nd4)
  | (apply Exists.intro;apply And.intro;· first|exact rfl)
  | (apply Exists.intro;apply Exists.intro;apply Exists.intro;apply And.intro;· first|(apply ATriple.callN (at_none cap taken low ps hl i h)<;>rfl))
  | fail
 all_goals refine⟨[.shut (0,0) (slD (cap) (taken) (low) (ps))],?_⟩
 all_goals (conv=>whnf)
 all_goals refine⟨shut_sl (18,1) (cap) (taken) (low) _ (rfl) (by simp),?_⟩
 all_goals (conv=>whnf)
 all_goals exact⟨rfl,rfl⟩
theorem get_nil (cap taken low:Int) (ps:List (List Pl)) (hl:ps.length≤1000) (i:Int) (h0:0≤i) {g:List Pl} (hg:ps[i.toNat / 8]?=some g) {p:Pl} (hp:g[i.toNat % 8]?=some p) (ht:p.t=true) (hpl:p.l=none):ATriple Tryz.prog gv R0 74 [.ref (0,0) 0,i64V i] [.abs (slD cap taken low ps)] (.tup [chV [],.bool true]) [.abs (slD cap taken low ps)] (none):=by
 have hj:=(List.getElem?_eq_some_iff.1 hg).1
 have hm:=(List.getElem?_eq_some_iff.1 hp).1
 obtain⟨c1,c2⟩:=pgC_get hp
 rw[hpl] at c2
 have c3:PTriple Tryz.prog gv 117 [.nils] (chV []):=(copy_ok [] (by simp) (by simp)).of_nils
 refine ATriple.of_bodyW (C:=cx3) Tryz.func74 rfl (by kernel_rfl) (mixedOf _) rfl (by simp[okA,okC,okN,pure_E,pure_nil]) (by simp[okOb,okC,okN,pure_E]) (by simp[okG,okA,okC,okN,pure_E,pure_nil]) (by simp[okOb,okC,okN,pure_E]) (fun o ho=>by cases ho) 1 [.opn (0,0) [17]] fun E hE=>?_
 all_goals exact kb21
theorem get_ok (cap taken low:Int) (ps:List (List Pl)) (hl:ps.length≤1000) (i:Int) (h0:0≤i) {g:List Pl} (hg:ps[i.toNat / 8]?=some g) {p:Pl} (hp:g[i.toNat % 8]?=some p) (ht:p.t=true) {l:List En} (hpl:p.l=some l) (hll:l.length≤1000) (hb:∀e∈l,EnOk e):ATriple Tryz.prog gv R0 74 [.ref (0,0) 0,i64V i] [.abs (slD cap taken low ps)] (.tup [chV l,.bool true]) [.abs (slD cap taken low ps)] (none):=by
 have hj:=(List.getElem?_eq_some_iff.1 hg).1
 have hm:=(List.getElem?_eq_some_iff.1 hp).1
 obtain⟨c1,c2⟩:=pgC_get hp
 rw[hpl] at c2
 have c3:=copy_ok l hll hb
 refine ATriple.of_bodyW (C:=cx3) Tryz.func74 rfl (by kernel_rfl) (mixedOf _) rfl (by simp[okA,okC,okN,pure_E,pure_nil]) (by simp[okOb,okC,okN,pure_E]) (by simp[okG,okA,okC,okN,pure_E,pure_nil]) (by simp[okOb,okC,okN,pure_E]) (fun o ho=>by cases ho) 1 [.opn (0,0) [17]] fun E hE=>?_
 all_goals exact kb21
theorem free_ok (cap taken low:Int) (ps:List (List Pl)) (hl:ps.length≤1000) (i:Int) (h0:0≤i) {g:List Pl} (hg:ps[i.toNat / 8]?=some g) {p:Pl} (hp:g[i.toNat % 8]?=some p) (ht:p.t=true):ATriple Tryz.prog gv R0 126 [.ref (0,0) 0,i64V i] [.abs (slD cap taken low ps)] (.bool true) [.abs (slD cap (IntKind.i64.wrap (taken-1)) (if i<low then i else low) (ps.set (i.toNat / 8) (g.set (i.toNat % 8) ⟨false,none⟩)))] (none):=by
 have hj:=(List.getElem?_eq_some_iff.1 hg).1
 have hm:=(List.getElem?_eq_some_iff.1 hp).1
 have hs:lset (ps.map pgD) (i.toNat / 8) (DV.mk (lput (pgC g) (i.toNat % 8*2) [.bool false,lV none]) [])=(ps.set (i.toNat / 8) (g.set (i.toNat % 8) ⟨false,none⟩)).map pgD:=by rw[pgC_lay hm ⟨false,none⟩,pages_set]
 refine ATriple.of_bodyW (C:=cx3) Tryz.func126 rfl (by kernel_rfl) (mixedOf _) rfl (by simp[okA,okC,okN,pure_E,pure_nil]) (by simp[okOb,okC,okN,pure_E]) (by simp[okG,okA,okC,okN,pure_E,pure_nil]) (by simp[okOb,okC,okN,pure_E]) (fun o ho=>by cases ho) 1 [.opn (0,0) [30]] fun E hE=>?_
 repeat' (conv=>whnf);first
  | (refine bcase_of (fun hr=>?_) (fun hr=>?_)<;>try(exfalso;simp at hr;done))
  | (apply And.intro;· first|exact nd4|exact⟨by rw[pgC_length];show _+2≤_;omega,trivial,trivial⟩)
  | (apply Exists.intro;apply And.intro;· first|exact rfl|exact pages_get hg)
  | (apply Exists.intro;apply Exists.intro;apply Exists.intro;apply And.intro;· first|(apply ATriple.callN (at_some cap taken low ps hl i h0 hg hp ht)<;>rfl))
  | fail
 all_goals refine⟨[.shut (0,0) (slD (cap) (IntKind.i64.wrap (taken-1)) (if i<low then i else low) (ps.set (i.toNat / 8) (g.set (i.toNat % 8) ⟨false,none⟩)))],?_⟩
 all_goals (conv=>whnf)
 all_goals refine⟨shut_sl (31,1) (cap) (IntKind.i64.wrap (taken-1)) (if i<low then i else low) _ (hs) (by simp),?_⟩
 all_goals (conv=>whnf)
 all_goals exact⟨rfl,rfl⟩
end Go.Proofs.YtbppemcdphgknaaGreatDoor
namespace Go.Proofs.YtbppemcdphgknaaGreatDoor
open Go Go.Vm
def capOf (n:Int):Int:=if(if 2000<n then 2000 else n)>0 then(if 2000<n then 2000 else n) else 0
theorem new_ok (n:Int):ATriple Tryz.prog gv R0 82 [i64V n] [] (.ref (0,0) 0) [] (some (.abs (slD (capOf n) 0 0 []))):=by
 refine ATriple.of_bodyW (C:=cx3) Tryz.func82 rfl (by kernel_rfl) (mixedOf _) rfl (by simp[okA,okC,okN,pure_E,pure_nil]) (by simp[okOb,okC,okN,pure_E]) (by simp[okG,okA,okC,okN,pure_E,pure_nil]) (by simp[okOb,okC,okN,pure_E]) (fun o ho=>by cases ho;exact⟨trivial,rfl⟩) 1 [] fun E hE=>?_
 repeat' (conv=>whnf);first
  | (refine bcase_of (fun hr=>?_) (fun hr=>?_)<;>try(exfalso;simp at hr;done))
  | (apply And.intro;· first|exact nd1)
  | (apply Exists.intro;apply And.intro;· first|exact rfl)
  | fail
 all_goals refine⟨[.nilp (8,1) 3 8,.shut (8,1) (slD (capOf n) 0 0 [])],?_⟩
 all_goals (conv=>whnf)
 all_goals refine⟨rfl,?_⟩
 all_goals (conv=>whnf)
 all_goals refine⟨shut_sl (9,1) (capOf n) 0 0 [] rfl rfl,?_⟩
 all_goals (conv=>whnf)
 all_goals exact⟨(8,1),by decide,rfl,rfl,rfl,rfl⟩
end Go.Proofs.YtbppemcdphgknaaGreatDoor
namespace Go.Proofs.YtbppemcdphgknaaGreatDoor
open Go Go.Vm
def Tk (ps:List (List Pl)) (i:Int):Prop:=∃g p,ps[i.toNat / 8]?=some g∧g[i.toNat % 8]?=some p∧p.t=true
def stTake (cap taken low:Int) (ps:List (List Pl)) (i:Int):St DV:=mkStX 73 1 [(0,.ref (0,0) 0),(4,i64V i)] [(73,.prow (ps.map pgD))] [some (.box (slC (74,1) cap taken low ps))]
def newPg:List Pl:=⟨true,none⟩::List.replicate 7 ⟨false,none⟩
theorem zero_ok:okCs [.bool false,.nils,.bool false,.nils,.bool false,.nils,.bool false,.nils,.bool false,.nils,.bool false,.nils,.bool false,.nils,.bool false,.nils]:=by simp[okCs,okC]
theorem take_full (cap taken low:Int) (ps:List (List Pl)) (h:cap≤taken):ATriple Tryz.prog gv R0 127 [.ref (0,0) 0] [.abs (slD cap taken low ps)] (.tup [i64V 0,.bool false]) [.abs (slD cap taken low ps)] (none):=by
 refine ATriple.of_bodyW (C:=cx3) Tryz.func127 rfl (by kernel_rfl) (mixedOf _) rfl (by simp[okA,okC,okN,pure_E,pure_nil]) (by simp[okOb,okC,okN,pure_E]) (by simp[okG,okA,okC,okN,pure_E,pure_nil]) (by simp[okOb,okC,okN,pure_E]) (fun o ho=>by cases ho) 1 [.opn (0,0) [73]] fun E hE=>?_
 repeat' (conv=>whnf);first
  | (refine bcase_of (fun hr=>?_) (fun hr=>?_)<;>try(exfalso;simp at hr;omega))
  | (apply And.intro;· first|exact nd4)
  | (apply Exists.intro;apply And.intro;· first|exact rfl)
  | fail
 all_goals refine⟨[.shut (0,0) (slD (cap) (taken) (low) (ps))],?_⟩
 all_goals (conv=>whnf)
 all_goals refine⟨shut_sl (74,1) (cap) (taken) (low) _ (rfl) (by simp),?_⟩
 all_goals (conv=>whnf)
 all_goals exact⟨rfl,rfl⟩
theorem take_old (cap taken low:Int) (ps:List (List Pl)) (hl:ps.length≤900) (hl0:0≤low) (hc:taken<cap) (k:Int) (hk:low≤k) (hT:∀j,low≤j→j<k→Tk ps j) {G:List Pl} (hG:ps[k.toNat / 8]?=some G) (hG8:G.length=8) (hF:Fr ps k):ATriple Tryz.prog gv R0 127 [.ref (0,0) 0] [.abs (slD cap taken low ps)] (.tup [i64V k,.bool true]) [.abs (slD cap (IntKind.i64.wrap (taken+1)) (IntKind.i64.wrap (k+1)) (ps.set (k.toNat / 8) (G.set (k.toNat % 8) ⟨true,none⟩)))] (none):=by
 have hl:ps.length≤1000:=by omega
 have hj:=(List.getElem?_eq_some_iff.1 hG).1
 have hs:lset (ps.map pgD) (k.toNat / 8) (DV.mk (lput (pgC G) (k.toNat % 8*2) [.bool true,lV none]) [])=(ps.set (k.toNat / 8) (G.set (k.toNat % 8) ⟨true,none⟩)).map pgD:=by rw[pgC_lay (by omega) ⟨true,none⟩,pages_set]
 refine ATriple.of_bodyW (C:=cx3) Tryz.func127 rfl (by kernel_rfl) (mixedOf _) rfl (by simp[okA,okC,okN,pure_E,pure_nil]) (by simp[okOb,okC,okN,pure_E]) (by simp[okG,okA,okC,okN,pure_E,pure_nil]) (by simp[okOb,okC,okN,pure_E]) (fun o ho=>by cases ho) 1 [.opn (0,0) [73]] fun E hE=>?_
 repeat' (conv=>whnf);first
  | (refine bcase_of (fun hr=>?_) (fun hr=>?_)<;>try(exfalso;simp at hr;omega))
  | (apply And.intro;· first|exact nd4)
  | (apply Exists.intro;apply And.intro;· first|exact rfl)
  | fail
 all_goals (conv=>whnf)
 refine VLoop.norm [0,4] [73] ?_
 conv=>whnf
 refine VLoop.inv (fun i:Int=>stTake cap taken low ps i) (fun i=>low≤i∧i≤k) (fun i=>(k-i).toNat) low ⟨Int.le_refl _,hk⟩ rfl ?_
 intro i hi ih
 by_cases hik:i<k
 case pos=>
  obtain⟨g,p,hg,hp,ht⟩:=hT i hi.1 hik
  have hw:IntKind.i64.wrap (i+1)=i+1:=wrap64 (by omega) (by omega)
  refine VLoop.unroll hE (mixedOf _) ?_
  repeat' (conv=>whnf);first
   | (refine bcase_of (fun hr=>?_) (fun hr=>?_)<;>try(exfalso;simp at hr;done))
   | (apply And.intro;· first|exact nd1)
   | (apply Exists.intro;apply And.intro;· first|exact rfl)
   | (apply Exists.intro;apply Exists.intro;apply Exists.intro;apply And.intro;· first|(apply ATriple.callN (at_some cap taken low ps hl i (by omega) hg hp ht)<;>rfl))
   | fail
  all_goals (conv=>whnf)
  refine VLoop.norm [0,4] [73] ?_
  conv=>whnf
  exact ih (IntKind.i64.wrap (i+1)) ⟨by omega,by omega⟩ (by omega)
 case neg=>
  obtain rfl:i=k:=by omega
  clear ih
  have hd:=div8 (i:=i) (by omega) (by omega)
  have hm:=mod8 (i:=i) (by omega)
  refine VLoop.unroll hE (mixedOf _) ?_
  repeat' (conv=>whnf);first
   | (refine bcase_of (fun hr=>?_) (fun hr=>?_)<;>try(exfalso;simp at hr;rw[hd] at hr;omega))
   | (apply And.intro;· first|exact nd1|exact⟨by rw[hd];omega,by rw[hd];omega⟩|exact⟨by rw[hm];omega,by rw[hm];omega⟩|(rw[hd,Int.toNat_natCast,Nat.zero_add,List.length_map];exact hj)|exact⟨by rw[pgC_length,hm];show 0+((i.toNat % 8:Nat):Int).toNat*2+2≤G.length*2;omega,trivial,trivial⟩)
   | (apply Exists.intro;apply And.intro;· first|exact rfl|(rw[hd,Nat.zero_add,Int.toNat_natCast];exact pages_get hG))
   | (apply Exists.intro;apply Exists.intro;apply Exists.intro;apply And.intro;· first|(apply ATriple.callN (at_none cap taken low ps hl i hF)<;>rfl))
   | fail
  refine⟨[.shut (0,0) (slD cap (IntKind.i64.wrap (taken+1)) (IntKind.i64.wrap (i+1)) (ps.set (i.toNat / 8) (G.set (i.toNat % 8) ⟨true,none⟩)))],?_⟩
  conv=>whnf
  refine⟨shut_sl (74,1) _ _ _ _ (by rw[hd,hm,Nat.zero_add,Nat.zero_add,Int.toNat_natCast,Int.toNat_natCast];exact hs) (by simp),?_⟩
  conv=>whnf
  exact⟨rfl,rfl⟩
theorem take_new (cap taken low:Int) (ps:List (List Pl)) (hl:ps.length≤900) (hl0:0≤low) (hc:taken<cap) (k:Int) (hk:low≤k) (hT:∀j,low≤j→j<k→Tk ps j) (hk8:k=ps.length*8) (hF:Fr ps k):ATriple Tryz.prog gv R0 127 [.ref (0,0) 0] [.abs (slD cap taken low ps)] (.tup [i64V k,.bool true]) [.abs (slD cap (IntKind.i64.wrap (taken+1)) (IntKind.i64.wrap (k+1)) (ps++[newPg]))] (none):=by
 have hl:ps.length≤1000:=by omega
 refine ATriple.of_bodyW (C:=cx3) Tryz.func127 rfl (by kernel_rfl) (mixedOf _) rfl (by simp[okA,okC,okN,pure_E,pure_nil]) (by simp[okOb,okC,okN,pure_E]) (by simp[okG,okA,okC,okN,pure_E,pure_nil]) (by simp[okOb,okC,okN,pure_E]) (fun o ho=>by cases ho) 1 [.opn (0,0) [73]] fun E hE=>?_
 repeat' (conv=>whnf);first
  | (refine bcase_of (fun hr=>?_) (fun hr=>?_)<;>try(exfalso;simp at hr;omega))
  | (apply And.intro;· first|exact nd4)
  | (apply Exists.intro;apply And.intro;· first|exact rfl)
  | fail
 all_goals (conv=>whnf)
 refine VLoop.norm [0,4] [73] ?_
 conv=>whnf
 refine VLoop.inv (fun i:Int=>stTake cap taken low ps i) (fun i=>low≤i∧i≤k) (fun i=>(k-i).toNat) low ⟨Int.le_refl _,hk⟩ rfl ?_
 intro i hi ih
 by_cases hik:i<k
 case pos=>
  obtain⟨g,p,hg,hp,ht⟩:=hT i hi.1 hik
  have hw:IntKind.i64.wrap (i+1)=i+1:=wrap64 (by omega) (by omega)
  refine VLoop.unroll hE (mixedOf _) ?_
  repeat' (conv=>whnf);first
   | (refine bcase_of (fun hr=>?_) (fun hr=>?_)<;>try(exfalso;simp at hr;done))
   | (apply And.intro;· first|exact nd1)
   | (apply Exists.intro;apply And.intro;· first|exact rfl)
   | (apply Exists.intro;apply Exists.intro;apply Exists.intro;apply And.intro;· first|(apply ATriple.callN (at_some cap taken low ps hl i (by omega) hg hp ht)<;>rfl))
   | fail
  all_goals (conv=>whnf)
  refine VLoop.norm [0,4] [73] ?_
  conv=>whnf
  exact ih (IntKind.i64.wrap (i+1)) ⟨by omega,by omega⟩ (by omega)
 case neg=>
  obtain rfl:i=k:=by omega
  clear ih
  have hd:=div8 (i:=i) (by omega) (by omega)
  have hm:=mod8 (i:=i) (by omega)
  refine VLoop.unroll hE (mixedOf _) ?_
  have hq:i.toNat / 8=ps.length:=by omega
  have hr0:i.toNat % 8=0:=by omega
  rw[hq] at hd
  rw[hr0] at hm
  have hlast:lget (ps.map pgD++[DV.mk [.bool false,.nils,.bool false,.nils,.bool false,.nils,.bool false,.nils,.bool false,.nils,.bool false,.nils,.bool false,.nils,.bool false,.nils] []]) ps.length=some (DV.mk [.bool false,.nils,.bool false,.nils,.bool false,.nils,.bool false,.nils,.bool false,.nils,.bool false,.nils,.bool false,.nils,.bool false,.nils] []):=by rw[lget_eq,List.getElem?_append_right (by simp)];simp
  have hs:lset (ps.map pgD++[DV.mk [.bool false,.nils,.bool false,.nils,.bool false,.nils,.bool false,.nils,.bool false,.nils,.bool false,.nils,.bool false,.nils,.bool false,.nils] []]) ps.length (pgD newPg)=(ps++[newPg]).map pgD:=by
   rw[lset_eq,List.set_append_right _ _ (by simp)];simp
  repeat' (conv=>whnf);first
   | (refine bcase_of (fun hr=>?_) (fun hr=>?_)<;>try(exfalso;simp at hr;rw[hd] at hr;omega))
   | (apply And.intro;· first|exact nd1|exact zero_ok|exact⟨by simp,by show(ps.length+1)*8≤roomBound;unfold roomBound;omega,by unfold roomBound;omega⟩|exact⟨by rw[hd];omega,by rw[hd];omega⟩|exact⟨by rw[hm];omega,by rw[hm];omega⟩|(rw[hd,Int.toNat_natCast,Nat.zero_add];simp)|exact⟨by rw[hm];decide,trivial,trivial⟩)
   | (apply Exists.intro;apply And.intro;· first|exact rfl|(rw[hd,Nat.zero_add,Int.toNat_natCast];exact hlast))
   | (apply Exists.intro;apply Exists.intro;apply Exists.intro;apply And.intro;· first|(apply ATriple.callN (at_none cap taken low ps hl i hF)<;>rfl))
   | fail
  refine⟨[.shut (0,0) (slD cap (IntKind.i64.wrap (taken+1)) (IntKind.i64.wrap (i+1)) (ps++[newPg]))],?_⟩
  conv=>whnf
  refine⟨shut_sl (45,1) _ _ _ _ (by rw[hd,hm,Nat.zero_add,Int.toNat_natCast];exact hs) (by simp),?_⟩
  conv=>whnf
  exact⟨rfl,rfl⟩
end Go.Proofs.YtbppemcdphgknaaGreatDoor
namespace Go.Proofs.YtbppemcdphgknaaGreatDoor
open Go Go.Vm
def ff:List Pl→Nat
 | []=>0
 | p::r=>if p.t then ff r+1 else 0
def tk:List Pl→List Pl
 | []=>newPg
 | p::r=>if p.t then p::tk r else⟨true,none⟩::r
theorem ff_le:∀L:List Pl,ff L≤L.length
 | []=>Nat.le_refl _
 | p::r=>by
  have:=ff_le r
  simp only[ff];split<;>simp<;>omega
theorem ff_before:∀(L:List Pl) (i:Nat),i<ff L→∃p,L[i]?=some p∧p.t=true
 | [],i,h=>by simp[ff] at h
 | p::r,i,h=>by
  simp only[ff] at h
  split at h
  ·rename_i hp
   cases i with
   | zero=>exact⟨p,rfl,hp⟩
   | succ i=>obtain⟨q,h1,h2⟩:=ff_before r i (by omega);exact⟨q,by simpa using h1,h2⟩
  ·omega
theorem ff_at:∀(L:List Pl),ff L<L.length→∃p,L[ff L]?=some p∧p.t=false
 | [],h=>by simp[ff] at h
 | p::r,h=>by
  simp only[ff] at h ⊢
  split at h
  ·rename_i hp
   rw[if_pos hp]
   obtain⟨q,h1,h2⟩:=ff_at r (by simpa using h)
   exact⟨q,by simpa using h1,h2⟩
  ·rename_i hp
   rw[if_neg hp]
   exact⟨p,rfl,by simpa using hp⟩
theorem tk_eq:∀L:List Pl,tk L=if ff L<L.length then L.set (ff L) ⟨true,none⟩ else L++newPg
 | []=>rfl
 | p::r=>by
  simp only[tk,ff]
  split
  ·rw[tk_eq r]
   by_cases h:ff r<r.length
   ·rw[if_pos h,if_pos (by simpa using h)];rfl
   ·rw[if_neg h,if_neg (by simpa using h)];rfl
  ·rw[if_pos (by simp)];rfl
theorem chunks_len {α:Type} (sz:Nat):∀(n:Nat) (l:List α),(chunks sz n l).length=n
 | 0,_=>rfl
 | n+1,l=>by simp[chunks,chunks_len sz n]
theorem chunks_get {α:Type} (sz:Nat):∀(n:Nat) (l:List α) (j:Nat),j<n→(chunks sz n l)[j]?=some ((l.drop (j*sz)).take sz)
 | 0,_,j,h=>by omega
 | n+1,l,0,_=>by simp[chunks]
 | n+1,l,j+1,h=>by
  simp only[chunks,List.getElem?_cons_succ]
  rw[chunks_get sz n _ j (by omega),List.drop_drop]
  congr 3
  rw[Nat.succ_mul];omega
def pg (L:List Pl):List (List Pl):=chunks 8 (L.length / 8) L
theorem pg_len (L:List Pl):(pg L).length=L.length / 8:=chunks_len 8 _ _
theorem pg_get {L:List Pl} (hL:L.length % 8=0) {i:Nat} (hi:i<L.length):∃g,(pg L)[i / 8]?=some g∧g.length=8∧∀m,m<8→g[m]?=L[i / 8*8+m]?:=by
 refine⟨_,chunks_get 8 _ L (i / 8) (by omega),by simp;omega,fun m hm=>?_⟩
 rw[List.getElem?_take,if_pos hm,List.getElem?_drop]
theorem pg_place {L:List Pl} (hL:L.length % 8=0) {i:Nat} {p:Pl} (hi:L[i]?=some p):∃g,(pg L)[i / 8]?=some g∧g.length=8∧g[i % 8]?=some p:=by
 obtain⟨g,h1,h2,h3⟩:=pg_get hL (List.getElem?_eq_some_iff.1 hi).1
 refine⟨g,h1,h2,?_⟩
 rw[h3 _ (by omega),←hi]
 congr 1;omega
theorem pg_set {L:List Pl} (hL:L.length % 8=0) {i:Nat} (hi:i<L.length) {g:List Pl} (hg:(pg L)[i / 8]?=some g) (p:Pl):(pg L).set (i / 8) (g.set (i % 8) p)=pg (L.set i p):=by
 obtain⟨g',h1,h2,h3⟩:=pg_get hL hi
 rw[hg] at h1;cases h1
 have hl:(L.set i p).length=L.length:=by simp
 refine List.ext_getElem? fun j=>?_
 by_cases hj:j<L.length / 8
 ·have e1:=chunks_get 8 (L.length / 8) (L.set i p) j hj
  have e2:=chunks_get 8 (L.length / 8) L j hj
  rw[List.getElem?_set]
  show _=(chunks 8 ((L.set i p).length / 8) (L.set i p))[j]?
  rw[hl,e1]
  by_cases hji:i / 8=j
  ·rw[if_pos hji,if_pos (by rw[pg_len];omega)]
   congr 1
   refine List.ext_getElem? fun m=>?_
   rw[List.getElem?_set,List.getElem?_take,List.getElem?_drop,List.getElem?_set]
   by_cases hm:m<8
   ·rw[if_pos hm]
    by_cases hmi:i % 8=m
    ·rw[if_pos hmi,if_pos (by omega),if_pos (by omega),if_pos (by omega)]
    ·rw[if_neg hmi,if_neg (by omega),h3 m hm,hji]
   ·rw[if_neg hm]
    by_cases hmi:i % 8=m
    ·omega
    ·rw[if_neg hmi,List.getElem?_eq_none (by omega)]
  ·rw[if_neg hji]
   show(pg L)[j]?=_
   unfold pg
   rw[e2]
   congr 1
   refine List.ext_getElem? fun m=>?_
   rw[List.getElem?_take,List.getElem?_drop,List.getElem?_take,List.getElem?_drop,List.getElem?_set]
   split
   ·rw[if_neg (by omega)]
   ·rfl
 ·rw[List.getElem?_eq_none (by rw[List.length_set,pg_len];omega),List.getElem?_eq_none (by rw[pg_len,hl];omega)]
theorem pg_app {L:List Pl} (hL:L.length % 8=0):pg (L++newPg)=pg L++[newPg]:=by
 have hl:(L++newPg).length / 8=L.length / 8+1:=by rw[List.length_append];show(L.length+8) / 8=_;omega
 refine List.ext_getElem? fun j=>?_
 unfold pg
 rw[hl]
 by_cases hj:j<L.length / 8
 ·rw[chunks_get 8 _ _ j (by omega),List.getElem?_append_left (by rw[chunks_len];exact hj),chunks_get 8 _ _ j hj,List.drop_append_of_le_length (by omega),List.take_append_of_le_length (by simp;omega)]
 ·by_cases hj2:j=L.length / 8
  ·subst hj2
   rw[chunks_get 8 _ _ _ (by omega),List.getElem?_append_right (by rw[chunks_len];exact Nat.le_refl _),chunks_len]
   have:L.length / 8*8=L.length:=by omega
   rw[this,List.drop_left]
   simp[newPg]
  ·rw[List.getElem?_eq_none (by rw[chunks_len];omega),List.getElem?_eq_none (by simp[chunks_len];omega)]
def slF (cap taken low:Int) (L:List Pl):DV:=slD cap taken low (pg L)
structure Inv (low:Int) (L:List Pl):Prop where
 len:L.length % 8=0
 max:L.length≤4000
 low0:0≤low
 low1:low≤ff L
theorem Inv.pgl {low:Int} {L:List Pl} (h:Inv low L):(pg L).length≤900:=by rw[pg_len];have:=h.max;omega
theorem Inv.tkn {low:Int} {L:List Pl} (h:Inv low L) (j:Int) (h1:0≤j) (h2:j<ff L):Tk (pg L) j:=by
 obtain⟨p,q1,q2⟩:=ff_before L j.toNat (by omega)
 obtain⟨g,q3,q4,q5⟩:=pg_place h.len q1
 exact⟨g,p,q3,q5,q2⟩
theorem Inv.free {low:Int} {L:List Pl} (h:Inv low L) {i:Int} (hi:i<0∨∀p,L[i.toNat]?=some p→p.t=false):Fr (pg L) i:=by
 by_cases h0:i<0
 ·exact .inl h0
 ·by_cases h1:i.toNat<L.length
  ·obtain⟨g,q3,q4,q5⟩:=pg_place h.len (List.getElem?_eq_getElem h1)
   refine .inr (.inr ⟨g,_,by omega,q3,q5,?_⟩)
   rcases hi with hi|hi
   ·exact absurd hi h0
   ·exact hi _ (List.getElem?_eq_getElem h1)
  ·have:=h.len
   exact .inr (.inl (by rw[pg_len];omega))
theorem takeF {cap taken low:Int} {L:List Pl} (h:Inv low L) (hc:taken<cap):ATriple Tryz.prog gv R0 127 [.ref (0,0) 0] [.abs (slF cap taken low L)] (.tup [i64V (ff L),.bool true]) [.abs (slF cap (IntKind.i64.wrap (taken+1)) (IntKind.i64.wrap ((ff L:Int)+1)) (tk L))] none:=by
 have hff:=ff_le L
 have hlen:=h.len
 rw[tk_eq]
 by_cases hlt:ff L<L.length
 ·rw[if_pos hlt]
  obtain⟨p,q1,q2⟩:=ff_at L hlt
  obtain⟨g,q3,q4,q5⟩:=pg_place h.len q1
  have:=take_old cap taken low (pg L) h.pgl h.low0 hc (ff L) h.low1 (fun j h1 h2=>h.tkn j (by have:=h.low0;omega) h2) (G:=g) (by simpa using q3) q4 (h.free (.inr fun p' hp'=>by
   rw[Int.toNat_natCast,q1] at hp';cases hp';exact q2))
  rw[Int.toNat_natCast,pg_set h.len hlt q3] at this
  exact this
 ·rw[if_neg hlt]
  have hk:ff L=L.length:=by omega
  have:=take_new cap taken low (pg L) h.pgl h.low0 hc (ff L) h.low1 (fun j h1 h2=>h.tkn j (by have:=h.low0;omega) h2) (by rw[pg_len,hk];omega) (h.free (.inr fun p' hp'=>by
   rw[Int.toNat_natCast,hk,List.getElem?_eq_none (Nat.le_refl _)] at hp';cases hp'))
  rw[←pg_app h.len] at this
  exact this
theorem takeFull {cap taken low:Int} {L:List Pl} (hc:cap≤taken):ATriple Tryz.prog gv R0 127 [.ref (0,0) 0] [.abs (slF cap taken low L)] (.tup [i64V 0,.bool false]) [.abs (slF cap taken low L)] none:=take_full cap taken low (pg L) hc
def Has (L:List Pl) (i:Int):Prop:=0≤i∧∃p,L[i.toNat]?=some p∧p.t=true
theorem freeF {cap taken low:Int} {L:List Pl} (h:Inv low L) {i:Int} (hi:Has L i):ATriple Tryz.prog gv R0 126 [.ref (0,0) 0,i64V i] [.abs (slF cap taken low L)] (.bool true) [.abs (slF cap (IntKind.i64.wrap (taken-1)) (if i<low then i else low) (L.set i.toNat ⟨false,none⟩))] none:=by
 obtain⟨h0,p,h1,h2⟩:=hi
 obtain⟨g,q3,q4,q5⟩:=pg_place h.len h1
 have:=free_ok cap taken low (pg L) (by have:=h.pgl;omega) i h0 q3 q5 h2
 rw[pg_set h.len (List.getElem?_eq_some_iff.1 h1).1 q3] at this
 exact this
theorem putF {cap taken low:Int} {L:List Pl} (h:Inv low L) {i:Int} (hi:Has L i) (l:List En) (hll:l.length≤1000) (hb:∀e∈l,EnOk e):ATriple Tryz.prog gv R0 129 [.ref (0,0) 0,i64V i,chV l] [.abs (slF cap taken low L)] (.bool true) [.abs (slF cap taken low (L.set i.toNat ⟨true,some l⟩))] none:=by
 obtain⟨h0,p,h1,h2⟩:=hi
 obtain⟨g,q3,q4,q5⟩:=pg_place h.len h1
 have:=put_ok cap taken low (pg L) (by have:=h.pgl;omega) i h0 q3 q5 h2 l hll hb
 rw[pg_set h.len (List.getElem?_eq_some_iff.1 h1).1 q3] at this
 exact this
theorem getF {cap taken low:Int} {L:List Pl} (h:Inv low L) {i:Int} (h0:0≤i) {p:Pl} (h1:L[i.toNat]?=some p) (h2:p.t=true) (hll:(p.l.getD []).length≤1000) (hb:∀e∈p.l.getD [],EnOk e) :
  ATriple Tryz.prog gv R0 74 [.ref (0,0) 0,i64V i] [.abs (slF cap taken low L)] (.tup [chV (p.l.getD []),.bool true]) [.abs (slF cap taken low L)] none:=by
 obtain⟨g,q3,q4,q5⟩:=pg_place h.len h1
 cases hpl:p.l with
 | none=>exact get_nil cap taken low (pg L) (by have:=h.pgl;omega) i h0 q3 q5 h2 hpl
 | some l=>rw[hpl] at hll hb;exact get_ok cap taken low (pg L) (by have:=h.pgl;omega) i h0 q3 q5 h2 hpl hll hb
def No (L:List Pl) (i:Int):Prop:=i<0∨∀p,L[i.toNat]?=some p→p.t=false
theorem newF (n:Int):ATriple Tryz.prog gv R0 82 [i64V n] [] (.ref (0,0) 0) [] (some (.abs (slF (capOf n) 0 0 []))):=new_ok n
theorem ff_take (L:List Pl):ff L<ff (tk L):=by
 induction L with
 | nil=>simp[ff,tk,newPg]
 | cons p r ih=>
  by_cases h:p.t=true
  ·simp[tk,ff,h,ih]
  ·have:p.t=false:=by simpa using h
   simp[tk,ff,this]
theorem tk_len (L:List Pl):(tk L).length=if ff L<L.length then L.length else L.length+8:=by
 rw[tk_eq];split<;>simp[newPg]
theorem Inv.take {low:Int} {L:List Pl} (h:Inv low L) (hm:L.length≤3992):Inv ((ff L:Int)+1) (tk L) where
 len:=by rw[tk_len];have:=h.len;split<;>omega
 max:=by rw[tk_len];split<;>omega
 low0:=by omega
 low1:=by have:=ff_take L;omega
theorem Inv.set {low:Int} {L:List Pl} (h:Inv low L) (i:Nat) (l:Option (List En)):Inv low (L.set i ⟨true,l⟩) where
 len:=by simpa using h.len
 max:=by simpa using h.max
 low0:=h.low0
 low1:=by
  have h1:=h.low1
  have hb:=ff_before L
  have:ff L≤ff (L.set i ⟨true,l⟩):=by
   have hle:=ff_le L
   rcases Nat.lt_or_ge (ff (L.set i ⟨true,l⟩)) (ff L) with h2|h2
   ·exfalso
    obtain⟨p,q1,q2⟩:=ff_at (L.set i ⟨true,l⟩) (by simp;omega)
    obtain⟨p',q3,q4⟩:=hb _ h2
    rw[List.getElem?_set] at q1
    split at q1
    ·split at q1
     ·cases q1;cases q2
     ·cases q1
    ·rw[q3] at q1;cases q1;rw[q2] at q4;cases q4
   ·exact h2
  omega
theorem Inv.unset {low:Int} {L:List Pl} (h:Inv low L) {i:Int} (hi:Has L i):Inv (if i<low then i else low) (L.set i.toNat ⟨false,none⟩) where
 len:=by simpa using h.len
 max:=by simpa using h.max
 low0:=by have:=h.low0;have:=hi.1;split<;>omega
 low1:=by
  obtain⟨h0,p,h1,h2⟩:=hi
  have hlt:=(List.getElem?_eq_some_iff.1 h1).1
  have hl:=h.low1
  have:(if i<low then i else low)≤(ff (L.set i.toNat ⟨false,none⟩):Int):=by
   by_cases hf:ff (L.set i.toNat ⟨false,none⟩)<L.length
   ·obtain⟨q,q1,q2⟩:=ff_at (L.set i.toNat ⟨false,none⟩) (by simpa using hf)
    rw[List.getElem?_set] at q1
    split at q1
    ·rename_i e;split<;>omega
    ·by_cases hlo:(ff (L.set i.toNat ⟨false,none⟩):Int)<low
     ·obtain⟨p',q3,q4⟩:=ff_before L _ (show ff (L.set i.toNat ⟨false,none⟩)<ff L by omega)
      rw[q3] at q1;cases q1;rw[q2] at q4;cases q4
     ·split<;>omega
   ·have:=ff_le L
    split<;>omega
  exact this
end Go.Proofs.YtbppemcdphgknaaGreatDoor
