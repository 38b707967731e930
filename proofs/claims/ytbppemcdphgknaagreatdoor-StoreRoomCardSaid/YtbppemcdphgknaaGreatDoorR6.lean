/- A part of the proofs over the seat YtbppemcdphgknaaGreatDoor. -/
import Derived.Test.YtbppemcdphgknaaGreatDoorR5
set_option linter.unusedVariables false
set_option linter.unusedSimpArgs false
set_option maxRecDepth 100000
set_option maxHeartbeats 40000000
namespace Go.Proofs.YtbppemcdphgknaaGreatDoor.T
open Go Go.Vm
set_option maxRecDepth 100000
set_option maxHeartbeats 40000000
set_option linter.unusedSimpArgs false
set_option linter.unusedVariables false
structure Ch where
 x:Int
 p:Nat
 S:List Nat
 ks:PL
def nodeB (cs:List Ch):PL:=cs.map fun c=>(c.x,(c.p:Int))
def sz (L:List PL) (p:Nat):Nat:=(L[p]?.getD []).length
def lowE (L:List PL) (p:Nat) (x:Int):Prop:=∀e∈L[p]?.getD [],x≤e.1
def Sub (L:List PL):Nat→Nat→List Nat→PL→Prop
 | 0,a,S,ks=>S=[a]∧L[a]?=some ks∧Lg ks
 | h+1,a,S,ks=>∃cs:List Ch,L[a]?=some (nodeB cs)∧Lg (nodeB cs)∧cs≠[]∧S=a::cs.flatMap (·.S)∧ks=cs.flatMap (·.ks)∧(∀c∈cs,Sub L h c.p c.S c.ks∧3≤sz L c.p∧lowE L c.p c.x)∧
   (∀c∈cs,∀e∈c.ks,c.x≤e.1)∧cs.Pairwise (fun c d=>∀e∈c.ks,e.1<d.x)
theorem Sub.root:∀{L:List PL} {h a:Nat} {S:List Nat} {ks:PL},Sub L h a S ks→a∈S
 | _,0,_,_,_,h=>by rw[h.1];simp
 | _,_+1,_,_,_,h=>by obtain⟨cs,_,_,_,h,_⟩:=h;rw[h];simp
theorem Sub.lt:∀{L:List PL} {h a:Nat} {S:List Nat} {ks:PL},Sub L h a S ks→∀p∈S,p<L.length
 | _,0,_,_,_,h,p,hp=>by
  obtain⟨rfl,h,_⟩:=h
  obtain rfl:p=_:=by simpa using hp
  exact(List.getElem?_eq_some_iff.1 h).1
 | L,h+1,a,_,_,hs,p,hp=>by
  obtain⟨cs,h1,_,_,rfl,_,h2,_⟩:=hs
  rcases List.mem_cons.1 hp with rfl|hp
  ·exact(List.getElem?_eq_some_iff.1 h1).1
  ·obtain⟨c,hc,hp⟩:=List.mem_flatMap.1 hp
   exact(h2 c hc).1.lt p hp
theorem sz_congr {L L':List PL} {p:Nat} (h:L'[p]?=L[p]?):sz L' p=sz L p:=by unfold sz;rw[h]
theorem low_of {L:List PL} {a:Nat} {l:PL} (h:L[a]?=some l) {x:Int}:lowE L a x↔∀e∈l,x≤e.1:=by unfold lowE;rw[h];exact Iff.rfl
theorem low_congr {L L':List PL} {p:Nat} (h:L'[p]?=L[p]?) {x:Int} (hl:lowE L p x):lowE L' p x:=by unfold lowE;rw[h];exact hl
theorem Sub.frame:∀{L L':List PL} {h a:Nat} {S:List Nat} {ks:PL},Sub L h a S ks→(∀p∈S,L'[p]?=L[p]?)→Sub L' h a S ks
 | _,_,0,_,_,_,h,hf=>by
  obtain⟨rfl,h1,h2⟩:=h
  exact⟨rfl,by rw[hf _ (by simp)];exact h1,h2⟩
 | L,L',h+1,a,_,_,hs,hf=>by
  obtain⟨cs,h1,h2,h3,rfl,h5,h6,h7⟩:=hs
  refine⟨cs,by rw[hf a (by simp)];exact h1,h2,h3,rfl,h5,fun c hc=>?_,h7⟩
  have hin:∀p∈c.S,L'[p]?=L[p]?:=fun p hp=>hf p (List.mem_cons_of_mem _ (List.mem_flatMap.2 ⟨c,hc,hp⟩))
  exact⟨(h6 c hc).1.frame hin,by rw[sz_congr (hin _ (h6 c hc).1.root)];exact(h6 c hc).2.1,low_congr (hin _ (h6 c hc).1.root) (h6 c hc).2.2⟩
def Srt (l:PL):Prop:=l.Pairwise fun a b=>a.1<b.1
theorem rank_spec:∀{l:PL} (k:Int),Srt l→∃A D,l=A++D∧(A.length:Int)=rank l k∧(∀e∈A,e.1<k)∧(∀e∈D,k≤e.1)∧has l k=(match D with|[]=>false|d::_=>d.1==k)
 | [],k,_=>⟨[],[],rfl,rfl,by simp,by simp,rfl⟩
 | a::r,k,h=>by
  have h':=List.pairwise_cons.1 h
  by_cases hk:a.1<k
  ·obtain⟨A,D,h1,h2,h3,h4,h5⟩:=rank_spec k h'.2
   refine⟨a::A,D,by rw[h1];rfl,?_,fun e he=>?_,h4,?_⟩
   ·simp only[rank,if_pos hk,List.length_cons];omega
   ·rcases List.mem_cons.1 he with rfl|he
    ·exact hk
    ·exact h3 e he
   ·simp only[has,if_pos hk];exact h5
  ·refine⟨[],a::r,rfl,by simp[rank,hk],by simp,fun e he=>?_,by simp[has,hk]⟩
   rcases List.mem_cons.1 he with rfl|he
   ·omega
   ·have:=h'.1 e he;omega
theorem way_split {m:PL} (k:Int) (hs:Srt m) (hne:m≠[]):∃A c D,m=A++c::D∧A.length=wayI m k∧(∀d∈D,k<d.1)∧(A≠[]→c.1≤k):=by
 obtain⟨A,D,h1,h2,h3,h4,h5⟩:=rank_spec k hs
 have hr:(rank m k).toNat=A.length:=by omega
 have hsD:Srt D:=(List.pairwise_append.1 (h1▸hs)).2.1
 unfold wayI
 rw[hr]
 cases D with
 | nil=>
  simp only at h5
  rw[List.append_nil] at h1
  subst h1
  have hne':m.length≠0:=by simpa using hne
  rw[if_neg (by rw[h5];simp;omega)]
  refine⟨m.dropLast,m.getLast hne,[],(List.dropLast_concat_getLast hne).symm,by simp,by simp,fun _=>?_⟩
  have:=h3 _ (List.getLast_mem hne);omega
 | cons d D=>
  have hD:=List.pairwise_cons.1 hsD
  cases hh:has m k with
  | true=>
   rw[hh] at h5
   have hd:d.1=k:=by simpa using h5.symm
   rw[if_pos (.inl rfl)]
   exact⟨A,d,D,h1,rfl,fun e he=>by have:=hD.1 e he;omega,fun _=>by omega⟩
  | false=>
   rw[hh] at h5
   have hd:d.1≠k:=by simpa using h5.symm
   have hkd:k<d.1:=by have:=h4 d (by simp);omega
   by_cases hA:A=[]
   ·subst hA
    rw[if_pos (.inr (by rw[←h2];rfl))]
    exact⟨[],d,D,h1,rfl,fun e he=>by have:=hD.1 e he;omega,fun h=>absurd rfl h⟩
   ·have hl:A.length≠0:=by simpa using hA
    rw[if_neg (by simp;omega)]
    refine⟨A.dropLast,A.getLast hA,d::D,?_,by simp,fun e he=>?_,fun _=>?_⟩
    ·rw[h1]
     conv=>lhs;rw[←List.dropLast_concat_getLast hA]
     simp
    ·rcases List.mem_cons.1 he with rfl|he
     ·exact hkd
     ·have:=hD.1 e he;omega
    ·have:=h3 _ (List.getLast_mem hA);omega
theorem lay_left {A C:PL} {k v:Int} (h:∀e∈A,e.1<k):lay (A++C) k v=A++lay C k v:=by
 induction A with
 | nil=>rfl
 | cons a r ih=>rw[List.cons_append,lay,if_pos (h a (by simp)),ih fun e he=>h e (by simp[he])];rfl
theorem lay_right {C D:PL} {k v:Int} (h:∀e∈D,k<e.1):lay (C++D) k v=lay C k v++D:=by
 induction C with
 | nil=>
  cases D with
  | nil=>rfl
  | cons d r=>
   have:=h d (by simp)
   rw[List.nil_append]
   simp only[lay,if_neg (show ¬d.1<k by omega),if_neg (show ¬d.1=k by omega)];rfl
 | cons a r ih=>
  rw[List.cons_append,lay,lay]
  split
  ·rw[ih];rfl
  ·split<;>rfl
theorem has_left {A C:PL} {k:Int} (h:∀e∈A,e.1<k):has (A++C) k=has C k:=by
 induction A with
 | nil=>rfl
 | cons a r ih=>rw[List.cons_append,has,if_pos (h a (by simp)),ih fun e he=>h e (by simp[he])]
theorem has_right {C D:PL} {k:Int} (h:∀e∈D,k<e.1):has (C++D) k=has C k:=by
 induction C with
 | nil=>
  cases D with
  | nil=>rfl
  | cons d r=>
   have:=h d (by simp)
   rw[List.nil_append]
   simp only[has,if_neg (show ¬d.1<k by omega)];simp;omega
 | cons a r ih=>
  rw[List.cons_append,has,has]
  split
  ·exact ih
  ·rfl
theorem mem_lay {l:PL} {k v:Int} {e:Int×Int} (h:e∈lay l k v):e=(k,v)∨e∈l:=by
 induction l with
 | nil=>simp[lay] at h;exact .inl h
 | cons a r ih=>
  simp only[lay] at h
  split at h
  ·rcases List.mem_cons.1 h with rfl|h
   ·exact .inr (by simp)
   ·rcases ih h with h|h
    ·exact .inl h
    ·exact .inr (by simp[h])
  ·split at h
   ·rcases List.mem_cons.1 h with rfl|h
    ·exact .inl rfl
    ·exact .inr (by simp[h])
   ·rcases List.mem_cons.1 h with rfl|h
    ·exact .inl rfl
    ·exact .inr h
theorem lay_srt {l:PL} {k v:Int} (h:Srt l):Srt (lay l k v):=by
 induction l with
 | nil=>simp[lay,Srt]
 | cons a r ih=>
  have h':=List.pairwise_cons.1 h
  simp only[lay]
  split
  ·rename_i hk
   refine List.pairwise_cons.2 ⟨fun e he=>?_,ih h'.2⟩
   rcases mem_lay he with rfl|he
   ·exact hk
   ·exact h'.1 e he
  ·split
   ·rename_i hk
    exact List.pairwise_cons.2 ⟨fun e he=>by have:=h'.1 e he;show k<e.1;omega,h'.2⟩
   ·refine List.pairwise_cons.2 ⟨fun e he=>?_,h⟩
    show k<e.1
    rcases List.mem_cons.1 he with rfl|he
    ·omega
    ·have:=h'.1 e he;omega
theorem Lg.lay {l:PL} (h:Lg l) {k v:Int} (hn:(T.lay l k v).length≤6):Lg (T.lay l k v):=⟨lay_srt h.srt,hn⟩
end Go.Proofs.YtbppemcdphgknaaGreatDoor.T
namespace Go.Proofs.YtbppemcdphgknaaGreatDoor.T
open Go Go.Vm
theorem ch_split {cs:List Ch} (k:Int) (hs:Srt (nodeB cs)) (hne:cs≠[]):∃pre c post,cs=pre++c::post∧pre.length=wayI (nodeB cs) k∧(∀d∈post,k<d.x)∧(pre≠[]→c.x≤k):=by
 obtain⟨A,e,D,h1,h2,h3,h4⟩:=way_split k hs (by unfold nodeB;simpa using hne)
 have h1':=h1
 unfold nodeB at h1
 obtain⟨pre,r,e1,e2,e3⟩:=List.map_eq_append_iff.1 h1
 obtain⟨c,post,e4,e5,e6⟩:=List.map_eq_cons_iff.1 e3
 subst e4
 refine⟨pre,c,post,e1,?_,fun d hd=>h3 _ (by rw[←e6];exact List.mem_map.2 ⟨d,hd,rfl⟩),fun hp=>?_⟩
 ·rw[←h2,←e2,List.length_map]
 ·have:A≠[]:=by rw[←e2];simpa using hp
  have:=h4 this
  rw[←e5] at this;exact this
theorem Sub.srt:∀{L:List PL} {h a:Nat} {S:List Nat} {ks:PL},Sub L h a S ks→Srt ks
 | _,0,_,_,_,h=>h.2.2.srt
 | _,h+1,_,_,_,hs=>by
  obtain⟨cs,_,_,_,_,rfl,h6,h7,h8⟩:=hs
  refine List.pairwise_flatMap.2 ⟨fun c hc=>(h6 c hc).1.srt,?_⟩
  refine List.Pairwise.imp_of_mem ?_ h8
  intro c d hc hd hcd e he f hf
  have h1:=hcd e he
  have h2:=h7 d hd f hf
  omega
theorem side_l {pre:List Ch} {c:Ch} {post:List Ch} {k:Int} (h8:(pre++c::post).Pairwise fun c d=>∀e∈c.ks,e.1<d.x) (hp:pre≠[]→c.x≤k):∀e∈pre.flatMap (·.ks),e.1<k:=fun e he=>by
 obtain⟨d,hd,he⟩:=List.mem_flatMap.1 he
 have h1:=(List.pairwise_append.1 h8).2.2 d hd c (by simp) e he
 have h2:=hp (fun hn=>by rw[hn] at hd;cases hd)
 omega
theorem side_r {pre:List Ch} {c:Ch} {post:List Ch} {k:Int} (h7:∀c'∈pre++c::post,∀e∈c'.ks,c'.x≤e.1) (hp:∀d∈post,k<d.x):∀e∈post.flatMap (·.ks),k<e.1:=fun e he=>by
 obtain⟨d,hd,he⟩:=List.mem_flatMap.1 he
 have h1:=h7 d (by simp[hd]) e he
 have h2:=hp d hd
 omega
theorem Sub.path (k:Int):∀{L:List PL} {h a:Nat} {S:List Nat} {ks:PL},Sub L h a S ks→∃m l,L[a]?=some m∧PathB L k h m l∧has ks k=has l k∧∀e∈l,e∈ks
 | _,0,_,_,ks,h=>⟨ks,ks,h.2.1,⟨rfl,h.2.2⟩,rfl,fun _ h=>h⟩
 | L,h+1,a,_,_,hs=>by
  obtain⟨cs,h1,h2,h3,_,rfl,h6,h7,h8⟩:=hs
  obtain⟨pre,c,post,e1,e2,e3,e4⟩:=ch_split k h2.srt h3
  subst e1
  obtain⟨m',l,q1,q2,q3,q4⟩:=(h6 c (by simp)).1.path k
  refine⟨_,l,h1,⟨h2,c.x,c.p,m',?_,q1,q2⟩,?_,fun e he=>List.mem_flatMap.2 ⟨c,by simp,q4 e he⟩⟩
  ·rw[←e2];simp[nodeB]
  ·rw[List.flatMap_append,List.flatMap_cons,has_left (side_l h8 e4),has_right (side_r h7 e3),q3]
structure Own (L:List PL) (S F:List Nat) (L':List PL) (S' F':List Nat):Prop where
 nd:(S'++F').Nodup
 mem:∀p∈S'++F',p∈S++F∨L.length≤p
 lt:∀p∈S'++F',p<L'.length
 len:L.length≤L'.length
 keep:∀p,p<L.length→p∉S++F→L'[p]?=L[p]?
theorem Own.refl {L:List PL} {S F:List Nat} (h:(S++F).Nodup) (hl:∀p∈S++F,p<L.length):Own L S F L S F:=⟨h,fun _ h=>.inl h,hl,Nat.le_refl _,fun _ _ _=>rfl⟩
theorem Own.trans {L L' L'':List PL} {S F S' F' S'' F'':List Nat} (h:Own L S F L' S' F') (h':Own L' S' F' L'' S'' F''):Own L S F L'' S'' F'' where
 nd:=h'.nd
 mem p hp:=by
  rcases h'.mem p hp with h1|h1
  ·exact h.mem p h1
  ·exact .inr (Nat.le_trans h.len h1)
 lt:=h'.lt
 len:=Nat.le_trans h.len h'.len
 keep p hp hn:=by
  rw[h'.keep p (Nat.lt_of_lt_of_le hp h.len) fun h1=>by
   rcases h.mem p h1 with h2|h2
   ·exact hn h2
   ·omega]
  exact h.keep p hp hn
theorem Own.ext {L L':List PL} {S F S' F':List Nat} (h:Own L S F L' S' F') {R:List Nat} (hR:R.Nodup) (hr:∀p∈R,p<L.length∧p∉S++F):Own L (R++S) F L' (R++S') F' where
 nd:=by
  rw[List.append_assoc]
  refine List.nodup_append.2 ⟨hR,h.nd,fun a ha b hb e=>?_⟩
  subst e
  rcases h.mem a hb with h1|h1
  ·exact(hr a ha).2 h1
  ·have:=(hr a ha).1;omega
 mem p hp:=by
  rw[List.append_assoc] at hp
  rcases List.mem_append.1 hp with hp|hp
  ·exact .inl (by simp[hp])
  ·rcases h.mem p hp with h1|h1
   ·refine .inl ?_
    rcases List.mem_append.1 h1 with h1|h1<;>simp[h1]
   ·exact .inr h1
 lt p hp:=by
  rw[List.append_assoc] at hp
  rcases List.mem_append.1 hp with hp|hp
  ·exact Nat.lt_of_lt_of_le (hr p hp).1 h.len
  ·exact h.lt p hp
 len:=h.len
 keep p hp hn:=h.keep p hp fun h1=>hn (by
  rcases List.mem_append.1 h1 with h1|h1<;>simp[h1])
theorem Own.perm {L L':List PL} {S F S' F' S1 S1':List Nat} (h:Own L S F L' S' F') (e:S.Perm S1) (e':S'.Perm S1'):Own L S1 F L' S1' F' where
 nd:=(List.Perm.nodup_iff (e'.append_right F')).1 h.nd
 mem p hp:=by
  have:=h.mem p ((e'.append_right F').mem_iff.2 hp)
  rwa [(e.append_right F).mem_iff] at this
 lt p hp:=h.lt p ((e'.append_right F').mem_iff.2 hp)
 len:=h.len
 keep p hp hn:=h.keep p hp fun h1=>hn ((e.append_right F).mem_iff.1 h1)
theorem Own.set {L:List PL} {S F:List Nat} (h:(S++F).Nodup) (hl:∀p∈S++F,p<L.length) {a:Nat} (ha:a∈S) (l:PL):Own L S F (L.set a l) S F where
 nd:=h
 mem _ h:=.inl h
 lt:=by simpa using hl
 len:=by simp
 keep p hp hn:=by
  rw[List.getElem?_set_ne]
  rintro rfl
  exact hn (by simp[ha])
theorem Own.add {L:List PL} {S F:List Nat} (h:(S++F).Nodup) (hl:∀p∈S++F,p<L.length) (l:PL):Own L S F (addL L F l) (addP L.length F::S) F.dropLast∧(addL L F l)[addP L.length F]?=some l∧(addL L F l).length≤L.length+1∧(∀p,p<L.length→p∉F→(addL L F l)[p]?=L[p]?):=by
 unfold addL addP
 cases hF:F.getLast? with
 | none=>
  obtain rfl:F=[]:=by simpa using hF
  rw[List.append_nil] at h hl
  refine⟨⟨?_,fun p hp=>?_,fun p hp=>?_,by simp,fun p hp hn=>?_⟩,by simp,by simp,fun p hp _=>?_⟩
  ·simp only[List.dropLast_nil,List.append_nil]
   exact List.nodup_cons.2 ⟨fun hm=>by have:=hl _ hm;omega,h⟩
  ·simp only[List.dropLast_nil,List.append_nil] at hp ⊢
   rcases List.mem_cons.1 hp with rfl|hp
   ·exact .inr (Nat.le_refl _)
   ·exact .inl hp
  ·simp only[List.dropLast_nil,List.append_nil] at hp
   rcases List.mem_cons.1 hp with rfl|hp
   ·simp
   ·have:=hl p hp;simp;omega
  ·exact List.getElem?_append_left hp
  ·exact List.getElem?_append_left hp
 | some j=>
  have hne:F≠[]:=fun e=>by rw[e] at hF;cases hF
  have e:F=F.dropLast++[j]:=by
   have h1:=List.dropLast_concat_getLast hne
   rw[List.getLast?_eq_some_getLast hne] at hF
   cases hF
   exact h1.symm
  have hjF:j∈F:=List.mem_of_getLast? hF
  have hjl:=hl j (by simp[hjF])
  have hp1:(S++F).Perm ((j::S)++F.dropLast):=by
   conv=>lhs;rw[e]
   rw[←List.append_assoc]
   exact(List.perm_append_comm (l₁:=S++F.dropLast) (l₂:=[j]))
  refine⟨⟨hp1.nodup_iff.1 h,fun p hp=>.inl (hp1.mem_iff.2 hp),fun p hp=>?_,by simp,fun p hp hn=>?_⟩,?_,by simp,fun p hp hn=>?_⟩
  ·rw[List.length_set];exact hl p (hp1.mem_iff.2 hp)
  ·rw[List.getElem?_set_ne]
   rintro rfl
   exact hn (by simp[hjF])
  ·rw[List.getElem?_set_self hjl]
  ·rw[List.getElem?_set_ne]
   rintro rfl
   exact hn hjF
end Go.Proofs.YtbppemcdphgknaaGreatDoor.T
namespace Go.Proofs.YtbppemcdphgknaaGreatDoor.T
open Go Go.Vm
theorem drop3 {l:PL} (h:l.length=6):∃a b c s d e,l=[a,b,c,s,d,e]:=by
 rcases len_cases (show l.length≤6 by omega) with rfl|⟨a,rfl⟩|⟨a,b,rfl⟩|⟨a,b,c,rfl⟩|⟨a,b,c,d,rfl⟩|⟨a,b,c,d,e,rfl⟩|⟨a,b,c,d,e,f,rfl⟩
 all_goals first|(simp at h;done)|exact⟨_,_,_,_,_,_,rfl⟩
theorem set_any (L:List PL) (F:List Nat) (root high n:Int) (a:Nat) (k v:Int) {l:PL} (ha:L[a]?=some l) (hl:Lg l) (hL:L.length≤1000000) (hF:F.length≤1000000) (hj:∀j∈F,j<L.length) :
  ∃(L':List PL) (F':List Nat) (nx:Nat) (sp:Bool),ATriple Tryz.prog gv R0 183 [.ref (0,0) 0,i64V a,u32V k,i64V v] [.abs (trD L F root high n)] (.tup [i64V nx,.bool sp]) [.abs (trD L' F' root high n)] none∧
   ((sp=false∧nx=0∧F'=F∧L'=L.set a (lay l k v)∧(lay l k v).length≤6)∨
    (sp=true∧∃l1 l2 s sv r,lay l k v=l1++l2∧l2=(s,sv)::r∧3≤l1.length∧l1.length≤6∧3≤l2.length∧l2.length≤6∧nx=addP L.length F∧F'=F.dropLast∧L'=addL (L.set a l1) F l2)):=by
 by_cases hin:(lay l k v).length≤6
 ·exact⟨_,_,0,false,set_in L F root high n a k v ha hl hin,.inl ⟨rfl,rfl,rfl,rfl,hin⟩⟩
 ·obtain⟨h6,hno⟩:=six_of hl.len hin
  obtain⟨x0,x1,x2,⟨s,sv⟩,x4,x5,rfl⟩:=drop3 h6
  have hs:=hl.srt
  simp only[List.pairwise_cons,List.mem_cons,List.not_mem_nil,forall_eq_or_imp,or_false,forall_eq] at hs
  by_cases hks:k<s
  ·have c:=set_l L F root high n a k v ha hl hin (s:=s) (sv:=sv) (r:=[x4,x5]) rfl hks hL hF hj
   refine⟨_,_,_,true,c,.inr ⟨rfl,lay [x0,x1,x2] k v,[(s,sv),x4,x5],s,sv,[x4,x5],?_,rfl,?_,?_,by simp,by simp,rfl,rfl,rfl⟩⟩
   ·exact lay_right (C:=[x0,x1,x2]) (D:=[(s,sv),x4,x5]) fun e he=>by
     simp at he
     rcases he with rfl|rfl|rfl<;>(try dsimp only)<;>omega
   ·rw[lay_len];simp
   ·rw[lay_len];split<;>simp
  ·have hne:k≠s:=fun e=>by
    subst e
    have:=has_mem hl.srt (x:=(k,sv)) (by simp)
    rw[hno] at this;cases this
   have c:=set_r L F root high n a k v ha hl hin (s:=s) (sv:=sv) (r:=[x4,x5]) rfl hks hL hF hj
   have hlay:lay [(s,sv),x4,x5] k v=(s,sv)::lay [x4,x5] k v:=by rw[lay,if_pos (by show s<k;omega)]
   refine⟨_,_,_,true,c,.inr ⟨rfl,[x0,x1,x2],lay [(s,sv),x4,x5] k v,s,sv,lay [x4,x5] k v,?_,hlay,by simp,by simp,?_,?_,rfl,rfl,rfl⟩⟩
   ·exact lay_left (A:=[x0,x1,x2]) (C:=[(s,sv),x4,x5]) fun e he=>by
     simp at he
     rcases he with rfl|rfl|rfl<;>omega
   ·rw[lay_len];simp
   ·rw[lay_len];split<;>simp
def PutR (kk:Int) (L:List PL) (F:List Nat) (h a:Nat) (S:List Nat) (ks:PL) (L':List PL) (F':List Nat) (nx:Nat) (sp:Bool):Prop:=
 L'.length≤L.length+h+1∧F'.length≤F.length∧
 ((sp=false∧nx=0∧∃S',Own L S F L' S' F'∧Sub L' h a S' ks∧sz L a≤sz L' a∧∀b,b≤kk→lowE L a b→lowE L' a b)∨
  (sp=true∧∃S1 S2 k1 k2 s sv r,Own L S F L' (S1++S2) F'∧ks=k1++k2∧Sub L' h a S1 k1∧Sub L' h nx S2 k2∧L'[nx]?=some ((s,sv)::r)∧r.length≤5∧(∀e∈k1,e.1<s)∧(∀e∈k2,s≤e.1)∧k1≠[]∧k2≠[]∧3≤sz L' a∧3≤sz L' nx∧(∀b,b≤kk→lowE L a b→lowE L' a b)∧lowE L' nx s))
theorem sz_of {L:List PL} {a:Nat} {l:PL} (h:L[a]?=some l):sz L a=l.length:=by rw[sz,h];rfl
theorem put_rec0 (root high n:Int) (k v:Int) (L:List PL) (F:List Nat) (a:Nat) (S:List Nat) (ks:PL) (hs:Sub L 0 a S ks) (hnd:(S++F).Nodup) (hlt:∀p∈S++F,p<L.length) (hL:L.length≤1000000) (hF:F.length≤1000000) :
  ∃(L':List PL) (F':List Nat) (nx:Nat) (sp:Bool),ATriple Tryz.prog gv R0 163 [.ref (0,0) 0,i64V a,i64V 0,u32V k,i64V v] [.abs (trD L F root high n)] (.tup [i64V nx,.bool sp]) [.abs (trD L' F' root high n)] none∧PutR k L F 0 a S (lay ks k v) L' F' nx sp:=by
 obtain⟨rfl,h1,h2⟩:=hs
 have hal:=(List.getElem?_eq_some_iff.1 h1).1
 obtain⟨L',F',nx,sp,c,hr⟩:=set_any L F root high n a k v h1 h2 hL hF fun j hj=>hlt j (by simp[hj])
 refine⟨L',F',nx,sp,?_,?_⟩
 ·cases sp with
  | true=>exact tput_0t L L' F F' root high n a nx k v c
  | false=>exact tput_0f L L' F F' root high n a nx k v c
 ·rcases hr with⟨rfl,rfl,rfl,rfl,hin⟩|⟨rfl,l1,l2,s,sv,r,e1,e2,e3,e4,e5,e6,rfl,rfl,rfl⟩
  ·refine⟨by simp,Nat.le_refl _,.inl ⟨rfl,rfl,[a],Own.set hnd hlt (by simp) _,⟨rfl,List.getElem?_set_self hal,h2.lay hin⟩,?_,fun b hb hlo=>?_⟩⟩
   ·rw[sz_of h1,sz_of (List.getElem?_set_self hal),lay_len];omega
   ·rw[low_of h1] at hlo
    rw[low_of (List.getElem?_set_self hal)]
    intro e he
    rcases mem_lay he with rfl|he
    ·exact hb
    ·exact hlo e he
  ·have o1:=Own.set hnd hlt (List.mem_singleton.2 rfl) l1
   obtain⟨o2,g2,g3,g4⟩:=Own.add (L:=L.set a l1) hnd (by simpa using hlt) l2
   have haF:a∉F:=fun hm=>(List.nodup_append.1 hnd).2.2 a (by simp) a hm rfl
   have ga:(addL (L.set a l1) F l2)[a]?=some l1:=by rw[g4 a (by simpa using hal) haF];exact List.getElem?_set_self hal
   rw[List.length_set] at o2 g2 g3
   have hsl:=lay_srt (k:=k) (v:=v) h2.srt
   rw[e1] at hsl
   obtain⟨s1,s2,s3⟩:=List.pairwise_append.1 hsl
   refine⟨by omega,by simp,.inr ⟨rfl,[a],[addP L.length F],l1,l2,s,sv,r,(o1.trans o2).perm (.refl _) (List.perm_append_comm (l₁:=[addP L.length F]) (l₂:=[a])),e1,⟨rfl,ga,s1,e4⟩,⟨rfl,g2,s2,e6⟩,by rw[g2,e2],by rw[e2] at e6;simpa using e6,fun e he=>?_,fun e he=>?_,?_,?_,by rw[sz_of ga];exact e3,by rw[sz_of g2];exact e5,fun b hb hlo=>?_,?_⟩⟩
   ·exact s3 e he (s,sv) (by rw[e2];simp)
   ·rw[e2] at he s2
    rcases List.mem_cons.1 he with rfl|he
    ·exact Int.le_refl _
    ·have:=(List.pairwise_cons.1 s2).1 e he;omega
   ·rintro rfl;simp at e3
   ·rintro rfl;simp at e5
   ·rw[low_of h1] at hlo
    rw[low_of ga]
    intro e he
    rcases mem_lay (show e∈lay ks k v by rw[e1];exact List.mem_append_left _ he) with rfl|he
    ·exact hb
    ·exact hlo e he
   ·rw[low_of g2]
    intro e he
    rw[e2] at he s2
    rcases List.mem_cons.1 he with rfl|he
    ·exact Int.le_refl _
    ·have:=(List.pairwise_cons.1 s2).1 e he
     have h9:s<e.1:=this
     omega
end Go.Proofs.YtbppemcdphgknaaGreatDoor.T
namespace Go.Proofs.YtbppemcdphgknaaGreatDoor.T
open Go Go.Vm
structure Kids (L:List PL) (h:Nat) (cs:List Ch):Prop where
 ne:cs≠[]
 sub:∀c∈cs,Sub L h c.p c.S c.ks∧3≤sz L c.p∧lowE L c.p c.x
 low:∀c∈cs,∀e∈c.ks,c.x≤e.1
 ord:cs.Pairwise fun c d=>∀e∈c.ks,e.1<d.x
theorem Sub.kids {L:List PL} {h a:Nat} {S:List Nat} {ks:PL} (hs:Sub L (h+1) a S ks):∃cs:List Ch,L[a]?=some (nodeB cs)∧Lg (nodeB cs)∧S=a::cs.flatMap (·.S)∧ks=cs.flatMap (·.ks)∧Kids L h cs:=by
 obtain⟨cs,h1,h2,h3,h4,h5,h6,h7,h8⟩:=hs
 exact⟨cs,h1,h2,h4,h5,h3,h6,h7,h8⟩
theorem Kids.node {L:List PL} {h a:Nat} {cs:List Ch} (hk:Kids L h cs) (h1:L[a]?=some (nodeB cs)) (h2:Lg (nodeB cs)):Sub L (h+1) a (a::cs.flatMap (·.S)) (cs.flatMap (·.ks)):=
 ⟨cs,h1,h2,hk.ne,rfl,rfl,hk.sub,hk.low,hk.ord⟩
theorem Kids.frame {L L':List PL} {h:Nat} {cs:List Ch} (hk:Kids L h cs) (hf:∀p∈cs.flatMap (·.S),L'[p]?=L[p]?):Kids L' h cs where
 ne:=hk.ne
 sub c hc:=by
  have hin:∀p∈c.S,L'[p]?=L[p]?:=fun p hp=>hf p (List.mem_flatMap.2 ⟨c,hc,hp⟩)
  exact⟨(hk.sub c hc).1.frame hin,by rw[sz_congr (hin _ (hk.sub c hc).1.root)];exact(hk.sub c hc).2.1,low_congr (hin _ (hk.sub c hc).1.root) (hk.sub c hc).2.2⟩
 low:=hk.low
 ord:=hk.ord
theorem Sub.ne:∀{L:List PL} {h a:Nat} {S:List Nat} {ks:PL},Sub L h a S ks→1≤sz L a→ks≠[]
 | L,0,a,S,ks,hs,h=>by
  obtain⟨rfl,h1,_⟩:=hs
  rw[sz_of h1] at h
  rintro rfl;simp at h
 | L,h+1,a,S,ks,hs,hz=>by
  obtain⟨cs,h1,h2,rfl,rfl,hk⟩:=hs.kids
  obtain⟨c,hc⟩:=List.exists_mem_of_ne_nil _ hk.ne
  have:=(hk.sub c hc).1.ne (by have:=(hk.sub c hc).2.1;omega)
  intro e
  exact this (by
   have:=List.flatMap_eq_nil_iff.1 e c hc
   exact this)
theorem Kids.left {L:List PL} {h:Nat} {ca cb:List Ch} (hk:Kids L h (ca++cb)) (hn:ca≠[]):Kids L h ca where
 ne:=hn
 sub c hc:=hk.sub c (by simp[hc])
 low c hc:=hk.low c (by simp[hc])
 ord:=(List.pairwise_append.1 hk.ord).1
theorem Kids.right {L:List PL} {h:Nat} {ca cb:List Ch} (hk:Kids L h (ca++cb)) (hn:cb≠[]):Kids L h cb where
 ne:=hn
 sub c hc:=hk.sub c (by simp[hc])
 low c hc:=hk.low c (by simp[hc])
 ord:=(List.pairwise_append.1 hk.ord).2.1
def lowK (k:Int):List Ch→List Ch
 | []=>[]
 | c::r=>{c with x:=if k<c.x then k else c.x}::r
theorem lowK_S (k:Int) (cs:List Ch):(lowK k cs).flatMap (·.S)=cs.flatMap (·.S):=by cases cs<;>rfl
theorem lowK_ks (k:Int) (cs:List Ch):(lowK k cs).flatMap (·.ks)=cs.flatMap (·.ks):=by cases cs<;>rfl
theorem Kids.lowK {L:List PL} {h:Nat} {cs:List Ch} (hk:Kids L h cs) (k:Int):Kids L h (T.lowK k cs):=by
 obtain⟨h1,h2,h3,h4⟩:=hk
 cases cs with
 | nil=>exact absurd rfl h1
 | cons c r=>
  refine⟨by simp[T.lowK],fun d hd=>?_,fun d hd e he=>?_,?_⟩
  ·rcases List.mem_cons.1 hd with rfl|hd
   ·obtain⟨q1,q2,q3⟩:=h2 c (by simp)
    refine⟨q1,q2,fun e he=>?_⟩
    have:=q3 e he
    show(if k<c.x then k else c.x)≤e.1
    split<;>omega
   ·exact h2 d (by simp[hd])
  ·rcases List.mem_cons.1 hd with rfl|hd
   ·have:=h3 c (by simp) e he
    show(if k<c.x then k else c.x)≤e.1
    split<;>omega
   ·exact h3 d (by simp[hd]) e he
  ·have h5:=List.pairwise_cons.1 h4
   exact List.pairwise_cons.2 ⟨fun d hd e he=>h5.1 d hd e he,h5.2⟩
theorem lowK_Lg {cs:List Ch} (h:Lg (nodeB cs)) (k:Int):Lg (nodeB (lowK k cs)):=by
 cases cs with
 | nil=>exact h
 | cons c r=>
  refine⟨?_,h.len⟩
  have h5:=List.pairwise_cons.1 h.srt
  refine List.pairwise_cons.2 ⟨fun d hd=>?_,h5.2⟩
  have:=h5.1 d hd
  show(if k<c.x then k else c.x)<d.1
  have h6:c.x<d.1:=this
  split<;>omega
theorem lowK_le {cs pre post:List Ch} {c:Ch} {k:Int} (e:lowK k cs=pre++c::post) (h:pre≠[]→c.x≤k):c.x≤k:=by
 by_cases hp:pre=[]
 ·subst hp
  cases cs with
  | nil=>simp[lowK] at e
  | cons d r=>
   simp only[lowK,List.nil_append,List.cons.injEq] at e
   rw[←e.1]
   show(if k<d.x then k else d.x)≤k
   split<;>omega
 ·exact h hp
theorem flat_mid {α:Type} (f:Ch→List α) (pre post:List Ch) (c:Ch):(pre++c::post).flatMap f=pre.flatMap f++(f c++post.flatMap f):=by
 rw[List.flatMap_append,List.flatMap_cons]
theorem Kids.one {L L':List PL} {h:Nat} {pre post:List Ch} {c:Ch} (hk:Kids L h (pre++c::post)) {S:List Nat} {ks:PL} (hf:∀p∈pre.flatMap (·.S)++post.flatMap (·.S),L'[p]?=L[p]?) (hs:Sub L' h c.p S ks) (hz:3≤sz L' c.p) (hB:lowE L' c.p c.x)
  (hlo:∀e∈ks,c.x≤e.1) (hhi:∀d∈post,∀e∈ks,e.1<d.x):Kids L' h (pre++{c with S:=S,ks:=ks}::post) where
 ne:=by simp
 sub d hd:=by
  have hside:∀d,d∈pre∨d∈post→Sub L' h d.p d.S d.ks∧3≤sz L' d.p∧lowE L' d.p d.x:=fun d hd=>by
   have hin:∀p∈d.S,L'[p]?=L[p]?:=fun p hp=>hf p (by
    rcases hd with hd|hd
    ·exact List.mem_append_left _ (List.mem_flatMap.2 ⟨d,hd,hp⟩)
    ·exact List.mem_append_right _ (List.mem_flatMap.2 ⟨d,hd,hp⟩))
   have:=hk.sub d (by rcases hd with hd|hd<;>simp[hd])
   exact⟨this.1.frame hin,by rw[sz_congr (hin _ this.1.root)];exact this.2.1,low_congr (hin _ this.1.root) this.2.2⟩
  rcases List.mem_append.1 hd with hd|hd
  ·exact hside d (.inl hd)
  ·rcases List.mem_cons.1 hd with rfl|hd
   ·exact⟨hs,hz,hB⟩
   ·exact hside d (.inr hd)
 low d hd e he:=by
  rcases List.mem_append.1 hd with hd|hd
  ·exact hk.low d (by simp[hd]) e he
  ·rcases List.mem_cons.1 hd with rfl|hd
   ·exact hlo e he
   ·exact hk.low d (by simp[hd]) e he
 ord:=by
  obtain⟨h1,h2,h3⟩:=List.pairwise_append.1 hk.ord
  have h4:=List.pairwise_cons.1 h2
  refine List.pairwise_append.2 ⟨h1,List.pairwise_cons.2 ⟨fun d hd e he=>hhi d hd e he,h4.2⟩,fun d hd d' hd' e he=>?_⟩
  rcases List.mem_cons.1 hd' with rfl|hd'
  ·exact h3 d hd c (by simp) e he
  ·exact h3 d hd d' (by simp[hd']) e he
theorem Kids.two {L L':List PL} {h:Nat} {pre post:List Ch} {c:Ch} (hk:Kids L h (pre++c::post)) {S1 S2:List Nat} {k1 k2:PL} {s:Int} {nx:Nat} (hf:∀p∈pre.flatMap (·.S)++post.flatMap (·.S),L'[p]?=L[p]?)
  (hs1:Sub L' h c.p S1 k1) (hz1:3≤sz L' c.p) (hs2:Sub L' h nx S2 k2) (hz2:3≤sz L' nx) (hB1:lowE L' c.p c.x) (hB2:lowE L' nx s)
  (hlo:∀e∈k1,c.x≤e.1) (hm1:∀e∈k1,e.1<s) (hm2:∀e∈k2,s≤e.1) (hhi:∀d∈post,∀e∈k1++k2,e.1<d.x) (hps:∀d∈pre,∀e∈d.ks,e.1<s) :
  Kids L' h (pre++{c with S:=S1,ks:=k1}::⟨s,nx,S2,k2⟩::post) where
 ne:=by simp
 sub d hd:=by
  have hside:∀d,d∈pre∨d∈post→Sub L' h d.p d.S d.ks∧3≤sz L' d.p∧lowE L' d.p d.x:=fun d hd=>by
   have hin:∀p∈d.S,L'[p]?=L[p]?:=fun p hp=>hf p (by
    rcases hd with hd|hd
    ·exact List.mem_append_left _ (List.mem_flatMap.2 ⟨d,hd,hp⟩)
    ·exact List.mem_append_right _ (List.mem_flatMap.2 ⟨d,hd,hp⟩))
   have:=hk.sub d (by rcases hd with hd|hd<;>simp[hd])
   exact⟨this.1.frame hin,by rw[sz_congr (hin _ this.1.root)];exact this.2.1,low_congr (hin _ this.1.root) this.2.2⟩
  rcases List.mem_append.1 hd with hd|hd
  ·exact hside d (.inl hd)
  ·rcases List.mem_cons.1 hd with rfl|hd
   ·exact⟨hs1,hz1,hB1⟩
   ·rcases List.mem_cons.1 hd with rfl|hd
    ·exact⟨hs2,hz2,hB2⟩
    ·exact hside d (.inr hd)
 low d hd e he:=by
  rcases List.mem_append.1 hd with hd|hd
  ·exact hk.low d (by simp[hd]) e he
  ·rcases List.mem_cons.1 hd with rfl|hd
   ·exact hlo e he
   ·rcases List.mem_cons.1 hd with rfl|hd
    ·exact hm2 e he
    ·exact hk.low d (by simp[hd]) e he
 ord:=by
  obtain⟨h1,h2,h3⟩:=List.pairwise_append.1 hk.ord
  have h4:=List.pairwise_cons.1 h2
  refine List.pairwise_append.2 ⟨h1,List.pairwise_cons.2 ⟨fun d hd e he=>?_,List.pairwise_cons.2 ⟨fun d hd e he=>hhi d hd e (List.mem_append_right _ he),h4.2⟩⟩,fun d hd d' hd' e he=>?_⟩
  ·rcases List.mem_cons.1 hd with rfl|hd
   ·exact hm1 e he
   ·exact hhi d hd e (List.mem_append_left _ he)
  ·rcases List.mem_cons.1 hd' with rfl|hd'
   ·exact h3 d hd c (by simp) e he
   ·rcases List.mem_cons.1 hd' with rfl|hd'
    ·exact hps d hd e he
    ·exact h3 d hd d' (by simp[hd']) e he
end Go.Proofs.YtbppemcdphgknaaGreatDoor.T
namespace Go.Proofs.YtbppemcdphgknaaGreatDoor.T
open Go Go.Vm
theorem rest_perm (a:Nat) (pre post:List Ch) (c:Ch) (T:List Nat) (K:PL):(a::(pre++{c with S:=T,ks:=K}::post).flatMap (·.S)).Perm ((a::(pre.flatMap (·.S)++post.flatMap (·.S)))++T):=by
 rw[flat_mid]
 show(a::(pre.flatMap (·.S)++(T++post.flatMap (·.S)))).Perm (a::((pre.flatMap (·.S)++post.flatMap (·.S))++T))
 refine List.Perm.cons a ?_
 rw[List.append_assoc]
 exact List.Perm.append_left _ List.perm_append_comm
theorem put_rec (root high n:Int) (k v:Int):∀(h:Nat) (L:List PL) (F:List Nat) (a:Nat) (S:List Nat) (ks:PL),Sub L h a S ks→(S++F).Nodup→(∀p∈S++F,p<L.length)→L.length+h≤1000000→F.length≤1000000→
  ∃(L':List PL) (F':List Nat) (nx:Nat) (sp:Bool),ATriple Tryz.prog gv R0 163 [.ref (0,0) 0,i64V a,i64V h,u32V k,i64V v] [.abs (trD L F root high n)] (.tup [i64V nx,.bool sp]) [.abs (trD L' F' root high n)] none∧PutR k L F h a S (lay ks k v) L' F' nx sp
 | 0,L,F,a,S,ks,hs,hnd,hlt,hL,hF=>put_rec0 root high n k v L F a S ks hs hnd hlt (by omega) hF
 | h+1,L,F,a,S,ks,hs,hnd,hlt,hL,hF=>by
  obtain⟨cs0,g1,g2,rfl,rfl,hk0⟩:=hs.kids
  have hal:=(List.getElem?_eq_some_iff.1 g1).1
  have hg1:=lowK_Lg g2 k
  have hk1:=hk0.lowK k
  have hS1:=lowK_S k cs0
  have hK1:=lowK_ks k cs0
  obtain⟨x0,v0,mr,hm0,hm1⟩:∃x0 v0 mr,nodeB cs0=(x0,v0)::mr∧nodeB (lowK k cs0)=((if k<x0 then k else x0),v0)::mr:=by
   cases cs0 with
   | nil=>exact absurd rfl hk0.ne
   | cons c r=>exact⟨c.x,c.p,nodeB r,rfl,rfl⟩
  obtain⟨pre,c,post,e1,e2,e3,e4⟩:=ch_split k hg1.srt hk1.ne
  have hcx:=lowK_le e1 e4
  rw[←hS1] at hnd hlt ⊢
  rw[←hK1]
  rw[e1] at hk1 hnd hlt hm1 hg1 e2 ⊢
  have hw:(nodeB (pre++c::post))[wayI (nodeB (pre++c::post)) k]?=some (c.x,(c.p:Int)):=by
   rw[←e2];simp[nodeB]
  clear e2 hS1 hK1 hk0 hs
  obtain⟨m1,hmm⟩:∃m,m=nodeB (pre++c::post):=⟨_,rfl⟩
  obtain⟨L1,hL1⟩:∃L1,L1=L.set a m1:=⟨_,rfl⟩
  have hL1l:L1.length=L.length:=by rw[hL1];simp
  have hPerm:∀(T:List Nat) (K:PL),(a::(pre++{c with S:=T,ks:=K}::post).flatMap (·.S)).Perm ((a::(pre.flatMap (·.S)++post.flatMap (·.S)))++T):=rest_perm a pre post c
  obtain⟨R,hR⟩:∃R,R=a::(pre.flatMap (·.S)++post.flatMap (·.S)):=⟨_,rfl⟩
  rw[←hR] at hPerm
  have hP0:(a::(pre++c::post).flatMap (·.S)).Perm (R++c.S):=hPerm c.S c.ks
  have o1:Own L (a::(pre++c::post).flatMap (·.S)) F L1 (R++c.S) F:=by
   rw[hL1];exact(Own.set hnd hlt (by simp) m1).perm (.refl _) hP0
  have ga1:L1[a]?=some m1:=by rw[hL1];exact List.getElem?_set_self hal
  have hnd1:=o1.nd
  have hlt1:=o1.lt
  rw[List.append_assoc] at hnd1
  obtain⟨nR,nC,nRC⟩:=List.nodup_append.1 hnd1
  have hRo:∀p∈R,p<L1.length∧p∉c.S++F:=fun p hp=>⟨hlt1 p (by simp[hp]),fun hm=>nRC p hp p hm rfl⟩
  have haR:a∈R:=by rw[hR];simp
  have hsub:∀p∈(pre++c::post).flatMap (·.S),L1[p]?=L[p]?:=fun p hp=>by
   rw[hL1,List.getElem?_set_ne]
   rintro rfl
   have:=(List.nodup_append.1 hnd).1
   exact(List.nodup_cons.1 this).1 hp
  have hk1':=hk1.frame hsub
  have hc:=hk1'.sub c (by simp)
  obtain⟨L2,F2,nx,sp,cR,q1,q2,q3⟩:=put_rec root high n k v h L1 F c.p c.S c.ks hc.1 nC (fun p hp=>hlt1 p (by
   rcases List.mem_append.1 hp with hp|hp<;>simp[hp])) (by omega) hF
  have hleft:∀e∈pre.flatMap (·.ks),e.1<k:=side_l hk1.ord (fun _=>hcx)
  have hright:∀e∈post.flatMap (·.ks),k<e.1:=side_r hk1.low e3
  have hflat:lay ((pre++c::post).flatMap (·.ks)) k v=pre.flatMap (·.ks)++(lay c.ks k v++post.flatMap (·.ks)):=by
   rw[flat_mid,lay_left hleft,lay_right hright]
  have hlo:∀e∈lay c.ks k v,c.x≤e.1:=fun e he=>by
   rcases mem_lay he with rfl|he
   ·exact hcx
   ·exact hk1.low c (by simp) e he
  have hhi:∀d∈post,∀e∈lay c.ks k v,e.1<d.x:=fun d hd e he=>by
   rcases mem_lay he with rfl|he
   ·exact e3 d hd
   ·exact(List.pairwise_cons.1 (List.pairwise_append.1 hk1.ord).2.1).1 d hd e he
  have hkeepR:∀p∈R,L2[p]?=L1[p]?:=fun p hp=>by
   rcases q3 with⟨_,_,S',o,_⟩|⟨_,S1,S2,_,_,_,_,_,o,_⟩
   ·exact o.keep p (hRo p hp).1 (hRo p hp).2
   ·exact o.keep p (hRo p hp).1 (hRo p hp).2
  have hfs:∀p∈pre.flatMap (·.S)++post.flatMap (·.S),L2[p]?=L1[p]?:=fun p hp=>hkeepR p (by rw[hR];exact List.mem_cons_of_mem _ hp)
  have ga2:L2[a]?=some m1:=by rw[hkeepR a haR];exact ga1
  rw[←hmm] at hm1 hg1 hw
  rw[hflat]
  have hm6:((x0,v0)::mr).length≤6:=by rw[←hm0];exact g2.len
  rw[hm0] at g1
  have hmL:=g1
  have hbm:∀b,b≤k→lowE L a b→∀e∈m1,b≤e.1:=fun b hb hl e he=>by
   rw[low_of g1] at hl
   rw[hm1] at he
   rcases List.mem_cons.1 he with rfl|he
   ·have:=hl (x0,v0) (by simp)
    show b≤(if k<x0 then k else x0)
    split
    ·exact hb
    ·exact this
   ·exact hl e (by simp[he])
  rcases q3 with⟨rfl,rfl,S',o,hs',hz',hB'⟩|⟨rfl,S1,S2,k1,k2,s,sv,r,o,hk12,hs1,hs2,hn,hr5,hb1,hb2,hne1,hne2,hz1,hz2,hB1',hB2'⟩
  ·have oE:=(o1.trans (o.ext nR hRo)).perm (.refl _) (hPerm S' (lay c.ks k v)).symm
   rw[hL1] at cR
   refine⟨L2,F2,0,false,tput_n0 L L2 F F2 root high n a h c.p 0 k v (by omega) g1 hm6 hm1 hg1 hw cR,by omega,q2,.inl ⟨rfl,rfl,_,oE,?_,?_⟩⟩
   ·have hkN:=hk1'.one (S:=S') (ks:=lay c.ks k v) hfs hs' (by have:=hc.2.1;omega) (hB' c.x hcx hc.2.2) hlo hhi
    have:=hkN.node (a:=a) (by rw[ga2,hmm];simp[nodeB]) (by rw[hmm] at hg1;simpa[nodeB] using hg1)
    rw[flat_mid (·.ks)] at this
    exact this
   ·exact⟨by rw[sz_of g1,sz_of ga2,hm1];simp,fun b hb hl=>by rw[low_of ga2];exact hbm b hb hl⟩
  ·obtain⟨cs2,hcs2⟩:∃cs2,cs2=pre++{c with S:=S1,ks:=k1}::⟨s,nx,S2,k2⟩::post:=⟨_,rfl⟩
   obtain⟨e0,he0⟩:=List.exists_mem_of_ne_nil _ hne1
   obtain⟨f0,hf0⟩:=List.exists_mem_of_ne_nil _ hne2
   rw[hk12] at hlo hhi
   have hcs:c.x<s:=by
    have h1:=hlo e0 (List.mem_append_left _ he0)
    have h2:=hb1 e0 he0
    omega
   have hk2:Kids L2 h cs2:=by
    rw[hcs2]
    refine hk1'.two hfs hs1 hz1 hs2 hz2 (hB1' c.x hcx hc.2.2) hB2' (fun e he=>hlo e (List.mem_append_left _ he)) hb1 hb2 hhi fun d hd e he=>?_
    have:=(List.pairwise_append.1 hk1.ord).2.2 d hd c (by simp) e he
    omega
   have hpost:∀d∈post,s<d.x:=fun d hd=>by
    have h1:=hhi d hd f0 (List.mem_append_right _ hf0)
    have h2:=hb2 f0 hf0
    omega
   have hlayB:lay m1 s nx=nodeB cs2:=by
    have hsrt:=hg1.srt
    rw[hmm] at hsrt ⊢
    rw[hcs2]
    have e5:nodeB (pre++c::post)=(nodeB pre++[(c.x,(c.p:Int))])++nodeB post:=by simp[nodeB]
    rw[e5] at hsrt ⊢
    rw[lay_left (fun e he=>?_)]
    ·have:lay (nodeB post) s nx=[(s,(nx:Int))]++nodeB post:=lay_right (C:=[]) (D:=nodeB post) fun e he=>by
      obtain⟨d,hd,rfl⟩:=List.mem_map.1 he
      exact hpost d hd
     rw[this];simp[nodeB]
    ·rcases List.mem_append.1 he with he|he
     ·have:=(List.pairwise_append.1 (List.pairwise_append.1 hsrt).1).2.2 e he _ (List.mem_singleton.2 rfl)
      have h6:e.1<c.x:=this
      omega
     ·rw[List.mem_singleton.1 he];exact hcs
   have hbs:∀b,b≤k→lowE L a b→∀e∈lay m1 s nx,b≤e.1:=fun b hb hl e he=>by
    rcases mem_lay he with rfl|he
    ·have:=hbm b hb hl _ (List.mem_of_getElem? hw)
     have h9:b≤c.x:=this
     show b≤s
     omega
    ·exact hbm b hb hl e he
   have oR:=o1.trans (o.ext nR hRo)
   have hP2:(a::cs2.flatMap (·.S)).Perm (R++(S1++S2)):=by
    have:=hPerm (S1++S2) []
    rw[flat_mid] at this
    rw[hcs2,flat_mid,List.flatMap_cons]
    simpa[List.append_assoc] using this
   have oP:=oR.perm (.refl _) hP2.symm
   have hnd2:=oP.nd
   have hlt2:=oP.lt
   have hflat2:cs2.flatMap (·.ks)=pre.flatMap (·.ks)++(lay c.ks k v++post.flatMap (·.ks)):=by
    rw[hcs2,flat_mid,List.flatMap_cons,hk12,List.append_assoc]
   have haS:a∉cs2.flatMap (·.S):=(List.nodup_cons.1 (List.nodup_append.1 hnd2).1).1
   have ha2l:a<L2.length:=hlt2 a (by simp)
   have hm16:((if k<x0 then k else x0),v0)::mr=m1:=hm1.symm
   obtain⟨L3,F3,nx2,sp2,cS,hr⟩:=set_any L2 F2 root high n a s nx ga2 hg1 (by omega) (by omega) fun j hj=>hlt2 j (by simp[hj])
   rw[hL1] at cR
   have cP:ATriple Tryz.prog gv R0 163 [.ref (0,0) 0,i64V a,i64V (h+1:Nat),u32V k,i64V v] [.abs (trD L F root high n)] (.tup [i64V nx2,.bool sp2]) [.abs (trD L3 F3 root high n)] none:=by
    cases sp2 with
    | true=>exact tput_n1t L L2 F F2 root high n a h c.p nx k v (by omega) g1 hm6 hm1 hg1 hw L3 F3 nx2 hn hr5 cR cS
    | false=>exact tput_n1f L L2 F F2 root high n a h c.p nx k v (by omega) g1 hm6 hm1 hg1 hw L3 F3 nx2 hn hr5 cR cS
   refine⟨L3,F3,nx2,sp2,cP,?_⟩
   rcases hr with⟨rfl,rfl,rfl,rfl,hin⟩|⟨rfl,l1,l2,s',sv',r',f1,f2,f3,f4,f5,f6,rfl,rfl,rfl⟩
   ·rw[hlayB] at hin
    rw[hlayB]
    have ga3:(L2.set a (nodeB cs2))[a]?=some (nodeB cs2):=List.getElem?_set_self ha2l
    refine⟨by rw[List.length_set];omega,q2,.inl ⟨rfl,rfl,_,oP.trans (Own.set hnd2 hlt2 (by simp) _),?_,?_⟩⟩
    ·have hk3:Kids (L2.set a (nodeB cs2)) h cs2:=hk2.frame fun p hp=>by
      rw[List.getElem?_set_ne]
      rintro rfl
      exact haS hp
     have:=hk3.node ga3 (by rw[←hlayB];exact hg1.lay (by rw[hlayB];exact hin))
     rw[hflat2] at this
     exact this
    ·exact⟨by rw[sz_of g1,sz_of ga3,←hlayB,lay_len,hm1];simp,fun b hb hl=>by rw[low_of ga3,←hlayB];exact hbs b hb hl⟩
   ·rw[hlayB] at f1
    obtain⟨csA,csB,h1,h2,h3⟩:=List.map_eq_append_iff.1 f1
    have h2:nodeB csA=l1:=h2
    have h3:nodeB csB=l2:=h3
    have o2:=Own.set hnd2 hlt2 (List.mem_cons_self (a:=a) (l:=cs2.flatMap (·.S))) l1
    obtain⟨o3,g2',g3,g4⟩:=Own.add (L:=L2.set a l1) o2.nd o2.lt l2
    have hl3:∀p∈a::cs2.flatMap (·.S),(addL (L2.set a l1) F2 l2)[p]?=(L2.set a l1)[p]?:=fun p hp=>g4 p (o2.lt p (List.mem_append_left _ hp)) fun hm=>(List.nodup_append.1 o2.nd).2.2 p hp p hm rfl
    have ga3:(addL (L2.set a l1) F2 l2)[a]?=some l1:=by rw[hl3 a (by simp)];exact List.getElem?_set_self ha2l
    rw[List.length_set] at g2' o3 g3
    have hk3:Kids (addL (L2.set a l1) F2 l2) h (csA++csB):=by
     rw[←h1]
     exact hk2.frame fun p hp=>by
      rw[hl3 p (by simp[hp]),List.getElem?_set_ne]
      rintro rfl
      exact haS hp
    have hsl:=lay_srt (k:=s) (v:=nx) hg1.srt
    rw[hlayB,f1] at hsl
    obtain⟨s1,s2,s3⟩:=List.pairwise_append.1 hsl
    have hAne:csA≠[]:=by rintro rfl;rw[←h2] at f3;simp[nodeB] at f3
    have hBne:csB≠[]:=by rintro rfl;rw[←h3] at f5;simp[nodeB] at f5
    have kA:=hk3.left hAne
    have kB:=hk3.right hBne
    have sA:=kA.node (a:=a) (by rw[h2];exact ga3) (by rw[h2];exact⟨s1,f4⟩)
    have sB:=kB.node (a:=addP L2.length F2) (by rw[h3];exact g2') (by rw[h3];exact⟨s2,f6⟩)
    have zA:3≤sz (addL (L2.set a l1) F2 l2) a:=by rw[sz_of ga3];exact f3
    have zB:3≤sz (addL (L2.set a l1) F2 l2) (addP L2.length F2):=by rw[sz_of g2'];exact f5
    have hPf:(addP L2.length F2::(a::cs2.flatMap (·.S))).Perm ((a::csA.flatMap (·.S))++(addP L2.length F2::csB.flatMap (·.S))):=by
     rw[h1,List.flatMap_append]
     exact(List.perm_middle (a:=addP L2.length F2) (l₁:=a::csA.flatMap (·.S)) (l₂:=csB.flatMap (·.S))).symm
    refine⟨by omega,by simp;omega,.inr ⟨rfl,_,_,_,_,s',sv',r',(oP.trans (o2.trans o3)).perm (.refl _) hPf,?_,sA,sB,by rw[g2',f2],?_,fun e he=>?_,fun e he=>?_,sA.ne (by omega),sB.ne (by omega),zA,zB,fun b hb hl=>?_,?_⟩⟩
    ·rw[←hflat2,h1,List.flatMap_append]
    ·rw[f2] at f6;simpa using f6
    ·cases csB with
     | nil=>exact absurd rfl hBne
     | cons d0 cB=>
      rw[f2] at h3
      have hx:d0.x=s':=by
       have:=congrArg List.head? h3
       simp[nodeB] at this
       exact this.1
      obtain⟨d,hd,he⟩:=List.mem_flatMap.1 he
      rw[←hx]
      exact(List.pairwise_append.1 hk3.ord).2.2 d hd d0 (by simp) e he
    ·cases csB with
     | nil=>exact absurd rfl hBne
     | cons d0 cB=>
      have h3':=h3
      rw[f2] at h3'
      have hx:d0.x=s':=by
       have:=congrArg List.head? h3'
       simp[nodeB] at this
       exact this.1
      obtain⟨d,hd,he⟩:=List.mem_flatMap.1 he
      have h7:=kB.low d hd e he
      rcases List.mem_cons.1 hd with rfl|hd
      ·omega
      ·rw[←h3] at s2
       have h8:=(List.pairwise_cons.1 s2).1 (d.x,(d.p:Int)) (List.mem_map.2 ⟨d,hd,rfl⟩)
       have h9:d0.x<d.x:=h8
       omega
    ·rw[low_of ga3]
     intro e he
     exact hbs b hb hl e (by rw[hlayB,f1];exact List.mem_append_left _ he)
    ·rw[low_of g2']
     intro e he
     rw[f2] at he s2
     rcases List.mem_cons.1 he with rfl|he
     ·exact Int.le_refl _
     ·have:=(List.pairwise_cons.1 s2).1 e he
      have h9:s'<e.1:=this
      omega
end Go.Proofs.YtbppemcdphgknaaGreatDoor.T
namespace Go.Proofs.YtbppemcdphgknaaGreatDoor.T
open Go Go.Vm
theorem Sub.first:∀{L:List PL} {h a:Nat} {S:List Nat} {ks:PL} {x w:Int} {r:PL},Sub L h a S ks→L[a]?=some ((x,w)::r)→∀e∈ks,x≤e.1
 | _,0,_,_,_,x,w,r,hs,hg=>fun e he=>by
  obtain⟨rfl,h1,h2⟩:=hs
  rw[hg] at h1;cases h1
  rcases List.mem_cons.1 he with rfl|he
  ·exact Int.le_refl _
  ·have:=(List.pairwise_cons.1 h2.srt).1 e he
   have h3:x<e.1:=this
   omega
 | L,h+1,a,_,_,x,w,r,hs,hg=>fun e he=>by
  obtain⟨cs,h1,h2,rfl,rfl,hk⟩:=hs.kids
  rw[hg] at h1
  cases cs with
  | nil=>exact absurd rfl hk.ne
  | cons c0 cr=>
   have hx:c0.x=x:=by
    have:=congrArg (fun o=>o.bind List.head?) h1
    simp[nodeB] at this
    exact this.1.symm
   obtain⟨d,hd,he⟩:=List.mem_flatMap.1 he
   have h7:=hk.low d hd e he
   rcases List.mem_cons.1 hd with rfl|hd
   ·omega
   ·have h8:=(List.pairwise_cons.1 h2.srt).1 (d.x,(d.p:Int)) (List.mem_map.2 ⟨d,hd,rfl⟩)
    have h9:c0.x<d.x:=h8
    omega
def TS (L:List PL) (F:List Nat) (root h:Nat) (ks:PL):Prop:=∃S,Sub L h root S ks∧(S++F).Nodup∧(∀p∈S++F,p<L.length)∧(1≤h→2≤sz L root)
theorem TS.new:TS [[]] [] 0 0 []:=⟨[0],⟨rfl,rfl,⟨List.Pairwise.nil,by simp⟩⟩,by simp,by simp,fun h=>by omega⟩
theorem TS.srt {L:List PL} {F:List Nat} {root h:Nat} {ks:PL} (t:TS L F root h ks):Srt ks:=by
 obtain⟨S,hs,_⟩:=t;exact hs.srt
theorem get_ts {L:List PL} {F:List Nat} {root h:Nat} {ks:PL} (t:TS L F root h ks) (hh:h≤1000000) (n k:Int):∃g,ATriple Tryz.prog gv R0 124 [.ref (0,0) 0,u32V k] [.abs (trD L F root h n)] (.tup [i64V g,.bool (has ks k)]) [.abs (trD L F root h n)] none∧(has ks k=true→(k,g)∈ks)∧(has ks k=false→g=0):=by
 obtain⟨S,hs,_⟩:=t
 obtain⟨m,l,q1,q2,q3,q4⟩:=hs.path k
 cases hk:has ks k with
 | true=>
  rw[hk] at q3
  obtain⟨v,hv⟩:=has_get q3.symm
  exact⟨v,get_yes L F root h n k hh q1 q2 q3.symm hv,fun _=>q4 _ (List.mem_of_getElem? hv),fun h=>by cases h⟩
 | false=>
  rw[hk] at q3
  exact⟨0,get_no L F root h n k hh q1 q2 q3.symm,fun h=>(by cases h),fun _=>rfl⟩
theorem put_ts {L:List PL} {F:List Nat} {root h:Nat} {ks:PL} (t:TS L F root h ks) (hL:L.length+h≤900000) (hF:F.length≤1000000) (hn:ks.length≤900000) (k v:Int) :
  ∃(L':List PL) (F':List Nat) (root' h':Nat),ATriple Tryz.prog gv R0 128 [.ref (0,0) 0,u32V k,i64V v] [.abs (trD L F root h ks.length)] (.tup []) [.abs (trD L' F' root' h' (lay ks k v).length)] none∧TS L' F' root' h' (lay ks k v)∧L'.length≤L.length+h+2∧F'.length≤F.length∧h'≤h+1:=by
 obtain⟨g,cG,_,_⟩:=get_ts t (by omega) ks.length k
 obtain⟨S,hs,hnd,hlt,hrt⟩:=t
 have hlen:=lay_len ks k v
 obtain⟨n',hn'⟩:∃n':Int,n'=((lay ks k v).length:Int):=⟨_,rfl⟩
 obtain⟨L2,F2,nx,sp,cP,q1,q2,q3⟩:=put_rec root h n' k v h L F root S ks hs hnd hlt (by omega) hF
 rcases q3 with⟨rfl,rfl,S',o,hs',hz,_⟩|⟨rfl,S1,S2,k1,k2,s,sv,r,o,hk12,hs1,hs2,hn2,hr5,hb1,hb2,hne1,hne2,hz1,hz2,hB1',hB2'⟩
 ·refine⟨L2,F2,root,h,?_,⟨S',hs',o.nd,o.lt,fun hh=>by have:=hrt hh;omega⟩,by omega,q2,by omega⟩
  rw[←hn']
  cases hh:has ks k with
  | true=>
   rw[hh] at cG hlen
   have e:n'=ks.length:=by rw[hn',hlen];simp
   rw[e] at cP ⊢
   exact Tput_y0 L L2 F F2 root h 0 ks.length k v g (by omega) (by omega) cG cP
  | false=>
   rw[hh] at cG hlen
   have e:n'=(ks.length:Int)+1:=by rw[hn',hlen];simp
   rw[e] at cP ⊢
   exact Tput_n0 L L2 F F2 root h 0 ks.length k v g (by omega) (by omega) cG cP
 ·obtain⟨rb,hrb⟩:∃rb,L2[root]?=some rb:=by
   cases hg:L2[root]? with
   | none=>rw[sz,hg] at hz1;simp at hz1
   | some rb=>exact⟨rb,rfl⟩
  have hrbL:Lg rb:=by
   cases h with
   | zero=>obtain⟨rfl,e1,e2⟩:=hs1;rw[hrb] at e1;cases e1;exact e2
   | succ h=>obtain⟨cs,e1,e2,_⟩:=hs1.kids;rw[hrb] at e1;cases e1;exact e2
  have hrb6:=hrbL.len
  rw[sz_of hrb] at hz1
  obtain⟨⟨r0,w0⟩,rr,rfl⟩:∃x y,rb=x::y:=by
   cases rb with
   | nil=>simp at hz1
   | cons x y=>exact⟨x,y,rfl⟩
  have hfirst:=hs1.first hrb
  obtain⟨e0,he0⟩:=List.exists_mem_of_ne_nil _ hne1
  have hrs:r0<s:=by have:=hfirst e0 he0;have:=hb1 e0 he0;omega
  have hF2j:∀j∈F2,j<L2.length:=fun j hj=>o.lt j (by simp[hj])
  obtain⟨o2,g2,g3,g4⟩:=Own.add o.nd o.lt [(r0,(root:Int)),(s,(nx:Int))]
  have cA:=add_ok L2 F2 root h n' [(r0,(root:Int)),(s,(nx:Int))] (by omega) (by omega) hF2j
  have hkeep:∀p∈S1++S2,(addL L2 F2 [(r0,(root:Int)),(s,(nx:Int))])[p]?=L2[p]?:=fun p hp=>g4 p (o.lt p (List.mem_append_left _ hp)) fun hm=>(List.nodup_append.1 o.nd).2.2 p hp p hm rfl
  refine⟨addL L2 F2 [(r0,(root:Int)),(s,(nx:Int))],F2.dropLast,addP L2.length F2,h+1,?_,⟨addP L2.length F2::(S1++S2),?_,o2.nd,o2.lt,fun _=>by rw[sz_of g2];simp⟩,by omega,by simp;omega,by omega⟩
  ·rw[←hn']
   cases hh:has ks k with
   | true=>
    rw[hh] at cG hlen
    have e:n'=ks.length:=by rw[hn',hlen];simp
    rw[e] at cP cA ⊢
    exact Tput_y1 L L2 F F2 root h nx ks.length k v g (by omega) (by omega) cG cP hrb (by simp at hrb6;omega) hn2 hr5 _ _ _ cA
   | false=>
    rw[hh] at cG hlen
    have e:n'=(ks.length:Int)+1:=by rw[hn',hlen];simp
    rw[e] at cP cA ⊢
    exact Tput_n1 L L2 F F2 root h nx ks.length k v g (by omega) (by omega) cG cP hrb (by simp at hrb6;omega) hn2 hr5 _ _ _ cA
  ·have hK:Kids (addL L2 F2 [(r0,(root:Int)),(s,(nx:Int))]) h [⟨r0,root,S1,k1⟩,⟨s,nx,S2,k2⟩]:=by
    refine⟨by simp,fun c hc=>?_,fun c hc e he=>?_,?_⟩
    ·simp only[List.mem_cons,List.not_mem_nil,or_false] at hc
     rcases hc with rfl|rfl
     ·exact⟨hs1.frame fun p hp=>hkeep p (by simp[hp]),by rw[sz_congr (hkeep root (by simp[hs1.root])),sz_of hrb];exact hz1,low_congr (hkeep root (by simp[hs1.root])) ((low_of hrb).2 fun e he=>by
      rcases List.mem_cons.1 he with rfl|he
      ·exact Int.le_refl _
      ·have h9:r0<e.1:=(List.pairwise_cons.1 hrbL.srt).1 e he
       show r0≤e.1
       omega)⟩
     ·exact⟨hs2.frame fun p hp=>hkeep p (by simp[hp]),by rw[sz_congr (hkeep nx (by simp[hs2.root]))];exact hz2,low_congr (hkeep nx (by simp[hs2.root])) hB2'⟩
    ·simp only[List.mem_cons,List.not_mem_nil,or_false] at hc
     rcases hc with rfl|rfl
     ·exact hfirst e he
     ·exact hb2 e he
    ·refine List.pairwise_cons.2 ⟨fun d hd e he=>?_,List.pairwise_singleton _ _⟩
     obtain rfl:=List.mem_singleton.1 hd
     exact hb1 e he
   have:=hK.node (a:=addP L2.length F2) g2 ⟨by simp[nodeB];exact hrs,by simp[nodeB]⟩
   rw[hk12]
   simpa using this
end Go.Proofs.YtbppemcdphgknaaGreatDoor.T
namespace Go.Proofs.YtbppemcdphgknaaGreatDoor.T
open Go Go.Vm
def nx (ks:PL) (k:Int):Option (Int×Int):=ks.find? fun e=>decide (k≤e.1)
def nxV:Option (Int×Int)→V
 | none=>.tup [u32V 0,i64V 0,.bool false]
 | some e=>.tup [u32V e.1,i64V e.2,.bool true]
theorem nx_left {A C:PL} {k:Int} (h:∀e∈A,e.1<k):nx (A++C) k=nx C k:=by
 unfold nx
 rw[List.find?_append,List.find?_eq_none.2 fun e he=>by have:=h e he;simp;omega]
 rfl
theorem nx_app (A C:PL) (k:Int):nx (A++C) k=(nx A k).or (nx C k):=by
 unfold nx
 rw[List.find?_append]
theorem next_rec (root high n k:Int):∀(h:Nat) (L:List PL) (F:List Nat) (a:Nat) (S:List Nat) (ks:PL),Sub L h a S ks→h≤1000000→
  ATriple Tryz.prog gv R0 115 [.ref (0,0) 0,i64V a,i64V h,u32V k] [.abs (trD L F root high n)] (nxV (nx ks k)) [.abs (trD L F root high n)] none
 | 0,L,F,a,S,ks,hs,_=>by
  obtain⟨rfl,h1,h2⟩:=hs
  obtain⟨A,D,e1,e2,e3,e4,_⟩:=rank_spec k h2.srt
  cases D with
  | nil=>
   rw[List.append_nil] at e1
   have:nx ks k=none:=by
    unfold nx
    exact List.find?_eq_none.2 fun e he=>by have:=e3 e (e1▸he);simp;omega
   rw[this]
   exact tnext_0n L F root high n a k h1 h2 (by rw[←e2,e1])
  | cons d D=>
   have hd:=e4 d (by simp)
   have:nx ks k=some d:=by
    rw[e1,nx_left e3]
    unfold nx
    rw[List.find?_cons_of_pos (by simpa using hd)]
   rw[this]
   exact tnext_0y L F root high n a k h1 h2 (q:=A.length) e2.symm (x:=d.1) (w:=d.2) (by rw[e1];simp)
 | h+1,L,F,a,S,ks,hs,hh=>by
  obtain⟨cs,h1,h2,rfl,rfl,hk⟩:=hs.kids
  obtain⟨pre,c,post,e1,e2,e3,e4⟩:=ch_split k h2.srt hk.ne
  have hcs:∀(i:Nat) (x v:Int),(nodeB cs)[i]?=some (x,v)→∃c:Nat,v=(c:Int):=fun i x v hi=>by
   unfold nodeB at hi
   rw[List.getElem?_map] at hi
   cases hc:cs[i]? with
   | none=>rw[hc] at hi;cases hi
   | some d=>rw[hc] at hi;simp at hi;exact⟨d.p,hi.2.symm⟩
  have hat:∀(i:Nat) (x:Int) (p:Nat),(nodeB cs)[i]?=some (x,(p:Int))→∃d,cs[i]?=some d∧d.p=p:=fun i x p hi=>by
   unfold nodeB at hi
   rw[List.getElem?_map] at hi
   cases hc:cs[i]? with
   | none=>rw[hc] at hi;cases hi
   | some d=>rw[hc] at hi;simp at hi;exact⟨d,rfl,by omega⟩
  have hR:∀d∈cs,ATriple Tryz.prog gv R0 115 [.ref (0,0) 0,i64V d.p,i64V h,u32V k] [.abs (trD L F root high n)] (nxV (nx d.ks k)) [.abs (trD L F root high n)] none:=fun d hd=>
   next_rec root high n k h L F d.p d.S d.ks (hk.sub d hd).1 (by omega)
  have hfl:nx (cs.flatMap (·.ks)) k=(nx c.ks k).or (nx (post.flatMap (·.ks)) k):=by
   have hord:=hk.ord
   rw[e1] at hord ⊢
   rw[flat_mid,nx_left (side_l hord e4),nx_app]
  have hcw:cs[wayI (nodeB cs) k]?=some c:=by rw[←e2,e1];simp
  have hlen:(nodeB cs).length=pre.length+1+post.length:=by rw[e1];simp[nodeB];omega
  rw[hfl]
  cases hc:nx c.ks k with
  | some e=>
   have hr:=hR c (by rw[e1];simp)
   rw[hc] at hr
   refine tnext_y L F root high n a h k h1 h2 (by omega) hcs (wayI (nodeB cs) k) (Nat.le_refl _) (fun i x p hi hi2 _=>by omega) (by omega) (y:=e.1) (w:=e.2) (x0:=c.x) (c0:=c.p) ?_ hr
   unfold nodeB at hcw ⊢
   rw[List.getElem?_map,hcw];rfl
  | none=>
   have hno:∀(i:Nat) (x:Int) (p:Nat),wayI (nodeB cs) k≤i→i<wayI (nodeB cs) k+1→(nodeB cs)[i]?=some (x,(p:Int))→ATriple Tryz.prog gv R0 115 [.ref (0,0) 0,i64V p,i64V h,u32V k] [.abs (trD L F root high n)] (.tup [u32V 0,i64V 0,.bool false]) [.abs (trD L F root high n)] none:=fun i x p hi hi2 hg=>by
    obtain rfl:i=wayI (nodeB cs) k:=by omega
    obtain⟨d,hd,rfl⟩:=hat _ _ _ hg
    rw[hcw] at hd;cases hd
    have hr:=hR c (by rw[e1];simp)
    rw[hc] at hr
    exact hr
   cases post with
   | nil=>
    exact tnext_n L F root high n a h k h1 h2 (by omega) hcs (wayI (nodeB cs) k+1) (by omega) hno (by rw[hlen,←e2];rfl)
   | cons d post=>
    have hdm:d∈cs:=by rw[e1];simp
    have hdx:=e3 d (by simp)
    have hne:=(hk.sub d hdm).1.ne (by have:=(hk.sub d hdm).2.1;omega)
    obtain⟨e,r,her⟩:∃e r,d.ks=e::r:=by
     cases hh:d.ks with
     | nil=>exact absurd hh hne
     | cons e r=>exact⟨e,r,rfl⟩
    have hle:=hk.low d hdm e (by rw[her];simp)
    have hd:nx d.ks k=some e:=by
     rw[her];unfold nx
     rw[List.find?_cons_of_pos (by simp;omega)]
    have hr:=hR d hdm
    rw[hd] at hr
    have:nx ((d::post).flatMap (·.ks)) k=some e:=by rw[List.flatMap_cons,nx_app,hd];rfl
    rw[this]
    have hdw:cs[wayI (nodeB cs) k+1]?=some d:=by rw[←e2,e1];simp
    refine tnext_y L F root high n a h k h1 h2 (by omega) hcs (wayI (nodeB cs) k+1) (by omega) hno (by simp at hlen;omega) (y:=e.1) (w:=e.2) (x0:=d.x) (c0:=d.p) ?_ hr
    unfold nodeB at hdw ⊢
    rw[List.getElem?_map,hdw];rfl
end Go.Proofs.YtbppemcdphgknaaGreatDoor.T
namespace Go.Proofs.YtbppemcdphgknaaGreatDoor.T
open Go Go.Vm
theorem ntop_y (L:List PL) (F:List Nat) (root h:Nat) (n k y w:Int) (cN:ATriple Tryz.prog gv R0 115 [.ref (0,0) 0,i64V root,i64V h,u32V k] [.abs (trD L F root h n)] (.tup [u32V y,i64V w,.bool true]) [.abs (trD L F root h n)] none):ATriple Tryz.prog gv R0 73 [.ref (0,0) 0,u32V k] [.abs (trD L F root h n)] (.tup [u32V y,i64V w,.bool true]) [.abs (trD L F root h n)] (none):=by
 refine ATriple.of_bodyW (C:=cxT) Tryz.func73 rfl (by kernel_rfl) (mixedOf _) rfl (by simp[okA,okC,okN]) (by simp[okOb,okC,okN]) (by simp[okG,okA,okC,okN]) (by simp[okOb,okC,okN]) (fun o ho=>by cases ho) 2 [.opn (0,0) [23,24]] fun E hE=>?_
 all_goals exact kb25
theorem ntop_n (L:List PL) (F:List Nat) (root h:Nat) (n k y w:Int) (cN:ATriple Tryz.prog gv R0 115 [.ref (0,0) 0,i64V root,i64V h,u32V k] [.abs (trD L F root h n)] (.tup [u32V 0,i64V 0,.bool false]) [.abs (trD L F root h n)] none):ATriple Tryz.prog gv R0 73 [.ref (0,0) 0,u32V k] [.abs (trD L F root h n)] (.tup [u32V 0,i64V 0,.bool false]) [.abs (trD L F root h n)] (none):=by
 refine ATriple.of_bodyW (C:=cxT) Tryz.func73 rfl (by kernel_rfl) (mixedOf _) rfl (by simp[okA,okC,okN]) (by simp[okOb,okC,okN]) (by simp[okG,okA,okC,okN]) (by simp[okOb,okC,okN]) (fun o ho=>by cases ho) 2 [.opn (0,0) [23,24]] fun E hE=>?_
 all_goals exact kb25
theorem next_ts {L:List PL} {F:List Nat} {root h:Nat} {ks:PL} (t:TS L F root h ks) (hh:h≤1000000) (n k:Int):ATriple Tryz.prog gv R0 73 [.ref (0,0) 0,u32V k] [.abs (trD L F root h n)] (nxV (nx ks k)) [.abs (trD L F root h n)] none:=by
 obtain⟨S,hs,_⟩:=t
 have c:=next_rec root h n k h L F root S ks hs hh
 cases hx:nx ks k with
 | none=>rw[hx] at c;exact ntop_n L F root h n k 0 0 c
 | some e=>rw[hx] at c;exact ntop_y L F root h n k e.1 e.2 c
end Go.Proofs.YtbppemcdphgknaaGreatDoor.T
namespace Go.Proofs.YtbppemcdphgknaaGreatDoor.T
open Go Go.Vm
theorem Own.free {L:List PL} {S F:List Nat} {q:Nat} (h:((q::S)++F).Nodup) (hl:∀p∈(q::S)++F,p<L.length):Own L (q::S) F L S (F++[q]):=by
 have hp:((q::S)++F).Perm (S++(F++[q])):=by
  rw[←List.append_assoc]
  exact List.perm_append_comm (l₁:=[q]) (l₂:=S++F)
 exact⟨hp.nodup_iff.1 h,fun p hm=>.inl (hp.mem_iff.2 hm),fun p hm=>hl p (hp.mem_iff.2 hm),Nat.le_refl _,fun _ _ _=>rfl⟩
theorem out_app (A C:PL) (k:Int):out (A++C) k=out A k++out C k:=by simp[out]
theorem mem_out {l:PL} {k:Int} {e:Int×Int}:e∈out l k↔e∈l∧e.1≠k:=by simp[out]
theorem out_mid {pre post:List Ch} {c:Ch} {k:Int} (hl:∀e∈pre.flatMap (·.ks),e.1<k) (hr:∀e∈post.flatMap (·.ks),k<e.1):out ((pre++c::post).flatMap (·.ks)) k=pre.flatMap (·.ks)++(out c.ks k++post.flatMap (·.ks)):=by
 have e1:out (pre.flatMap (·.ks)) k=pre.flatMap (·.ks):=out_none fun x hx=>by have:=hl x hx;omega
 have e2:out (post.flatMap (·.ks)) k=post.flatMap (·.ks):=out_none fun x hx=>by have:=hr x hx;omega
 rw[flat_mid,out_app,out_app,e1,e2]
theorem out_len {l:PL} {k:Int} (hs:Srt l) (h:has l k=true):(out l k).length+1=l.length:=by
 induction l with
 | nil=>simp[has] at h
 | cons a r ih=>
  have hs':=List.pairwise_cons.1 hs
  by_cases hk:a.1<k
  ·rw[has,if_pos hk] at h
   have:=ih hs'.2 h
   have e:out (a::r) k=a::out r k:=by
    unfold out
    rw[List.filter_cons_of_pos (by simp;omega)]
   rw[e,List.length_cons,List.length_cons];omega
  ·rw[has,if_neg hk] at h
   have hak:a.1=k:=by simpa using h
   have e:out (a::r) k=r:=by
    unfold out
    rw[List.filter_cons_of_neg (by simp[hak])]
    exact out_none fun x hx=>by have:=hs'.1 x hx;omega
   rw[e,List.length_cons]
end Go.Proofs.YtbppemcdphgknaaGreatDoor.T
namespace Go.Proofs.YtbppemcdphgknaaGreatDoor.T
open Go Go.Vm
theorem Sub.blk:∀{L:List PL} {h a:Nat} {S:List Nat} {ks:PL},Sub L h a S ks→∃l,L[a]?=some l∧Lg l
 | _,0,_,_,ks,h=>⟨ks,h.2.1,h.2.2⟩
 | _,_+1,_,_,_,h=>by obtain⟨cs,h1,h2,_⟩:=h;exact⟨_,h1,h2⟩
theorem Sub.tail:∀{L:List PL} {h a:Nat} {S:List Nat} {ks:PL},Sub L h a S ks→∃T,S=a::T
 | _,0,_,_,ks,h=>⟨[],h.1⟩
 | _,_+1,_,_,_,h=>by obtain⟨cs,h1,h2,_,h3,_⟩:=h;exact⟨_,h3⟩
theorem Sub.blk_lt:∀{L:List PL} {h a:Nat} {S:List Nat} {ks l:PL} {z:Int},Sub L h a S ks→L[a]?=some l→(∀e∈ks,e.1<z)→∀e∈l,e.1<z
 | _,0,_,_,ks,l,z,h,hg,hz=>by
  obtain⟨rfl,h1,h2⟩:=h
  rw[hg] at h1;cases h1
  exact hz
 | L,h+1,a,_,_,l,z,hs,hg,hz=>by
  obtain⟨cs,h1,h2,rfl,rfl,hk⟩:=hs.kids
  rw[hg] at h1;cases h1
  intro e he
  obtain⟨c,hc,rfl⟩:=List.mem_map.1 he
  have hc':=hk.sub c hc
  obtain⟨f,hf⟩:=List.exists_mem_of_ne_nil _ (hc'.1.ne (by omega))
  have h3:=hk.low c hc f hf
  have h4:=hz f (List.mem_flatMap.2 ⟨c,hc,hf⟩)
  show c.x<z
  omega
theorem aft_of {l1 l2:PL} {z:Int} (h1:∀e∈l1,e.1<z) (h2:∀e∈l2,z≤e.1):aft l1 l2=true:=by
 cases l2 with
 | nil=>rfl
 | cons y r=>
  cases hg:l1.getLast? with
  | none=>simp only[aft,hg]
  | some x=>
   have e1:=h1 x (List.mem_of_getLast? hg)
   have e2:=h2 y (by simp)
   simp only[aft,hg]
   exact decide_eq_true (by omega)
theorem srt_app {l1 l2:PL} {z:Int} (s1:Srt l1) (s2:Srt l2) (h1:∀e∈l1,e.1<z) (h2:∀e∈l2,z≤e.1):Srt (l1++l2):=
 List.pairwise_append.2 ⟨s1,s2,fun a ha b hb=>by have:=h1 a ha;have:=h2 b hb;omega⟩
theorem Sub.both {L L':List PL} {h p q:Nat} {cs1 cs2:List Ch} (k1:Kids L h cs1) (k2:Kids L h cs2) (hk:∀e∈cs1.flatMap (·.ks),∀f∈nodeB cs2,e.1<f.1) (hf:∀r∈cs1.flatMap (·.S)++cs2.flatMap (·.S),L'[r]?=L[r]?):Kids L' h (cs1++cs2):=by
 have a1:=k1.frame (L':=L') fun r hr=>hf r (List.mem_append_left _ hr)
 have a2:=k2.frame (L':=L') fun r hr=>hf r (List.mem_append_right _ hr)
 refine⟨by simp[k1.ne],fun c hc=>?_,fun c hc=>?_,List.pairwise_append.2 ⟨a1.ord,a2.ord,fun c hc d hd e he=>?_⟩⟩
 ·rcases List.mem_append.1 hc with hc|hc
  ·exact a1.sub c hc
  ·exact a2.sub c hc
 ·rcases List.mem_append.1 hc with hc|hc
  ·exact a1.low c hc
  ·exact a2.low c hc
 ·exact hk e (List.mem_flatMap.2 ⟨c,hc,he⟩) (d.x,(d.p:Int)) (List.mem_map.2 ⟨d,hd,rfl⟩)
theorem nodeB_app' (a b:List Ch):nodeB (a++b)=nodeB a++nodeB b:=by simp[nodeB]
theorem Sub.join {L L':List PL} {h p q:Nat} {T1 T2:List Nat} {k1 k2 l1 l2:PL} (s1:Sub L h p (p::T1) k1) (s2:Sub L h q (q::T2) k2) (g1:L[p]?=some l1) (g2:L[q]?=some l2) (hl:Lg (l1++l2)) (hk:∀e∈k1,∀f∈l2,e.1<f.1)
  (hp:L'[p]?=some (l1++l2)) (hf:∀r∈T1++T2,L'[r]?=L[r]?):Sub L' h p (p::(T1++T2)) (k1++k2):=by
 cases h with
 | zero=>
  obtain⟨e1,e2,e3⟩:=s1
  obtain⟨f1,f2,f3⟩:=s2
  obtain rfl:T1=[]:=by simpa using e1
  obtain rfl:T2=[]:=by simpa using f1
  rw[g1] at e2;cases e2
  rw[g2] at f2;cases f2
  exact⟨rfl,hp,hl⟩
 | succ h=>
  obtain⟨cs1,a1,a2,a3,rfl,a5⟩:=s1.kids
  obtain⟨cs2,b1,b2,b3,rfl,b5⟩:=s2.kids
  obtain rfl:T1=_:=(List.cons.inj a3).2
  obtain rfl:T2=_:=(List.cons.inj b3).2
  rw[g1] at a1;cases a1
  rw[g2] at b1;cases b1
  have hK:=Sub.both (p:=p) (q:=q) a5 b5 hk hf
  have:=hK.node (a:=p) (by rw[hp,nodeB_app']) (by rw[nodeB_app'];exact hl)
  rw[List.flatMap_append,List.flatMap_append] at this
  exact this
theorem Sub.even {L L':List PL} {h p q:Nat} {T1 T2:List Nat} {k1 k2 l1 l2 j1 j2:PL} (s1:Sub L h p (p::T1) k1) (s2:Sub L h q (q::T2) k2) (g1:L[p]?=some l1) (g2:L[q]?=some l2) (hl:Srt (l1++l2)) (hk:∀e∈k1,∀f∈l2,e.1<f.1)
  (hj:l1++l2=j1++j2) (hj1:j1.length≤6) (hj2:j2.length≤6) (n1:j1≠[]) (n2:j2≠[]) (hp:L'[p]?=some j1) (hq:L'[q]?=some j2) (hf:∀r∈T1++T2,L'[r]?=L[r]?) :
  ∃U1 U2 m1 m2,U1++U2=T1++T2∧m1++m2=k1++k2∧Sub L' h p (p::U1) m1∧Sub L' h q (q::U2) m2∧∀e∈m1,∀f∈j2,e.1<f.1:=by
 rw[hj] at hl
 obtain⟨x1,x2,x3⟩:=List.pairwise_append.1 hl
 cases h with
 | zero=>
  obtain⟨e1,e2,e3⟩:=s1
  obtain⟨f1,f2,f3⟩:=s2
  obtain rfl:T1=[]:=by simpa using e1
  obtain rfl:T2=[]:=by simpa using f1
  rw[g1] at e2;cases e2
  rw[g2] at f2;cases f2
  exact⟨[],[],j1,j2,rfl,hj.symm,⟨rfl,hp,x1,hj1⟩,⟨rfl,hq,x2,hj2⟩,x3⟩
 | succ h=>
  obtain⟨cs1,a1,a2,a3,rfl,a5⟩:=s1.kids
  obtain⟨cs2,b1,b2,b3,rfl,b5⟩:=s2.kids
  obtain rfl:T1=_:=(List.cons.inj a3).2
  obtain rfl:T2=_:=(List.cons.inj b3).2
  rw[g1] at a1;cases a1
  rw[g2] at b1;cases b1
  have hK:=Sub.both (p:=p) (q:=q) a5 b5 hk hf
  rw[←nodeB_app'] at hj
  obtain⟨cA,cB,c1,c2,c3⟩:=List.map_eq_append_iff.1 hj
  have c2:nodeB cA=j1:=c2
  have c3:nodeB cB=j2:=c3
  rw[c1] at hK
  have nA:cA≠[]:=by rintro rfl;exact n1 c2.symm
  have nB:cB≠[]:=by rintro rfl;exact n2 c3.symm
  refine⟨cA.flatMap (·.S),cB.flatMap (·.S),cA.flatMap (·.ks),cB.flatMap (·.ks),?_,?_,?_,?_,fun e he f hf=>?_⟩
  ·rw[←List.flatMap_append,←c1,List.flatMap_append]
  ·rw[←List.flatMap_append,←c1,List.flatMap_append]
  ·exact(hK.left nA).node (by rw[c2];exact hp) (by rw[c2];exact⟨x1,hj1⟩)
  ·exact(hK.right nB).node (by rw[c3];exact hq) (by rw[c3];exact⟨x2,hj2⟩)
  ·rw[←c3] at hf
   obtain⟨d,hd,rfl⟩:=List.mem_map.1 hf
   obtain⟨c,hc,he⟩:=List.mem_flatMap.1 he
   exact(List.pairwise_append.1 hK.ord).2.2 c hc d hd e he
structure KW (z:Nat) (L:List PL) (h:Nat) (cs:List Ch):Prop where
 ne:cs≠[]
 sub:∀c∈cs,Sub L h c.p c.S c.ks∧z≤sz L c.p∧lowE L c.p c.x
 low:∀c∈cs,∀e∈c.ks,c.x≤e.1
 ord:cs.Pairwise fun c d=>∀e∈c.ks,e.1<d.x
theorem Kids.kw {L:List PL} {h:Nat} {cs:List Ch} (k:Kids L h cs):KW 3 L h cs:=⟨k.ne,k.sub,k.low,k.ord⟩
theorem KW.kids {L:List PL} {h:Nat} {cs:List Ch} (k:KW 3 L h cs):Kids L h cs:=⟨k.ne,k.sub,k.low,k.ord⟩
theorem KW.mid {z z':Nat} {L L':List PL} {h:Nat} {pre mid post mid':List Ch} (hk:KW z L h (pre++(mid++post))) (hf:∀p∈pre.flatMap (·.S)++post.flatMap (·.S),L'[p]?=L[p]?) (hz:∀c,c∈pre∨c∈post→z'≤sz L c.p) (hn:mid'≠[])
  (hs:∀c∈mid',Sub L' h c.p c.S c.ks∧z'≤sz L' c.p∧lowE L' c.p c.x) (hlow:∀c∈mid',∀e∈c.ks,c.x≤e.1) (hord:mid'.Pairwise fun c d=>∀e∈c.ks,e.1<d.x)
  (hl:∀d∈pre,∀e∈d.ks,∀c∈mid',e.1<c.x) (hr:∀c∈mid',∀e∈c.ks,∀d∈post,e.1<d.x):KW z' L' h (pre++(mid'++post)):=by
 have hside:∀d,d∈pre∨d∈post→Sub L' h d.p d.S d.ks∧z'≤sz L' d.p∧lowE L' d.p d.x:=fun d hd=>by
  have hin:∀p∈d.S,L'[p]?=L[p]?:=fun p hp=>hf p (by
   rcases hd with hd|hd
   ·exact List.mem_append_left _ (List.mem_flatMap.2 ⟨d,hd,hp⟩)
   ·exact List.mem_append_right _ (List.mem_flatMap.2 ⟨d,hd,hp⟩))
  have:=hk.sub d (by rcases hd with hd|hd<;>simp[hd])
  exact⟨this.1.frame hin,by rw[sz_congr (hin _ this.1.root)];exact hz d hd,low_congr (hin _ this.1.root) this.2.2⟩
 obtain⟨o1,o2,o3⟩:=List.pairwise_append.1 hk.ord
 obtain⟨o4,o5,o6⟩:=List.pairwise_append.1 o2
 refine⟨by simp[hn],fun c hc=>?_,fun c hc=>?_,List.pairwise_append.2 ⟨o1,List.pairwise_append.2 ⟨hord,o5,fun c hc d hd e he=>hr c hc e he d hd⟩,fun c hc d hd e he=>?_⟩⟩
 ·rcases List.mem_append.1 hc with hc|hc
  ·exact hside c (.inl hc)
  ·rcases List.mem_append.1 hc with hc|hc
   ·exact hs c hc
   ·exact hside c (.inr hc)
 ·rcases List.mem_append.1 hc with hc|hc
  ·exact hk.low c (by simp[hc])
  ·rcases List.mem_append.1 hc with hc|hc
   ·exact hlow c hc
   ·exact hk.low c (by simp[hc])
 ·rcases List.mem_append.1 hd with hd|hd
  ·exact hl c hc e he d hd
  ·exact o3 c hc d (by simp[hd]) e he
end Go.Proofs.YtbppemcdphgknaaGreatDoor.T
namespace Go.Proofs.YtbppemcdphgknaaGreatDoor.T
open Go Go.Vm
theorem perm_join (a p q:Nat) (A T1 T2 B:List Nat):(a::(A++(((p::T1)++(q::T2))++B))).Perm (q::(a::(A++((p::(T1++T2))++B)))):=by
 refine List.perm_iff_count.2 fun z=>?_
 simp only[List.count_append,List.count_cons,Nat.add_assoc,Nat.add_comm,Nat.add_left_comm]
theorem perm_even (a p q:Nat) (A T1 T2 U1 U2 B:List Nat) (h:U1++U2=T1++T2):(a::(A++(((p::T1)++(q::T2))++B))).Perm (a::(A++(((p::U1)++(q::U2))++B))):=by
 refine List.perm_iff_count.2 fun z=>?_
 have h':=congrArg (List.count z) h
 simp only[List.count_append,List.count_cons] at h' ⊢
 omega
structure DropR (L:List PL) (F:List Nat) (h a:Nat) (S:List Nat) (ks:PL) (L':List PL) (F':List Nat) (S':List Nat):Prop where
 own:Own L S F L' S' F'
 sub:Sub L' h a S' ks
 sz:sz L a≤sz L' a+1
 low:∀b,lowE L a b→lowE L' a b
 len:L'.length=L.length
 lf:F'.length≤F.length+h
theorem out_two {A B:PL} {x y v w:Int} (hs:Srt (A++(x,v)::(y,w)::B)):out (A++(x,v)::(y,w)::B) y=A++(x,v)::B:=by
 obtain⟨h1,h2,h3⟩:=List.pairwise_append.1 hs
 have h4:=List.pairwise_cons.1 h2
 have h5:=List.pairwise_cons.1 h4.2
 have e1:out A y=A:=out_none fun e he=>by have h9:e.1<y:=h3 e he (y,w) (by simp);omega
 have e2:out B y=B:=out_none fun e he=>by have h9:y<e.1:=h5.1 e he;omega
 have h6:x<y:=h4.1 (y,w) (by simp)
 rw[out_app,e1]
 congr 1
 unfold out at e2 ⊢
 rw[List.filter_cons_of_pos (by simp;omega),List.filter_cons_of_neg (by simp),e2]
theorem lay_two {A B:PL} {x s v w:Int} (hA:∀e∈A,e.1<s) (hx:x<s) (hB:∀e∈B,s<e.1):lay (A++(x,v)::B) s w=A++(x,v)::(s,w)::B:=by
 rw[lay_left hA,lay,if_pos hx]
 have:lay B s w=[(s,w)]++B:=lay_right (C:=[]) (D:=B) hB
 rw[this];rfl
theorem even_any (L:List PL) (F:List Nat) (root high n:Int) (h a:Nat) (pre post:List Ch) (c d:Ch) (g1:L[a]?=some (nodeB (pre++([c,d]++post)))) (g2:Lg (nodeB (pre++([c,d]++post)))) (hk:KW 2 L h (pre++([c,d]++post)))
  (hz:∀e,e∈pre∨e∈post→3≤sz L e.p) (hz2:5≤sz L c.p+sz L d.p) (hnd:((a::(pre++([c,d]++post)).flatMap (·.S))++F).Nodup) (hlt:∀p∈(a::(pre++([c,d]++post)).flatMap (·.S))++F,p<L.length) (hF:F.length≤1000000) :
  ∃L' F',ATriple Tryz.prog gv R0 182 [.ref (0,0) 0,i64V a,i64V pre.length] [.abs (trD L F root high n)] (.tup []) [.abs (trD L' F' root high n)] none∧
   ∃S',Own L (a::(pre++([c,d]++post)).flatMap (·.S)) F L' S' F'∧Sub L' (h+1) a S' ((pre++([c,d]++post)).flatMap (·.ks))∧sz L a≤sz L' a+1∧(∀b,lowE L a b→lowE L' a b)∧L'.length=L.length∧F'.length≤F.length+1:=by
 obtain⟨sc,zc,lc⟩:=hk.sub c (by simp)
 obtain⟨sd,zd,ld⟩:=hk.sub d (by simp)
 obtain⟨l1,gc,h1⟩:=sc.blk
 obtain⟨l2,gd,h2⟩:=sd.blk
 rw[sz_of gc] at zc hz2
 rw[sz_of gd] at zd hz2
 rw[low_of gc] at lc
 rw[low_of gd] at ld
 obtain⟨T1,hT1⟩:=sc.tail
 obtain⟨T2,hT2⟩:=sd.tail
 have hS:(pre++([c,d]++post)).flatMap (·.S)=pre.flatMap (·.S)++(((c.p::T1)++(d.p::T2))++post.flatMap (·.S)):=by
  rw[List.flatMap_append,List.flatMap_append]
  simp[hT1,hT2]
 have hK:(pre++([c,d]++post)).flatMap (·.ks)=pre.flatMap (·.ks)++((c.ks++d.ks)++post.flatMap (·.ks)):=by
  rw[List.flatMap_append,List.flatMap_append]
  simp
 have hm:nodeB (pre++([c,d]++post))=nodeB pre++(c.x,(c.p:Int))::(d.x,(d.p:Int))::nodeB post:=by simp[nodeB]
 rw[hS] at hnd hlt ⊢
 rw[hK]
 obtain⟨o1,o2,o3⟩:=List.pairwise_append.1 hk.ord
 have o4:=List.pairwise_cons.1 o2
 have o5:=List.pairwise_cons.1 o4.2
 have kcd:∀e∈c.ks,e.1<d.x:=o4.1 d (by simp)
 have kcp:∀e∈c.ks,∀f∈post,e.1<f.x:=fun e he f hf=>o4.1 f (by simp[hf]) e he
 have kdp:∀e∈d.ks,∀f∈post,e.1<f.x:=fun e he f hf=>o5.1 f (by simp[hf]) e he
 have kpc:∀f∈pre,∀e∈f.ks,e.1<c.x:=fun f hf e he=>o3 f hf c (by simp) e he
 have b1:∀e∈l1,e.1<d.x:=sc.blk_lt gc kcd
 have b2:∀f∈post,∀e∈l2,e.1<f.x:=fun f hf=>sd.blk_lt gd fun e he=>kdp e he f hf
 have b3:∀f∈post,∀e∈l1,e.1<f.x:=fun f hf=>sc.blk_lt gc fun e he=>kcp e he f hf
 have haft:aft l1 l2=true:=aft_of b1 ld
 have hsrt:Srt (l1++l2):=srt_app h1.srt h2.srt b1 ld
 have hg2:=g2
 rw[hm] at hg2
 have hxy:c.x<d.x:=(List.pairwise_cons.1 (List.pairwise_append.1 hg2.srt).2.1).1 (d.x,(d.p:Int)) (by simp)
 have hpx:∀e∈nodeB pre,e.1<c.x:=fun e he=>(List.pairwise_append.1 hg2.srt).2.2 e he (c.x,(c.p:Int)) (by simp)
 have hlow12:∀e∈l1++l2,c.x≤e.1:=fun e he=>by
  rcases List.mem_append.1 he with he|he
  ·exact lc e he
  ·have:=ld e he;omega
 have hnS:=(List.nodup_append.1 hnd).1
 have hal:=(List.getElem?_eq_some_iff.1 g1).1
 have hcl:=(List.getElem?_eq_some_iff.1 gc).1
 have hdl:=(List.getElem?_eq_some_iff.1 gd).1
 have hna:=List.nodup_cons.1 hnS
 have hcS:c.p∈pre.flatMap (·.S)++(((c.p::T1)++(d.p::T2))++post.flatMap (·.S)):=by simp
 have hdS:d.p∈pre.flatMap (·.S)++(((c.p::T1)++(d.p::T2))++post.flatMap (·.S)):=by simp
 have hac:c.p≠a:=fun e=>hna.1 (e▸hcS)
 have had:d.p≠a:=fun e=>hna.1 (e▸hdS)
 obtain⟨n1,n2,n3⟩:=List.nodup_append.1 hna.2
 obtain⟨n4,n5,n6⟩:=List.nodup_append.1 n2
 obtain⟨n7,n8,n9⟩:=List.nodup_append.1 n4
 have hcd:c.p≠d.p:=n9 c.p (by simp) d.p (by simp)
 have hT1c:c.p∉T1:=(List.nodup_cons.1 n7).1
 have hT1d:d.p∉T1:=fun hm=>n9 d.p (by simp[hm]) d.p (by simp) rfl
 have hT2c:c.p∉T2:=fun hm=>n9 c.p (by simp) c.p (by simp[hm]) rfl
 have hT2d:d.p∉T2:=(List.nodup_cons.1 n8).1
 have hfree:∀r∈pre.flatMap (·.S)++(T1++T2++post.flatMap (·.S)),r≠a∧r≠c.p∧r≠d.p:=fun r hr=>by
  refine⟨?_,?_,?_⟩
  ·rintro rfl
   refine hna.1 ?_
   simp only[List.mem_append,List.mem_cons] at hr ⊢
   grind
  ·rintro rfl
   rcases List.mem_append.1 hr with hr|hr
   ·exact n3 c.p hr c.p (by simp) rfl
   ·rcases List.mem_append.1 hr with hr|hr
    ·rcases List.mem_append.1 hr with hr|hr
     ·exact hT1c hr
     ·exact hT2c hr
    ·exact n6 c.p (by simp) c.p hr rfl
  ·rintro rfl
   rcases List.mem_append.1 hr with hr|hr
   ·exact n3 d.p hr d.p (by simp) rfl
   ·rcases List.mem_append.1 hr with hr|hr
    ·rcases List.mem_append.1 hr with hr|hr
     ·exact hT1d hr
     ·exact hT2d hr
    ·exact n6 d.p (by simp) d.p hr rfl
 have hx:(nodeB (pre++([c,d]++post)))[pre.length]?=some (c.x,(c.p:Int)):=by simp[nodeB]
 have hy:(nodeB (pre++([c,d]++post)))[pre.length+1]?=some (d.x,(d.p:Int)):=by simp[nodeB]
 have key:∀(j1 j2 m':PL),(((L.set c.p j1).set d.p j2).set a m')[a]?=some m'∧(((L.set c.p j1).set d.p j2).set a m')[c.p]?=some j1∧(((L.set c.p j1).set d.p j2).set a m')[d.p]?=some j2∧
   (∀r,r≠a∧r≠c.p∧r≠d.p→(((L.set c.p j1).set d.p j2).set a m')[r]?=L[r]?)∧Own L (a::(pre.flatMap (·.S)++(((c.p::T1)++(d.p::T2))++post.flatMap (·.S)))) F (((L.set c.p j1).set d.p j2).set a m') (a::(pre.flatMap (·.S)++(((c.p::T1)++(d.p::T2))++post.flatMap (·.S)))) F:=fun j1 j2 m'=>by
  have w1:=Own.set hnd hlt (List.mem_cons_of_mem a hcS) j1
  have w2:=Own.set w1.nd w1.lt (List.mem_cons_of_mem a hdS) j2
  have w3:=Own.set w2.nd w2.lt (List.mem_cons_self) m'
  refine⟨List.getElem?_set_self (by simpa using hal),?_,?_,fun r hr=>?_,w1.trans (w2.trans w3)⟩
  ·rw[List.getElem?_set_ne (Ne.symm hac),List.getElem?_set_ne (Ne.symm hcd),List.getElem?_set_self hcl]
  ·rw[List.getElem?_set_ne (Ne.symm had),List.getElem?_set_self (by simpa using hdl)]
  ·rw[List.getElem?_set_ne (Ne.symm hr.1),List.getElem?_set_ne (Ne.symm hr.2.2),List.getElem?_set_ne (Ne.symm hr.2.1)]
 have hzw:∀e,e∈pre∨e∈post→3≤sz L e.p:=hz
 have hml:(nodeB (pre++([c,d]++post))).length=(nodeB pre).length+(nodeB post).length+2:=by rw[hm];simp;omega
 rw[hT1] at sc
 rw[hT2] at sd
 by_cases hsum:l1.length+l2.length≤6
 ·have cE:=even_join L F root high n a pre.length c.p d.p g1 g2 hx hy gc gd h1 h2 hac had hcd haft hF hsum
  have ho:out (nodeB (pre++([c,d]++post))) d.x=nodeB pre++(c.x,(c.p:Int))::nodeB post:=by rw[hm];exact out_two hg2.srt
  rw[ho] at cE
  obtain⟨e1,e2,e3,e4,e5⟩:=key (l1++l2) [] (nodeB pre++(c.x,(c.p:Int))::nodeB post)
  have oP:=e5.perm (.refl _) (perm_join a c.p d.p (pre.flatMap (·.S)) T1 T2 (post.flatMap (·.S)))
  have oF:=Own.free oP.nd oP.lt
  obtain⟨L',hL'⟩:∃L',L'=((L.set c.p (l1++l2)).set d.p []).set a (nodeB pre++(c.x,(c.p:Int))::nodeB post):=⟨_,rfl⟩
  have hlen:L'.length=L.length:=by rw[hL'];simp
  rw[←hL'] at cE e1 e2 e3 e4 oP oF
  have sJ:=Sub.join (L':=L') sc sd gc gd ⟨hsrt,by simpa using hsum⟩ (fun e he f hf=>by have:=kcd e he;have:=ld f hf;omega) e2 fun r hr=>e4 r (hfree r (by
   simp only[List.mem_append] at hr ⊢;grind))
  have kN:KW 3 L' h (pre++([Ch.mk c.x c.p (c.p::(T1++T2)) (c.ks++d.ks)]++post)):=by
   refine hk.mid (fun r hr=>e4 r (hfree r (by simp only[List.mem_append] at hr ⊢;grind))) hz (by simp) (fun f hf=>?_) (fun f hf e he=>?_) (by simp) (fun f hf e he g hg=>?_) (fun f hf e he g hg=>?_)
   ·obtain rfl:=List.mem_singleton.1 hf
    exact⟨sJ,by rw[sz_of e2];simp;omega,(low_of e2).2 hlow12⟩
   ·obtain rfl:=List.mem_singleton.1 hf
    rcases List.mem_append.1 he with he|he
    ·exact hk.low c (by simp) e he
    ·have h9:=hk.low d (by simp) e he
     show c.x≤e.1
     omega
   ·obtain rfl:=List.mem_singleton.1 hg
    exact kpc f hf e he
   ·obtain rfl:=List.mem_singleton.1 hf
    rcases List.mem_append.1 he with he|he
    ·exact kcp e he g hg
    ·exact kdp e he g hg
  have hnB:nodeB (pre++([Ch.mk c.x c.p (c.p::(T1++T2)) (c.ks++d.ks)]++post))=nodeB pre++(c.x,(c.p:Int))::nodeB post:=by simp[nodeB]
  have hsub:=kN.kids.node (a:=a) (by rw[hnB];exact e1) (by rw[hnB,←ho];exact g2.out _)
  have hS':(pre++([Ch.mk c.x c.p (c.p::(T1++T2)) (c.ks++d.ks)]++post)).flatMap (·.S)=pre.flatMap (·.S)++((c.p::(T1++T2))++post.flatMap (·.S)):=by simp[List.flatMap_append]
  have hK':(pre++([Ch.mk c.x c.p (c.p::(T1++T2)) (c.ks++d.ks)]++post)).flatMap (·.ks)=pre.flatMap (·.ks)++((c.ks++d.ks)++post.flatMap (·.ks)):=by simp[List.flatMap_append]
  rw[hS',hK'] at hsub
  refine⟨L',F++[d.p],cE,_,oP.trans oF,hsub,?_,fun b hb=>?_,hlen,by simp⟩
  ·rw[sz_of g1,sz_of e1,hml];simp;omega
  ·rw[low_of g1,hm] at hb
   rw[low_of e1]
   intro e he
   refine hb e ?_
   simp only[List.mem_append,List.mem_cons] at he ⊢
   grind
 ·have hh:hf (l1.length+l2.length)≤6∧3≤hf (l1.length+l2.length)∧hf (l1.length+l2.length)+3≤l1.length+l2.length∧l1.length+l2.length-hf (l1.length+l2.length)≤6:=by
   have:=h1.len
   have:=h2.len
   unfold hf
   omega
  generalize hfe:hf (l1.length+l2.length)=u at hh
  obtain⟨j1,hj1⟩:∃j1,j1=(l1++l2).take u:=⟨_,rfl⟩
  obtain⟨j2,hj2⟩:∃j2,j2=(l1++l2).drop u:=⟨_,rfl⟩
  have hj:l1++l2=j1++j2:=by rw[hj1,hj2,List.take_append_drop]
  have j1l:j1.length=u:=by rw[hj1,List.length_take,List.length_append];omega
  have j2l:j2.length=l1.length+l2.length-u:=by rw[hj2,List.length_drop,List.length_append]
  obtain⟨⟨s,sv⟩,r,hsr⟩:∃x y,j2=x::y:=by
   cases j2 with
   | nil=>simp at j2l;omega
   | cons x y=>exact⟨x,y,rfl⟩
  have hrl:r.length≤5:=by rw[hsr] at j2l;simp at j2l;omega
  have cE:=even_two L F root high n a pre.length c.p d.p g1 g2 hx hy gc gd h1 h2 hac had hcd haft hF hsum (s:=s) (sv:=sv) (r:=r) (by rw[hfe,←hj2];exact hsr) hrl
  rw[hfe,←hj1,←hj2] at cE
  have ho:out (nodeB (pre++([c,d]++post))) d.x=nodeB pre++(c.x,(c.p:Int))::nodeB post:=by rw[hm];exact out_two hg2.srt
  have hsmem:(s,sv)∈l1++l2:=by rw[hj,hsr];simp
  have hsj:=hsrt
  rw[hj] at hsj
  obtain⟨x1,x2,x3⟩:=List.pairwise_append.1 hsj
  have hxs:c.x<s:=by
   cases hj1':j1 with
   | nil=>rw[hj1'] at j1l;simp at j1l;omega
   | cons e0 r0=>
    have w1:=hlow12 e0 (by rw[hj,hj1'];simp)
    have w2:e0.1<s:=x3 e0 (by rw[hj1'];simp) (s,sv) (by rw[hsr];simp)
    omega
  have hsp:∀f∈post,s<f.x:=fun f hf=>by
   rcases List.mem_append.1 hsmem with w|w
   ·exact b3 f hf _ w
   ·exact b2 f hf _ w
  have hlay:lay (out (nodeB (pre++([c,d]++post))) d.x) s d.p=nodeB pre++(c.x,(c.p:Int))::(s,(d.p:Int))::nodeB post:=by
   rw[ho]
   refine lay_two (fun e he=>by have:=hpx e he;omega) hxs fun e he=>?_
   obtain⟨f,hf,rfl⟩:=List.mem_map.1 he
   exact hsp f hf
  have hlg:Lg (nodeB pre++(c.x,(c.p:Int))::(s,(d.p:Int))::nodeB post):=by
   rw[←hlay]
   refine(g2.out d.x).lay ?_
   rw[hlay]
   have:=g2.len
   rw[hml] at this
   simp;omega
  rw[hlay] at cE
  obtain⟨e1,e2,e3,e4,e5⟩:=key j1 j2 (nodeB pre++(c.x,(c.p:Int))::(s,(d.p:Int))::nodeB post)
  obtain⟨L',hL'⟩:∃L',L'=((L.set c.p j1).set d.p j2).set a (nodeB pre++(c.x,(c.p:Int))::(s,(d.p:Int))::nodeB post):=⟨_,rfl⟩
  have hlen:L'.length=L.length:=by rw[hL'];simp
  rw[←hL'] at cE e1 e2 e3 e4 e5
  obtain⟨U1,U2,m1,m2,hU,hM,s1,s2,hm1⟩:=Sub.even (L':=L') sc sd gc gd hsrt (fun e he f hf=>by have:=kcd e he;have:=ld f hf;omega) hj (by omega) (by omega) (by rintro rfl;simp at j1l;omega) (by rw[hsr];simp) e2 e3 fun r hr=>e4 r (hfree r (by
   simp only[List.mem_append] at hr ⊢;grind))
  have hm1s:∀e∈m1,e.1<s:=fun e he=>hm1 e he (s,sv) (by rw[hsr];simp)
  have hm2s:∀e∈m2,s≤e.1:=s2.first (by rw[e3,hsr])
  have oP:=e5.perm (.refl _) (perm_even a c.p d.p (pre.flatMap (·.S)) T1 T2 U1 U2 (post.flatMap (·.S)) hU)
  have hin:∀e,e∈m1∨e∈m2→e∈c.ks∨e∈d.ks:=fun e he=>by
   have:e∈m1++m2:=by simpa using he
   rw[hM] at this
   simpa using this
  have kN:KW 3 L' h (pre++([Ch.mk c.x c.p (c.p::U1) m1,Ch.mk s d.p (d.p::U2) m2]++post)):=by
   refine hk.mid (fun r hr=>e4 r (hfree r (by simp only[List.mem_append] at hr ⊢;grind))) hz (by simp) (fun f hf=>?_) (fun f hf e he=>?_) ?_ (fun f hf e he g hg=>?_) (fun f hf e he g hg=>?_)
   ·simp only[List.mem_cons,List.not_mem_nil,or_false] at hf
    rcases hf with rfl|rfl
    ·refine⟨s1,by rw[sz_of e2];omega,(low_of e2).2 fun e he=>hlow12 e (by rw[hj];simp[he])⟩
    ·refine⟨s2,by rw[sz_of e3];omega,(low_of e3).2 fun e he=>?_⟩
     rw[hsr] at he x2
     rcases List.mem_cons.1 he with rfl|he
     ·exact Int.le_refl _
     ·have h9:s<e.1:=(List.pairwise_cons.1 x2).1 e he
      show s≤e.1
      omega
   ·simp only[List.mem_cons,List.not_mem_nil,or_false] at hf
    rcases hf with rfl|rfl
    ·show c.x≤e.1
     rcases hin e (.inl he) with w|w
     ·exact hk.low c (by simp) e w
     ·have:=hk.low d (by simp) e w;omega
    ·exact hm2s e he
   ·refine List.pairwise_cons.2 ⟨fun f hf e he=>?_,List.pairwise_singleton _ _⟩
    obtain rfl:=List.mem_singleton.1 hf
    exact hm1s e he
   ·have w:=kpc f hf e he
    simp only[List.mem_cons,List.not_mem_nil,or_false] at hg
    rcases hg with rfl|rfl
    ·exact w
    ·show e.1<s
     omega
   ·have w:e∈m1∨e∈m2:=by
     simp only[List.mem_cons,List.not_mem_nil,or_false] at hf
     rcases hf with rfl|rfl
     ·exact .inl he
     ·exact .inr he
    rcases hin e w with w|w
    ·exact kcp e w g hg
    ·exact kdp e w g hg
  have hnB:nodeB (pre++([Ch.mk c.x c.p (c.p::U1) m1,Ch.mk s d.p (d.p::U2) m2]++post))=nodeB pre++(c.x,(c.p:Int))::(s,(d.p:Int))::nodeB post:=by simp[nodeB]
  have hsub:=kN.kids.node (a:=a) (by rw[hnB];exact e1) (by rw[hnB];exact hlg)
  have hS':(pre++([Ch.mk c.x c.p (c.p::U1) m1,Ch.mk s d.p (d.p::U2) m2]++post)).flatMap (·.S)=pre.flatMap (·.S)++(((c.p::U1)++(d.p::U2))++post.flatMap (·.S)):=by simp[List.flatMap_append]
  have hK':(pre++([Ch.mk c.x c.p (c.p::U1) m1,Ch.mk s d.p (d.p::U2) m2]++post)).flatMap (·.ks)=pre.flatMap (·.ks)++((c.ks++d.ks)++post.flatMap (·.ks)):=by rw[←hM];simp[List.flatMap_append]
  rw[hS',hK'] at hsub
  refine⟨L',F,cE,_,oP,hsub,?_,fun b hb=>?_,hlen,by omega⟩
  ·rw[sz_of g1,sz_of e1,hml];simp;omega
  ·rw[low_of g1,hm] at hb
   rw[low_of e1]
   intro e he
   have hbx:b≤c.x:=hb (c.x,(c.p:Int)) (by simp)
   simp only[List.mem_append,List.mem_cons] at he
   rcases he with he|rfl|rfl|he
   ·exact hb e (by simp[he])
   ·exact hbx
   ·show b≤s
    omega
   ·exact hb e (by simp[he])
end Go.Proofs.YtbppemcdphgknaaGreatDoor.T
namespace Go.Proofs.YtbppemcdphgknaaGreatDoor.T
open Go Go.Vm
theorem perm_sub (a:Nat) (A B C T:List Nat) (h:True):(a::(A++(C++B))).Perm ((a::(A++B))++C):=by
 refine List.perm_iff_count.2 fun z=>?_
 simp only[List.count_append,List.count_cons,Nat.add_assoc,Nat.add_comm,Nat.add_left_comm]
theorem drop_rec (root high n:Int) (k:Int):∀(h:Nat) (L:List PL) (F:List Nat) (a:Nat) (S:List Nat) (ks:PL),Sub L h a S ks→has ks k=true→(1≤h→2≤sz L a)→(S++F).Nodup→(∀p∈S++F,p<L.length)→h≤1000000→F.length+h≤1000000→
  ∃(L':List PL) (F':List Nat),ATriple Tryz.prog gv R0 162 [.ref (0,0) 0,i64V a,i64V h,u32V k] [.abs (trD L F root high n)] (.tup []) [.abs (trD L' F' root high n)] none∧∃S',DropR L F h a S (out ks k) L' F' S'
 | 0,L,F,a,S,ks,hs,hk,h2,hnd,hlt,hh,hF=>by
  obtain⟨rfl,g1,g2⟩:=hs
  have hal:=(List.getElem?_eq_some_iff.1 g1).1
  refine⟨_,_,tdrop_0 L F root high n a k g1 g2 hk,[a],Own.set hnd hlt (by simp) _,⟨rfl,List.getElem?_set_self hal,g2.out k⟩,?_,fun b hb=>?_,by simp,by omega⟩
  ·rw[sz_of g1,sz_of (List.getElem?_set_self hal)]
   have:=out_len g2.srt hk
   omega
  ·rw[low_of g1] at hb
   rw[low_of (List.getElem?_set_self hal)]
   exact fun e he=>hb e (mem_out.1 he).1
 | h+1,L,F,a,S,ks,hs,hk,h2,hnd,hlt,hh,hF=>by
  obtain⟨cs,g1,g2,rfl,rfl,hk0⟩:=hs.kids
  have hz2:=h2 (by omega)
  rw[sz_of g1] at hz2
  obtain⟨pre,c,post,e1,e2,e3,e4⟩:=ch_split k g2.srt hk0.ne
  subst e1
  have hl:=side_l hk0.ord e4
  have hr:=side_r hk0.low e3
  have hkc:has c.ks k=true:=by
   rw[flat_mid,has_left hl,has_right hr] at hk;exact hk
  have hw:(nodeB (pre++c::post))[wayI (nodeB (pre++c::post)) k]?=some (c.x,(c.p:Int)):=by
   rw[←e2];simp[nodeB]
  obtain⟨sc,zc,lc⟩:=hk0.sub c (by simp)
  have hS:(pre++c::post).flatMap (·.S)=pre.flatMap (·.S)++(c.S++post.flatMap (·.S)):=flat_mid _ pre post c
  rw[hS] at hnd hlt ⊢
  have hP:=fun T=>perm_sub a (pre.flatMap (·.S)) (post.flatMap (·.S)) T [] trivial
  have o0:=(Own.refl hnd hlt).perm (hP c.S) (hP c.S)
  have hnd1:=o0.nd
  rw[List.append_assoc] at hnd1
  obtain⟨nR,nC,nRC⟩:=List.nodup_append.1 hnd1
  obtain⟨R,hR⟩:∃R,R=a::(pre.flatMap (·.S)++post.flatMap (·.S)):=⟨_,rfl⟩
  rw[←hR] at nR nRC hP o0
  have hRo:∀p∈R,p<L.length∧p∉c.S++F:=fun p hp=>⟨o0.lt p (by simp[hp]),fun hm=>nRC p hp p hm rfl⟩
  obtain⟨L2,F2,cR,S2,q⟩:=drop_rec root high n k h L F c.p c.S c.ks sc hkc (fun _=>by omega) nC (fun p hp=>o0.lt p (by
   rcases List.mem_append.1 hp with hp|hp<;>simp[hp])) (by omega) (by omega)
  have hkeep:∀p∈R,L2[p]?=L[p]?:=fun p hp=>q.own.keep p (hRo p hp).1 (hRo p hp).2
  have hfs:∀p∈pre.flatMap (·.S)++post.flatMap (·.S),L2[p]?=L[p]?:=fun p hp=>hkeep p (by rw[hR];exact List.mem_cons_of_mem _ hp)
  have ga2:L2[a]?=some (nodeB (pre++c::post)):=by rw[hkeep a (by rw[hR];simp)];exact g1
  have oE:=(q.own.ext nR hRo).perm (hP c.S).symm (hP S2).symm
  obtain⟨l2,gl2,hl2⟩:=q.sub.blk
  have hzc:=q.sz
  rw[sz_of gl2] at hzc
  have hlen2:=q.len
  have hlf:=q.lf
  have hout:=out_mid (pre:=pre) (post:=post) (c:=c) hl hr
  obtain⟨c',hc'⟩:∃c':Ch,c'=⟨c.x,c.p,S2,out c.ks k⟩:=⟨_,rfl⟩
  have hx':c'.x=c.x:=by rw[hc']
  have hp':c'.p=c.p:=by rw[hc']
  have hS':c'.S=S2:=by rw[hc']
  have hk':c'.ks=out c.ks k:=by rw[hc']
  obtain⟨o1,o2,o3⟩:=List.pairwise_append.1 hk0.ord
  have o4:=List.pairwise_cons.1 o2
  have hzs:∀z,z≤l2.length→∀y,y≤3→y≤z→KW y L2 h (pre++([c']++post)):=fun z hz y hy hyz=>by
   refine KW.mid (mid:=[c]) (hk0.kw:KW 3 L h (pre++([c]++post))) hfs (fun d hd=>?_) (by simp) (fun d hd=>?_) (fun d hd e he=>?_) (by simp) (fun d hd e he f hf=>?_) (fun f hf e he d hd=>?_)
   ·have:=(hk0.sub d (by rcases hd with hd|hd<;>simp[hd])).2.1
    omega
   ·obtain rfl:=List.mem_singleton.1 hd
    rw[hp',hS',hk',hx']
    exact⟨q.sub,by rw[sz_of gl2];omega,q.low _ lc⟩
   ·obtain rfl:=List.mem_singleton.1 hd
    rw[hk'] at he
    rw[hx']
    exact hk0.low c (by simp) e (mem_out.1 he).1
   ·obtain rfl:=List.mem_singleton.1 hf
    rw[hx']
    exact o3 d hd c (by simp) e he
   ·obtain rfl:=List.mem_singleton.1 hf
    rw[hk'] at he
    exact o4.1 d hd e (mem_out.1 he).1
  have hnB:nodeB (pre++c::post)=nodeB (pre++([c']++post)):=by simp[nodeB,hx',hp']
  have hSf:(pre++([c']++post)).flatMap (·.S)=pre.flatMap (·.S)++(S2++post.flatMap (·.S)):=by simp[List.flatMap_append,hS']
  have hKf:(pre++([c']++post)).flatMap (·.ks)=out ((pre++c::post).flatMap (·.ks)) k:=by rw[hout];simp[List.flatMap_append,hk']
  by_cases hz:3≤l2.length
  ·have kN:=hzs 3 hz 3 (by omega) (by omega)
   have hsub:=kN.kids.node (a:=a) (by rw[←hnB];exact ga2) (by rw[←hnB];exact g2)
   rw[hSf,hKf] at hsub
   refine⟨L2,F2,tdrop_n0 L L2 F F2 root high n a h c.p k (by omega) g1 g2 hw gl2 hl2.len cR hz,_,oE,hsub,?_,fun b hb=>?_,hlen2,by omega⟩
   ·rw[sz_of g1,sz_of ga2];omega
   ·rw[low_of g1] at hb;rw[low_of ga2];exact hb
  ·have kW:=hzs 2 (by omega) 2 (by omega) (by omega)
   have hmlen:(nodeB (pre++c::post)).length=pre.length+post.length+1:=by simp[nodeB,Nat.add_assoc]
   have hzp:∀e,e∈pre∨e∈post→3≤sz L2 e.p:=fun e he=>by
    have w:=hk0.sub e (by rcases he with he|he<;>simp[he])
    have hin:e.p∈pre.flatMap (·.S)++post.flatMap (·.S):=by
     rcases he with he|he
     ·exact List.mem_append_left _ (List.mem_flatMap.2 ⟨e,he,w.1.root⟩)
     ·exact List.mem_append_right _ (List.mem_flatMap.2 ⟨e,he,w.1.root⟩)
    rw[sz_congr (hfs _ hin)];exact w.2.1
   have hzc':2≤sz L2 c'.p:=by rw[hp',sz_of gl2];omega
   obtain⟨A,u,v,D,hcs,hA,hzA,hz5⟩:∃A u v D,pre++([c']++post)=A++([u,v]++D)∧A.length=min (wayI (nodeB (pre++c::post)) k) ((nodeB (pre++c::post)).length-2)∧(∀e,e∈A∨e∈D→3≤sz L2 e.p)∧5≤sz L2 u.p+sz L2 v.p:=by
    rw[hmlen,←e2]
    cases post with
    | cons d D=>
     refine⟨pre,c',d,D,by simp,by rw[List.length_cons];omega,fun e he=>hzp e (by rcases he with he|he<;>simp[he]),?_⟩
     have:=hzp d (by simp)
     omega
    | nil=>
     rw[hmlen] at hz2
     have hne:pre≠[]:=by rintro rfl;simp at hz2
     refine⟨pre.dropLast,pre.getLast hne,c',[],?_,by simp<;>omega,fun e he=>hzp e ?_,?_⟩
     ·conv=>lhs;rw[←List.dropLast_concat_getLast hne]
      simp
     ·rcases he with he|he
      ·exact .inl (List.dropLast_subset _ he)
      ·cases he
     ·have:=hzp (pre.getLast hne) (.inl (List.getLast_mem hne))
      omega
   rw[hnB,hcs] at ga2
   rw[hcs] at kW
   have g2':=g2
   rw[hnB,hcs] at g2'
   have hnd2:=oE.nd
   have hlt2:=oE.lt
   rw[←hSf,hcs] at hnd2 hlt2 oE
   obtain⟨L3,F3,cE,S3,oT,hsub,hsz,hlow,hlen3,hlf3⟩:=even_any L2 F2 root high n h a A D u v ga2 g2' kW hzA hz5 hnd2 hlt2 (by omega)
   rw[←hcs,hKf] at hsub
   refine⟨L3,F3,tdrop_n1 L L2 F F2 root high n a h c.p k (by omega) g1 g2 hw gl2 hl2.len cR (by omega) L3 F3 A.length hA hz2 cE,S3,oE.trans oT,hsub,?_,fun b hb=>hlow b ?_,by omega,by omega⟩
   ·rw[sz_of ga2] at hsz
    rw[sz_of g1,hnB,hcs]
    exact hsz
   ·rw[low_of g1,hnB,hcs] at hb
    rw[low_of ga2]
    exact hb
end Go.Proofs.YtbppemcdphgknaaGreatDoor.T
namespace Go.Proofs.YtbppemcdphgknaaGreatDoor.T
open Go Go.Vm
def kidsAt (L:List PL) (p:Nat):List Nat:=(L[p]?.getD []).map fun e=>e.2.toNat
def lev (L:List PL):Nat→List Nat→List (List Nat)
 | 0,row=>[row.map (sz L)]
 | h+1,row=>row.map (sz L)::lev L h (row.flatMap (kidsAt L))
theorem Sub.sz6 {L:List PL} {h a:Nat} {S:List Nat} {ks:PL} (hs:Sub L h a S ks):sz L a≤6:=by
 obtain⟨l,g,hl⟩:=hs.blk
 rw[sz_of g];exact hl.len
def For (L:List PL) (h:Nat) (cs:List Ch):Prop:=∀c∈cs,Sub L h c.p c.S c.ks∧3≤sz L c.p
theorem kidsAt_of {L:List PL} {a:Nat} {cs:List Ch} (g:L[a]?=some (nodeB cs)):kidsAt L a=cs.map (·.p):=by
 simp[kidsAt,g,nodeB]
theorem down {L:List PL} {h:Nat}:∀{cs:List Ch},(∀c∈cs,Sub L (h+1) c.p c.S c.ks)→∃cs2,For L h cs2∧cs2.map (·.p)=(cs.map (·.p)).flatMap (kidsAt L)∧(cs2.map (·.ks.length)).sum=(cs.map (·.ks.length)).sum∧cs2.length=((cs.map (·.p)).map (sz L)).sum
 | [],_=>⟨[],(fun c hc=>nomatch hc),rfl,rfl,rfl⟩
 | c::r,hf=>by
  obtain⟨c2,q1,q2,q3,q4⟩:=down (cs:=r) fun d hd=>hf d (by simp[hd])
  obtain⟨cs,g1,g2,g3,g4,hk⟩:=(hf c (by simp)).kids
  refine⟨cs++c2,fun d hd=>?_,?_,?_,?_⟩
  ·rcases List.mem_append.1 hd with hd|hd
   ·exact⟨(hk.sub d hd).1,(hk.sub d hd).2.1⟩
   ·exact q1 d hd
  ·rw[List.map_append,q2];simp[kidsAt_of g1]
  ·rw[List.map_append,List.sum_append,q3,List.map_cons,List.sum_cons,g4,List.length_flatMap]
  ·rw[List.length_append,q4,List.map_cons,List.map_cons,List.sum_cons,sz_of g1];simp[nodeB]
theorem Sub.count:∀{L:List PL} {h a:Nat} {S:List Nat} {ks:PL},Sub L h a S ks→sz L a*3 ^ h≤ks.length∧ks.length≤sz L a*6 ^ h
 | L,0,a,_,_,hs=>by
  obtain⟨_,g,_⟩:=hs
  rw[sz_of g];simp
 | L,h+1,a,S,ks,hs=>by
  obtain⟨cs,g1,g2,g3,rfl,hk⟩:=hs.kids
  rw[sz_of g1,List.length_flatMap]
  have hl:(nodeB cs).length=cs.length:=by simp[nodeB]
  rw[hl]
  have hsub:=hk.sub
  clear hl g1 g2 g3 hs hk
  induction cs with
  | nil=>simp
  | cons c r ih=>
   obtain⟨i1,i2⟩:=ih fun d hd=>hsub d (by simp[hd])
   obtain⟨s1,s2,_⟩:=hsub c (by simp)
   have s6:=s1.sz6
   obtain⟨j1,j2⟩:=s1.count
   have k1:3*3 ^ h≤sz L c.p*3 ^ h:=Nat.mul_le_mul_right _ s2
   have k2:sz L c.p*6 ^ h≤6*6 ^ h:=Nat.mul_le_mul_right _ s6
   rw[List.map_cons,List.sum_cons,List.length_cons,Nat.add_mul,Nat.add_mul,Nat.one_mul,Nat.one_mul]
   have e1:3 ^ (h+1)=3*3 ^ h:=by rw[Nat.pow_succ,Nat.mul_comm]
   have e2:6 ^ (h+1)=6*6 ^ h:=by rw[Nat.pow_succ,Nat.mul_comm]
   omega
theorem TS.deep {L:List PL} {F:List Nat} {root h:Nat} {ks:PL} (t:TS L F root h ks):(1≤h→2*3 ^ h≤ks.length)∧ks.length≤6 ^ (h+1):=by
 obtain⟨S,hs,_,_,h2⟩:=t
 obtain⟨j1,j2⟩:=hs.count
 have h6:=hs.sz6
 refine⟨fun hh=>?_,?_⟩
 ·have:=Nat.mul_le_mul_right (3 ^ h) (h2 hh)
  omega
 ·have:=Nat.mul_le_mul_right (6 ^ h) h6
  have e2:6 ^ (h+1)=6*6 ^ h:=by rw[Nat.pow_succ,Nat.mul_comm]
  omega
end Go.Proofs.YtbppemcdphgknaaGreatDoor.T
namespace Go.Proofs.YtbppemcdphgknaaGreatDoor.T
open Go Go.Vm
theorem out_not {l:PL} {k:Int} (hs:Srt l) (h:has l k=false):out l k=l:=out_none fun x hx e=>by
 subst e
 rw[has_mem hs hx] at h
 cases h
theorem drop_ts {L:List PL} {F:List Nat} {root h:Nat} {ks:PL} (t:TS L F root h ks) (hh:h≤500000) (hF:F.length≤500000) (hn:ks.length≤900000) (k:Int) :
  ∃(L':List PL) (F':List Nat) (root' h':Nat),ATriple Tryz.prog gv R0 125 [.ref (0,0) 0,u32V k] [.abs (trD L F root h ks.length)] (.bool (has ks k)) [.abs (trD L' F' root' h' (out ks k).length)] none∧TS L' F' root' h' (out ks k)∧L'.length=L.length∧F'.length≤F.length+h+1∧h'≤h:=by
 obtain⟨g,cG,_,_⟩:=get_ts t (by omega) ks.length k
 have hsrt:=t.srt
 cases hk:has ks k with
 | false=>
  rw[hk] at cG
  rw[out_not hsrt hk]
  exact⟨L,F,root,h,Tdrop_n L F root h ks.length k g cG,t,rfl,by omega,by omega⟩
 | true=>
  rw[hk] at cG
  obtain⟨S,hs,hnd,hlt,hrt⟩:=t
  have hlen:=out_len hsrt hk
  obtain⟨L2,F2,cD,S2,q⟩:=drop_rec root h ((ks.length:Int)-1) k h L F root S ks hs hk hrt hnd hlt (by omega) (by omega)
  have en:((ks.length:Int)-1)=((out ks k).length:Int):=by omega
  have hlen2:=q.len
  have hlf:=q.lf
  obtain⟨m,gm,hm⟩:=q.sub.blk
  have hmz:=sz_of gm
  by_cases hc:1≤h∧sz L2 root=1
  ·obtain⟨h',rfl⟩:∃h',h=h'+1:=⟨h-1,by omega⟩
   obtain⟨cs,g1,g2,g3,g4,hk0⟩:=q.sub.kids
   have e1:=sz_of g1
   rw[hc.2] at e1
   have hsub:=hk0.sub
   cases cs with
   | nil=>simp[nodeB] at e1
   | cons c r=>
    cases r with
    | cons d r=>simp[nodeB] at e1
    | nil=>
     obtain⟨s1,s2,s3⟩:=hsub c (by simp)
     have gr:L2[root]?=some [(c.x,(c.p:Int))]:=g1
     have hcl:=s1.lt c.p s1.root
     simp only[List.flatMap_cons,List.flatMap_nil,List.append_nil] at g3 g4
     have o:=q.own
     rw[g3] at o
     have oS:=Own.set o.nd o.lt (List.mem_cons_self (a:=root) (l:=c.S)) []
     have oF:=Own.free oS.nd oS.lt
     have hrS:root∉c.S:=(List.nodup_cons.1 (List.nodup_append.1 o.nd).1).1
     have hfr:∀p∈c.S,(L2.set root [])[p]?=L2[p]?:=fun p hp=>by
      rw[List.getElem?_set_ne]
      rintro rfl
      exact hrS hp
     refine⟨L2.set root [],F2++[root],c.p,h',?_,⟨c.S,?_,oF.nd,oF.lt,fun _=>?_⟩,by simp;omega,by simp;omega,by omega⟩
     ·rw[←en]
      exact Tdrop_y1 L L2 F F2 root h' ks.length k g c.p (by omega) (by omega) (by omega) cG cD gr
     ·rw[g4];exact s1.frame hfr
     ·rw[sz_congr (hfr c.p s1.root)];omega
  ·refine⟨L2,F2,root,h,?_,⟨S2,q.sub,q.own.nd,q.own.lt,fun h1=>?_⟩,by omega,by omega,by omega⟩
   ·rw[←en]
    exact Tdrop_y0 L L2 F F2 root h ks.length k g (by omega) (by omega) cG cD gm hm.len (by rw[hmz] at hc;omega)
   ·have:=hrt h1
    have:=q.sz
    omega
end Go.Proofs.YtbppemcdphgknaaGreatDoor.T
