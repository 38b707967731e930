/- A part of the proofs over the seat YtbppemcdphgknaaGreatDoor. -/
import Derived.Test.YtbppemcdphgknaaGreatDoorL1
import Derived.Test.YtbppemcdphgknaaGreatDoorR6
import Derived.Test.YtbppemcdphgknaaGreatDoorC7
import Derived.Test.YtbppemcdphgknaaGreatDoorV29
set_option linter.unusedVariables false
set_option linter.unusedSimpArgs false
set_option maxRecDepth 100000
set_option maxHeartbeats 40000000
namespace Go.Proofs.YtbppemcdphgknaaGreatDoor
open Go Go.Vm
set_option maxRecDepth 100000
set_option maxHeartbeats 40000000
set_option linter.unusedSimpArgs false
set_option linter.unusedVariables false
theorem nb {n m:Nat} (h:Nat.ble n m=true):n≤m:=Nat.le_of_ble_eq_true h
theorem bs:(∀(p:Prop) [Decidable p],(decide p=true)=p)∧(∀(p:Prop) [Decidable p],(decide p=false)=¬p)∧(∀a b:Int,((a==b)=true)=(a=b))∧(∀a b:Int,((a==b)=false)=¬(a=b))∧
  (∀a b:Int,((a != b)=true)=¬(a=b))∧(∀a b:Int,((a != b)=false)=(a=b))∧(∀b:Bool,((!b)=true)=(b=false))∧(∀b:Bool,((!b)=false)=(b=true))∧(∀a b:Int,(a≥b)=(b≤a))∧(∀a b:Int,(a>b)=(b<a))∧
  (∀a b:Bool,((a&&b)=true)=(a=true∧b=true))∧(∀a b:Bool,((a&&b)=false)=(a=false∨b=false))∧(∀a b:Bool,((a||b)=true)=(a=true∨b=true))∧(∀a b:Bool,((a||b)=false)=(a=false∧b=false))∧(∀p:Prop,(p∧True)=p)∧((true=false)=False)∧((false=true)=False)∧(∀p:Prop,(p∨False)=p):=
 ⟨fun p _=>by simp,fun p _=>by simp,fun a b=>by simp,fun a b=>by simp,fun a b=>by simp,fun a b=>by simp,fun b=>by simp,fun b=>by simp,fun a b=>rfl,fun a b=>rfl,fun a b=>by simp,fun a b=>by cases a<;>simp,fun a b=>by simp,fun a b=>by simp,fun p=>by simp,by simp,by simp,fun p=>by simp⟩
theorem go {P:Prop} (h:P:=by
 repeat' (conv=>whnf);first
  | (refine bcase_of (fun hr=>?_) (fun hr=>?_)<;>(try simp only[bs] at hr)<;>try(exfalso;first|omega|(simp at hr;done)|(simp_all;done)))
  | (apply And.intro;· first|exact nd10|exact n0|exact n1|exact n2|exact n3|exact n4|exact n5|exact n6|exact n7|exact n8|exact n9|exact⟨by decide,by decide⟩|exact⟨nb rfl,allOne_of rfl⟩|exact allOne_of rfl|exact⟨rfl,rfl⟩|exact pure_of rfl|exact⟨by omega,by omega⟩|exact⟨nb rfl,nb rfl⟩|exact⟨by simp,by simp⟩)
  | (apply Exists.intro;apply And.intro;· first|exact rfl|exact c0|exact c1|exact c2|exact c3|exact c4|exact c5|exact c6|exact c7|exact c8|exact c9)
  | (apply Exists.intro;apply Exists.intro;apply Exists.intro;apply And.intro;· first|(refine ATriple.callN a0 ?_ ?_ ?_<;>rfl)|(refine ATriple.callN a1 ?_ ?_ ?_<;>rfl)|(refine ATriple.callN a2 ?_ ?_ ?_<;>rfl)|(refine ATriple.callN a3 ?_ ?_ ?_<;>rfl)|(refine ATriple.callN a4 ?_ ?_ ?_<;>rfl)|(refine ATriple.callN a5 ?_ ?_ ?_<;>rfl)|(refine ATriple.callN a6 ?_ ?_ ?_<;>rfl)|(refine ATriple.callN a7 ?_ ?_ ?_<;>rfl)|(refine ATriple.callN a8 ?_ ?_ ?_<;>rfl)|(refine ATriple.callN a9 ?_ ?_ ?_<;>rfl))
  | (apply Exists.intro;apply And.intro;· first|(refine ATriple.callK a0 ?_ ?_ ?_ ?_<;>first|rfl|(intro d;rfl))|(refine ATriple.callK a1 ?_ ?_ ?_ ?_<;>first|rfl|(intro d;rfl))|(refine ATriple.callK a2 ?_ ?_ ?_ ?_<;>first|rfl|(intro d;rfl))|(refine ATriple.callK a3 ?_ ?_ ?_ ?_<;>first|rfl|(intro d;rfl))|(refine ATriple.callK a4 ?_ ?_ ?_ ?_<;>first|rfl|(intro d;rfl))|(refine ATriple.callK a5 ?_ ?_ ?_ ?_<;>first|rfl|(intro d;rfl))|(refine ATriple.callK a6 ?_ ?_ ?_ ?_<;>first|rfl|(intro d;rfl))|(refine ATriple.callK a7 ?_ ?_ ?_ ?_<;>first|rfl|(intro d;rfl))|(refine ATriple.callK a8 ?_ ?_ ?_ ?_<;>first|rfl|(intro d;rfl))|(refine ATriple.callK a9 ?_ ?_ ?_ ?_<;>first|rfl|(intro d;rfl)))
  | rw[w0]|rw[w1]|rw[w2]|rw[w3]|rw[w4]
  | fail
 all_goals (conv=>whnf)
 all_goals first|exact e0|exact e1|exact e2|exact⟨rfl,rfl⟩|rfl|(refine⟨[],?_⟩;(conv=>whnf);exact⟨rfl,rfl⟩)):P:=h
abbrev u8V (n:Int):V:=.int .u8 n
abbrev u32V (n:Int):V:=.int .u32 n
def co (k:Int):List V:=[u8V (k / 16777216),u8V (k / 65536 % 256),u8V (k / 256 % 256),u8V (k % 256)]
abbrev coV (k:Int):V:=.agg (co k)
def KIn (k:Int):Prop:=0≤k∧k<4294967296
def shor (x b:Int):Int:=IntKind.u32.wrap (((BitVec.ofInt IntKind.u32.bits (IntKind.u32.wrap (x*2 ^ (min (8:Int).toNat IntKind.u32.bits))) ||| BitVec.ofInt IntKind.u32.bits (IntKind.u32.wrap b)).toNat:Nat):Int)
theorem wrap32 (x:Int):IntKind.u32.wrap x=x % 4294967296:=by
 simp[IntKind.wrap,IntKind.signed,IntKind.bits]
theorem wrap8 (x:Int):IntKind.u8.wrap x=x % 256:=by
 simp[IntKind.wrap,IntKind.signed,IntKind.bits]
theorem shor_eq {x b:Int} (hx:0≤x∧x<16777216) (hb:0≤b∧b<256):shor x b=x*256+b:=by
 obtain⟨x',rfl⟩:=Int.eq_ofNat_of_zero_le hx.1
 obtain⟨b',rfl⟩:=Int.eq_ofNat_of_zero_le hb.1
 have e1:IntKind.u32.wrap ((x':Int)*2 ^ (min (8:Int).toNat IntKind.u32.bits))=((x'*256:Nat):Int):=by
  rw[wrap32,show(2:Int) ^ (min (8:Int).toNat IntKind.u32.bits)=256 by decide];omega
 have e2:IntKind.u32.wrap (b':Int)=((b':Nat):Int):=by rw[wrap32];omega
 unfold shor
 rw[e1,e2,wrap32]
 have e3:(BitVec.ofInt IntKind.u32.bits ((x'*256:Nat):Int) ||| BitVec.ofInt IntKind.u32.bits (b':Int)).toNat=x'*256+b':=by
  rw[BitVec.toNat_or,BitVec.ofInt_natCast,BitVec.ofInt_natCast,BitVec.toNat_ofNat,BitVec.toNat_ofNat]
  rw[Nat.mod_eq_of_lt (by show _<4294967296;omega),Nat.mod_eq_of_lt (by show _<4294967296;omega)]
  have:=Nat.shiftLeft_add_eq_or_of_lt (i:=8) (b:=b') (by omega) x'
  rw[Nat.shiftLeft_eq] at this
  exact this.symm
 rw[e3];omega
theorem key9_eq {k:Int} (h:KIn k) (f:Int→Int→Int) (hf:∀x b,0≤x∧x<16777216→0≤b∧b<256→f x b=x*256+b):f (f (f (f 0 (k / 16777216)) (k / 65536 % 256)) (k / 256 % 256)) (k % 256)=k:=by
 obtain⟨h1,h2⟩:=h
 have e1:f 0 (k / 16777216)=k / 16777216:=by rw[hf _ _ (by omega) (by omega)];omega
 have e2:f (k / 16777216) (k / 65536 % 256)=k / 65536:=by rw[hf _ _ (by omega) (by omega)];omega
 have e3:f (k / 65536) (k / 256 % 256)=k / 256:=by rw[hf _ _ (by omega) (by omega)];omega
 rw[e1,e2,e3,hf _ _ (by omega) (by omega)];omega
theorem key_eq {k:Int} (h:KIn k):shor (shor (shor (shor 0 (k / 16777216)) (k / 65536 % 256)) (k / 256 % 256)) (k % 256)=k:=key9_eq h shor fun x b hx hb=>shor_eq hx hb
theorem Key_ok (k:Int) (h:KIn k):PTriple Tryz.prog gv 89 [coV k] (u32V k):=by
 refine PTriple.of_body (C:=cx) Tryz.func89 rfl (by kernel_rfl) mixed fun E hE=>?_
 repeat' (conv=>whnf);first
  | (apply And.intro;· first|exact nd11)
  | (apply Exists.intro;apply And.intro;· first|exact rfl)
  | (refine VLoop.unroll hE mixed ?_)
  | fail
 all_goals (conv=>whnf)
 all_goals exact congrArg (V.int .u32) (key_eq h)
theorem sh_eq {k:Int} (h:KIn k):IntKind.u8.wrap (k.fdiv (2 ^ (min (IntKind.i64.wrap (8*IntKind.i64.wrap (3-0))).toNat IntKind.u32.bits)))=k / 16777216∧
  IntKind.u8.wrap (k.fdiv (2 ^ (min (IntKind.i64.wrap (8*IntKind.i64.wrap (3-1))).toNat IntKind.u32.bits)))=k / 65536 % 256∧
  IntKind.u8.wrap (k.fdiv (2 ^ (min (IntKind.i64.wrap (8*IntKind.i64.wrap (3-2))).toNat IntKind.u32.bits)))=k / 256 % 256∧
  IntKind.u8.wrap (k.fdiv (2 ^ (min (IntKind.i64.wrap (8*IntKind.i64.wrap (3-3))).toNat IntKind.u32.bits)))=k % 256:=by
 obtain⟨h1,h2⟩:=h
 rw[show(2:Int) ^ (min (IntKind.i64.wrap (8*IntKind.i64.wrap (3-0))).toNat IntKind.u32.bits)=16777216 by decide,show(2:Int) ^ (min (IntKind.i64.wrap (8*IntKind.i64.wrap (3-1))).toNat IntKind.u32.bits)=65536 by decide,
  show(2:Int) ^ (min (IntKind.i64.wrap (8*IntKind.i64.wrap (3-2))).toNat IntKind.u32.bits)=256 by decide,show(2:Int) ^ (min (IntKind.i64.wrap (8*IntKind.i64.wrap (3-3))).toNat IntKind.u32.bits)=1 by decide]
 rw[Int.fdiv_eq_ediv_of_nonneg _ (by decide),Int.fdiv_eq_ediv_of_nonneg _ (by decide),Int.fdiv_eq_ediv_of_nonneg _ (by decide),Int.fdiv_eq_ediv_of_nonneg _ (by decide),wrap8,wrap8,wrap8,wrap8]
 omega
theorem coV4 {a b c d k:Int} (h:a=k / 16777216∧b=k / 65536 % 256∧c=k / 256 % 256∧d=k % 256):V.agg [u8V a,u8V b,u8V c,u8V d]=coV k:=by
 obtain⟨rfl,rfl,rfl,rfl⟩:=h;rfl
theorem cAt_ok (k:Int) (h:KIn k):PTriple Tryz.prog gv 76 [u32V k] (coV k):=by
 refine PTriple.of_body (C:=cx) Tryz.func76 rfl (by kernel_rfl) mixed fun E hE=>?_
 repeat' (conv=>whnf);first
  | (apply And.intro;· first|exact nd11)
  | (apply Exists.intro;apply And.intro;· first|exact rfl)
  | (refine VLoop.unroll hE mixed ?_)
  | fail
 all_goals (conv=>whnf)
 all_goals exact coV4 (sh_eq h)
end Go.Proofs.YtbppemcdphgknaaGreatDoor
namespace Go.Proofs.YtbppemcdphgknaaGreatDoor
open Go Go.Vm
def ins {α:Type}:List (Int×α)→Int→α→List (Int×α)
 | [],k,v=>[(k,v)]
 | a::r,k,v=>if a.1<k then a::ins r k v else if a.1=k then(k,v)::r else(k,v)::a::r
def del {α:Type} (l:List (Int×α)) (k:Int):List (Int×α):=l.filter fun x=>x.1 != k
def get {α:Type}:List (Int×α)→Int→Option α
 | [],_=>none
 | a::r,k=>if a.1=k then some a.2 else get r k
def mp {α β:Type} (f:α→β) (l:List (Int×α)):List (Int×β):=l.map fun e=>(e.1,f e.2)
def Sr {α:Type} (l:List (Int×α)):Prop:=l.Pairwise fun a b=>a.1<b.1
section
variable {α β:Type}
theorem ins_lay:∀(l:T.PL) (k v:Int),ins l k v=T.lay l k v
 | [],_,_=>rfl
 | a::r,k,v=>by simp only[ins,T.lay,ins_lay r k v]
theorem mp_ins (f:α→β):∀(l:List (Int×α)) (k:Int) (v:α),mp f (ins l k v)=ins (mp f l) k (f v)
 | [],_,_=>rfl
 | a::r,k,v=>by
  have ih:=mp_ins f r k v
  simp only[mp,ins,List.map_cons] at *
  split
  ·simp[ih]
  ·split<;>simp
theorem mp_del (f:α→β) (l:List (Int×α)) (k:Int):mp f (del l k)=del (mp f l) k:=by
 simp only[mp,del,List.filter_map];rfl
theorem mp_len (f:α→β) (l:List (Int×α)):(mp f l).length=l.length:=by simp[mp]
theorem mp_get (f:α→β):∀(l:List (Int×α)) (k:Int),get (mp f l) k=(get l k).map f
 | [],_=>rfl
 | a::r,k=>by
  have ih:=mp_get f r k
  simp only[mp,List.map_cons,get] at *
  split
  ·rfl
  ·exact ih
theorem Sr.mp {l:List (Int×α)} (h:Sr l) (f:α→β):Sr (mp f l):=by
 unfold Sr Go.Proofs.YtbppemcdphgknaaGreatDoor.mp;rw[List.pairwise_map];exact h
theorem get_mem:∀{l:List (Int×α)} {k:Int} {v:α},get l k=some v→(k,v)∈l
 | [],_,_,h=>by cases h
 | a::r,k,v,h=>by
  simp only[get] at h
  split at h
  ·rename_i e;cases h;subst e;simp
  ·exact List.mem_cons_of_mem _ (get_mem h)
theorem mem_get:∀{l:List (Int×α)} {k:Int} {v:α},Sr l→(k,v)∈l→get l k=some v
 | [],_,_,_,h=>by cases h
 | a::r,k,v,hs,h=>by
  have hs':=List.pairwise_cons.1 hs
  simp only[get]
  rcases List.mem_cons.1 h with rfl|h
  ·simp
  ·have:=hs'.1 _ h
   rw[if_neg (by simp only at this;omega)]
   exact mem_get hs'.2 h
theorem get_none {l:List (Int×α)} {k:Int} (h:get l k=none):∀e∈l,e.1≠k:=by
 induction l with
 | nil=>intro e he;cases he
 | cons a r ih=>
  simp only[get] at h
  split at h
  ·cases h
  ·intro e he
   rcases List.mem_cons.1 he with rfl|he
   ·assumption
   ·exact ih h e he
theorem get_ins (l:List (Int×α)) (k:Int) (v:α) (j:Int):get (ins l k v) j=if k=j then some v else get l j:=by
 induction l with
 | nil=>rfl
 | cons a r ih=>
  simp only[ins]
  split
  ·simp only[get,ih]
   split
   ·rename_i h1 h2;rw[if_neg (by omega)]
   ·rfl
  ·split
   ·simp only[get]
    split
    ·rfl
    ·rename_i h1 h2 h3;rw[if_neg (by omega)]
   ·simp only[get]
theorem mem_ins {l:List (Int×α)} {k:Int} {v:α} {e:Int×α} (h:e∈ins l k v):e=(k,v)∨e∈l:=by
 induction l with
 | nil=>simp[ins] at h;exact .inl h
 | cons a r ih=>
  simp only[ins] at h
  split at h
  ·rcases List.mem_cons.1 h with rfl|h
   ·simp
   ·rcases ih h with h|h
    ·exact .inl h
    ·exact .inr (List.mem_cons_of_mem _ h)
  ·split at h
   ·rcases List.mem_cons.1 h with rfl|h
    ·simp
    ·exact .inr (List.mem_cons_of_mem _ h)
   ·rcases List.mem_cons.1 h with rfl|h
    ·simp
    ·exact .inr h
theorem Sr.ins {l:List (Int×α)} (h:Sr l) (k:Int) (v:α):Sr (ins l k v):=by
 induction l with
 | nil=>exact List.pairwise_singleton _ _
 | cons a r ih=>
  have h':=List.pairwise_cons.1 h
  simp only[Go.Proofs.YtbppemcdphgknaaGreatDoor.ins]
  split
  ·rename_i hk
   refine List.pairwise_cons.2 ⟨fun e he=>?_,ih h'.2⟩
   rcases mem_ins he with rfl|he
   ·exact hk
   ·exact h'.1 e he
  ·split
   ·rename_i h1 h2
    exact List.pairwise_cons.2 ⟨fun e he=>by have:=h'.1 e he;simp only;omega,h'.2⟩
   ·rename_i h1 h2
    refine List.pairwise_cons.2 ⟨fun e he=>?_,h⟩
    rcases List.mem_cons.1 he with rfl|he
    ·simp only;omega
    ·have:=h'.1 e he;simp only;omega
theorem Sr.del {l:List (Int×α)} (h:Sr l) (k:Int):Sr (del l k):=h.filter _
theorem mem_del {l:List (Int×α)} {k:Int} {e:Int×α}:e∈del l k↔e∈l∧e.1≠k:=by simp[del]
theorem ins_len_new {l:List (Int×α)} {k:Int} (v:α) (h:get l k=none):(ins l k v).length=l.length+1:=by
 induction l with
 | nil=>rfl
 | cons a r ih=>
  simp only[get] at h
  split at h
  ·cases h
  ·simp only[ins]
   split
   ·simp[ih h]
   ·simp
theorem ins_len_old {l:List (Int×α)} {k:Int} {u:α} (v:α) (hs:Sr l) (h:get l k=some u):(ins l k v).length=l.length:=by
 induction l with
 | nil=>cases h
 | cons a r ih=>
  have h':=List.pairwise_cons.1 hs
  simp only[get] at h
  simp only[ins]
  split at h
  ·rename_i e;rw[if_neg (by omega),if_pos e];simp
  ·rename_i e
   have:=h'.1 _ (get_mem h)
   rw[if_pos (by simpa using this)];simp[ih h'.2 h]
theorem del_len {l:List (Int×α)} {k:Int} {u:α} (hs:Sr l) (h:get l k=some u):(del l k).length+1=l.length:=by
 induction l with
 | nil=>cases h
 | cons a r ih=>
  have h':=List.pairwise_cons.1 hs
  unfold del at *
  simp only[get] at h
  split at h
  ·rename_i e
   rw[List.filter_cons_of_neg (by simp[e])]
   rw[List.filter_eq_self.2 (fun x hx=>by have:=h'.1 x hx;simp;omega)];rfl
  ·rename_i e
   rw[List.filter_cons_of_pos (by simp[e])]
   simp[ih h'.2 h]
theorem del_none {l:List (Int×α)} {k:Int} (h:get l k=none):del l k=l:=List.filter_eq_self.2 fun x hx=>by simpa using get_none h x hx
theorem ins_same {l:List (Int×α)} {k:Int} {u:α} (hs:Sr l) (h:get l k=some u):ins l k u=l:=by
 induction l with
 | nil=>cases h
 | cons a r ih=>
  have h':=List.pairwise_cons.1 hs
  simp only[get] at h
  simp only[ins]
  split at h
  ·rename_i e;cases h;rw[if_neg (by omega),if_pos e,←e]
  ·have:=h'.1 _ (get_mem h)
   rw[if_pos (by simpa using this),ih h'.2 h]
end
theorem has_get_lt {l:T.PL} {k:Int} (hs:Sr l) (h:∀e∈l,k<e.1):(get l k)=none:=by
 cases hg:get l k with
 | none=>rfl
 | some v=>have:=h _ (get_mem hg);simp only at this;omega
theorem has_get:∀{l:T.PL} {k:Int},Sr l→T.has l k=(get l k).isSome
 | [],_,_=>rfl
 | a::r,k,hs=>by
  have h':=List.pairwise_cons.1 hs
  simp only[T.has,get]
  split
  ·rename_i h1;rw[if_neg (by omega)];exact has_get h'.2
  ·rename_i h1
   by_cases h2:a.1=k
   ·rw[if_pos h2];simp[h2]
   ·rw[if_neg h2,has_get_lt h'.2 fun e he=>by have:=h'.1 e he;omega]
    simp[h2]
theorem set_get {α:Type} {l:List α} {i j:Nat} {x y:α} (h:(l.set i x)[j]?=some y):(i=j∧y=x∧i<l.length)∨(i≠j∧l[j]?=some y):=by
 rw[List.getElem?_set] at h
 split at h
 ·rename_i e
  split at h
  ·cases h;exact .inl ⟨e,rfl,by omega⟩
  ·cases h
 ·rename_i e;exact .inr ⟨e,h⟩
theorem tk_get {L:List Pl} {j:Nat} {p:Pl} (h:(tk L)[j]?=some p) (ht:p.t=true):(j=ff L∧p=⟨true,none⟩)∨(j≠ff L∧L[j]?=some p):=by
 rw[tk_eq] at h
 split at h
 ·rcases set_get h with⟨e,rfl,_⟩|⟨e,h⟩
  ·exact .inl ⟨e.symm,rfl⟩
  ·exact .inr ⟨Ne.symm e,h⟩
 ·rename_i hlt
  have hle:=ff_le L
  by_cases hj:j<L.length
  ·rw[List.getElem?_append_left hj] at h
   exact .inr ⟨by omega,h⟩
  ·rw[List.getElem?_append_right (by omega)] at h
   by_cases h0:j-L.length=0
   ·rw[h0] at h
    simp[newPg] at h
    exact .inl ⟨by omega,h.symm⟩
   ·exfalso
    obtain⟨m,hm⟩:∃m,j-L.length=m+1:=⟨j-L.length-1,by omega⟩
    rw[hm] at h
    simp only[newPg,List.getElem?_cons_succ,List.getElem?_replicate] at h
    split at h
    ·cases h;cases ht
    ·cases h
theorem tk_at (L:List Pl):(tk L)[ff L]?=some ⟨true,none⟩:=by
 rw[tk_eq]
 split
 ·rename_i h;rw[List.getElem?_set_self h]
 ·rename_i h
  have hle:=ff_le L
  rw[List.getElem?_append_right (by omega),show ff L-L.length=0 by omega];rfl
theorem tk_other {L:List Pl} {j:Nat} (hj:j≠ff L) {p:Pl} (h:L[j]?=some p):(tk L)[j]?=some p:=by
 rw[tk_eq]
 split
 ·rw[List.getElem?_set_ne (Ne.symm hj)];exact h
 ·rw[List.getElem?_append_left (List.getElem?_eq_some_iff.1 h).1];exact h
abbrev Qt:=List (Int×(Int×List En))
abbrev Tab:=List (Int×List En)
structure SL (cap low:Int) (L:List Pl) (q:Qt) (i:Nat):Prop where
 inv:Inv low L
 pl:∀e∈q,0≤e.2.1∧L[e.2.1.toNat]?=some ⟨true,some e.2.2⟩
 nd:∀e∈q,∀f∈q,e.2.1=f.2.1→e=f
 all:∀(j:Nat) (x:Pl),L[j]?=some x→x.t=true→∃e∈q,e.2.1=(j:Int)
 room:L.length≤8*i
 le:(q.length:Int)≤cap
 cap2:0≤cap∧cap≤2000
 ch:∀e∈q,ChIn e.2.2∧e.2.2≠[]
 srt:Sr q
variable {cap low:Int} {L:List Pl} {q:Qt} {i:Nat}
theorem SL.has (h:SL cap low L q i) {k p:Int} {l:List En} (hg:get q k=some (p,l)):Has L p:=⟨(h.pl _ (get_mem hg)).1,_,(h.pl _ (get_mem hg)).2,rfl⟩
theorem chOk {l:List En} (h:ChIn l):l.length≤1000∧∀e∈l,EnOk e:=⟨by have:=h.1;omega,fun e he=>⟨(h.2 e he).lp,(h.2 e he).lq⟩⟩
theorem SL.put (h:SL cap low L q i) {k p:Int} {l l':List En} (hg:get q k=some (p,l)) (hl:ChIn l') (hne:l'≠[]):SL cap low (L.set p.toNat ⟨true,some l'⟩) (ins q k (p,l')) i:=by
 obtain⟨h0,hp⟩:=h.pl _ (get_mem hg)
 simp only at h0 hp
 have hlt:=(List.getElem?_eq_some_iff.1 hp).1
 have hmem:∀e∈ins q k (p,l'),e=(k,p,l')∨(e∈q∧e.1≠k):=fun e he=>by
  by_cases hk:e.1=k
  ·have:=mem_get (h.srt.ins k (p,l')) (show(e.1,e.2)∈_ from he)
   rw[get_ins,if_pos hk.symm] at this
   obtain⟨e1,e2⟩:=e
   simp only at hk this
   subst hk;cases this;exact .inl rfl
  ·rcases mem_ins he with rfl|he
   ·exact absurd rfl hk
   ·exact .inr ⟨he,hk⟩
 have hp':∀e∈q,e.1≠k→e.2.1≠p:=fun e he hk hc=>hk (by have:=h.nd e he _ (get_mem hg) hc;rw[this])
 exact {
  inv:=h.inv.set _ _
  pl:=fun e he=>by
   rcases hmem e he with rfl|⟨he,hk⟩
   ·exact⟨h0,List.getElem?_set_self hlt⟩
   ·obtain⟨q1,q2⟩:=h.pl e he
    have:=hp' e he hk
    exact⟨q1,by rw[List.getElem?_set_ne (by omega)];exact q2⟩
  nd:=fun e he f hf hef=>by
   rcases hmem e he with rfl|⟨he,hk⟩<;>rcases hmem f hf with rfl|⟨hf,hk'⟩
   ·rfl
   ·exact absurd hef.symm (hp' f hf hk')
   ·exact absurd hef (hp' e he hk)
   ·exact h.nd e he f hf hef
  all:=fun j x hx ht=>by
   rcases set_get hx with⟨rfl,rfl,_⟩|⟨hne,hx⟩
   ·refine⟨(k,p,l'),get_mem (by rw[get_ins,if_pos rfl]),?_⟩
    simp only;omega
   ·obtain⟨e,he,h1⟩:=h.all j x hx ht
    refine⟨e,get_mem (k:=e.1) (v:=e.2) ?_,h1⟩
    rw[get_ins,if_neg (fun hc=>?_)]
    ·exact mem_get h.srt he
    ·have:=mem_get h.srt (show(e.1,e.2)∈q from he)
     rw[←hc,hg] at this
     have h3:e.2.1=p:=by
      have:=Option.some.inj this
      rw[←this]
     omega
  room:=by rw[List.length_set];exact h.room
  le:=by rw[ins_len_old _ h.srt hg];exact h.le
  cap2:=h.cap2
  ch:=fun e he=>by
   rcases hmem e he with rfl|⟨he,_⟩
   ·exact⟨hl,hne⟩
   ·exact h.ch e he
  srt:=h.srt.ins _ _}
theorem SL.free (h:SL cap low L q i) {k p:Int} {l:List En} (hg:get q k=some (p,l)):SL cap (if p<low then p else low) (L.set p.toNat ⟨false,none⟩) (del q k) i:=by
 obtain⟨h0,hp⟩:=h.pl _ (get_mem hg)
 simp only at h0 hp
 have hp':∀e∈q,e.1≠k→e.2.1≠p:=fun e he hk hc=>hk (by have:=h.nd e he _ (get_mem hg) hc;rw[this])
 exact {
  inv:=h.inv.unset (h.has hg)
  pl:=fun e he=>by
   obtain⟨he,hk⟩:=mem_del.1 he
   obtain⟨q1,q2⟩:=h.pl e he
   have:=hp' e he hk
   exact⟨q1,by rw[List.getElem?_set_ne (by omega)];exact q2⟩
  nd:=fun e he f hf hef=>h.nd e (mem_del.1 he).1 f (mem_del.1 hf).1 hef
  all:=fun j x hx ht=>by
   rcases set_get hx with⟨_,rfl,_⟩|⟨hne,hx⟩
   ·cases ht
   ·obtain⟨e,he,h1⟩:=h.all j x hx ht
    refine⟨e,mem_del.2 ⟨he,fun hc=>?_⟩,h1⟩
    have:=mem_get h.srt (show(e.1,e.2)∈q from he)
    rw[hc,hg] at this
    have h3:e.2.1=p:=by
     have:=Option.some.inj this
     rw[←this]
    omega
  room:=by rw[List.length_set];exact h.room
  le:=by have:=del_len h.srt hg;have:=h.le;omega
  cap2:=h.cap2
  ch:=fun e he=>h.ch e (mem_del.1 he).1
  srt:=h.srt.del _}
theorem SL.take (h:SL cap low L q i) (hi:i≤400) {k:Int} {l:List En} (hg:get q k=none) (hc:(q.length:Int)<cap) (hl:ChIn l) (hne:l≠[]) :
  SL cap ((ff L:Int)+1) ((tk L).set (ff L) ⟨true,some l⟩) (ins q k ((ff L:Int),l)) (i+1)∧Inv ((ff L:Int)+1) (tk L)∧Has (tk L) (ff L):=by
 have hroom:=h.room
 have hit:=h.inv.take (by omega)
 have hat:=tk_at L
 have hlt:=(List.getElem?_eq_some_iff.1 hat).1
 have hff:∀e∈q,e.2.1≠(ff L:Int):=fun e he hc=>by
  obtain⟨q1,q2⟩:=h.pl e he
  rw[hc,Int.toNat_natCast] at q2
  obtain⟨p,p1,p2⟩:=ff_at L (List.getElem?_eq_some_iff.1 q2).1
  rw[q2] at p1;cases p1;cases p2
 have hmem:∀e∈ins q k ((ff L:Int),l),e=(k,(ff L:Int),l)∨e∈q:=fun e he=>mem_ins he
 refine⟨{
  inv:=hit.set _ _
  pl:=fun e he=>by
   rcases hmem e he with rfl|he
   ·exact⟨by simp only;omega,by simp only[Int.toNat_natCast];exact List.getElem?_set_self hlt⟩
   ·obtain⟨q1,q2⟩:=h.pl e he
    have:=hff e he
    have hne:e.2.1.toNat≠ff L:=by omega
    exact⟨q1,by rw[List.getElem?_set_ne (Ne.symm hne)];exact tk_other hne q2⟩
  nd:=fun e he f hf hef=>by
   rcases hmem e he with rfl|he<;>rcases hmem f hf with rfl|hf
   ·rfl
   ·exact absurd hef.symm (hff f hf)
   ·exact absurd hef (hff e he)
   ·exact h.nd e he f hf hef
  all:=fun j x hx ht=>by
   rcases set_get hx with⟨rfl,_⟩|⟨hj,hx⟩
   ·exact⟨_,get_mem (by rw[get_ins,if_pos rfl]),rfl⟩
   ·rcases tk_get hx ht with⟨e,_⟩|⟨_,hx⟩
    ·exact absurd e.symm hj
    ·obtain⟨e,he,h1⟩:=h.all j x hx ht
     refine⟨e,get_mem (k:=e.1) (v:=e.2) ?_,h1⟩
     rw[get_ins,if_neg (fun hc=>get_none hg e he hc.symm)]
     exact mem_get h.srt he
  room:=by rw[List.length_set,tk_len];split<;>omega
  le:=by rw[ins_len_new _ hg];omega
  cap2:=h.cap2
  ch:=fun e he=>by
   rcases hmem e he with rfl|he
   ·exact⟨hl,hne⟩
   ·exact h.ch e he
  srt:=h.srt.ins _ _},hit,by omega,_,by rw[Int.toNat_natCast];exact hat,rfl⟩
theorem SL.start (h:0≤cap∧cap≤2000):SL cap 0 [] [] 0 where
 inv:=⟨rfl,by simp,by simp,by simp⟩
 pl:=fun e he=>by cases he
 nd:=fun e he=>by cases he
 all:=fun j x hx=>by simp at hx
 room:=by simp
 le:=by simpa using h.1
 cap2:=h
 ch:=fun e he=>by cases he
 srt:=List.Pairwise.nil
end Go.Proofs.YtbppemcdphgknaaGreatDoor
namespace Go.Proofs.YtbppemcdphgknaaGreatDoor
open Go Go.Vm
noncomputable def cxB:Cx DV:=cxOf [(124,1),(125,1),(126,1),(127,1),(128,1),(129,1),(73,1),(74,1),(91,1),(78,1),(79,1),(82,1),(83,1)]
structure PS (cap:Int) (q:Qt) (i:Nat) (sl tr:DV):Prop where
 ex:∃low L Lt F,∃root h:Nat,sl=slF cap q.length low L∧tr=T.trD Lt F root h q.length∧SL cap low L q i∧T.TS Lt F root h (mp Prod.fst q)∧Lt.length≤1+20*i∧F.length+12*q.length≤12*i
 i4:i≤400
theorem ts_h {L:List T.PL} {F:List Nat} {root h:Nat} {ks:T.PL} (t:T.TS L F root h ks) (hn:ks.length≤2000):h≤9:=by
 have:=t.deep.1
 refine Nat.le_of_not_lt fun hc=>?_
 have h1:=this (by omega)
 have h2:3 ^ 10≤3 ^ h:=Nat.pow_le_pow_right (by omega) (by omega)
 omega
variable {cap:Int} {q:Qt} {i:Nat} {sl tr:DV}
theorem PS.len (ps:PS cap q i sl tr):q.length≤2000:=by
 obtain⟨low,L,Lt,F,root,h,rfl,rfl,hs,t,b1,b2⟩:=ps.ex
 have:=hs.le;have:=hs.cap2;omega
theorem PS.chs (ps:PS cap q i sl tr):∀e∈q,ChIn e.2.2∧e.2.2≠[]:=by
 obtain⟨low,L,Lt,F,root,h,rfl,rfl,hs,t,b1,b2⟩:=ps.ex
 exact hs.ch
theorem PS.srt (ps:PS cap q i sl tr):Sr q:=by
 obtain⟨low,L,Lt,F,root,h,rfl,rfl,hs,t,b1,b2⟩:=ps.ex
 exact hs.srt
theorem PS.cap2 (ps:PS cap q i sl tr):0≤cap∧cap≤2000:=by
 obtain⟨low,L,Lt,F,root,h,rfl,rfl,hs,t,b1,b2⟩:=ps.ex
 exact hs.cap2
def chQ (q:Qt) (k:Int):List En:=match get q k with
 | some x=>x.2
 | none=>[]
theorem PS.chIn (ps:PS cap q i sl tr) (k:Int):ChIn (chQ q k):=by
 unfold chQ
 split
 ·rename_i x hx;exact(ps.chs _ (get_mem hx)).1
 ·exact⟨by simp,fun e he=>by cases he⟩
theorem chain78 (ps:PS cap q i sl tr) {k:Int} (hk:KIn k):ATriple Tryz.prog gv R0 78 [.agg [.ref (0,0) 0,.ref (0,1) 0],coV k] [.abs sl,.abs tr] (chV (chQ q k)) [.abs sl,.abs tr] none:=by
 have hn:=ps.len
 obtain⟨low,L,Lt,F,root,h,rfl,rfl,hs,t,b1,b2⟩:=ps.ex
 have hh:=ts_h t (by rw[mp_len];exact hn)
 obtain⟨g,a0,g1,g2⟩:=T.get_ts t (by omega) q.length k
 rw[has_get (hs.srt.mp _),mp_get] at a0 g1 g2
 have c0:=Key_ok k hk
 unfold chQ
 cases hg:get q k with
 | none=>
  rw[hg] at a0
  refine ATriple.to_lst ?_
  refine ATriple.of_bodyW (C:=cxB) Tryz.func78 rfl (by kernel_rfl) (mixedOf _) rfl (by simp[okA,okC,okN,co]) (by simp[okOb,okC,okN]) (by simp[okG,okA,okC,okN,co]) (by simp[okOb,okC,okN]) (fun o ho=>by cases ho) 0 [] fun E hE=>?_
  exact go
 | some x=>
  obtain⟨p,l⟩:=x
  rw[hg] at a0 g1
  have e1:=mem_get (hs.srt.mp Prod.fst) (g1 rfl)
  rw[mp_get,hg] at e1
  obtain rfl:p=g:=Option.some.inj e1
  obtain⟨h0,hp⟩:=hs.pl _ (get_mem hg)
  have ho:=chOk (hs.ch _ (get_mem hg)).1
  have a1:ATriple Tryz.prog gv R0 74 [.ref (0,0) 0,i64V p] [.abs (slF cap q.length low L)] (.tup [chV l,.bool true]) [.abs (slF cap q.length low L)] none:=getF hs.inv h0 hp rfl ho.1 ho.2
  have n0:=pure_E l
  refine ATriple.of_bodyW (C:=cxB) Tryz.func78 rfl (by kernel_rfl) (mixedOf _) rfl (by simp[okA,okC,okN,co,pure_E]) (by simp[okOb,okC,okN,pure_E]) (by simp[okG,okA,okC,okN,co,pure_E]) (by simp[okOb,okC,okN,pure_E]) (fun o ho=>by cases ho) 0 [] fun E hE=>?_
  exact go
end Go.Proofs.YtbppemcdphgknaaGreatDoor
namespace Go.Proofs.YtbppemcdphgknaaGreatDoor
open Go Go.Vm
variable {cap:Int} {q:Qt} {i:Nat} {sl tr:DV}
def okT (cap:Int) (T:Tab) (k:Int) (l:List En):Bool:=l.isEmpty||(get T k).isSome||decide ((T.length:Int)<cap)
def setT (cap:Int) (T:Tab) (k:Int) (l:List En):Tab:=if okT cap T k l then(if l.isEmpty then del T k else ins T k l) else T
def tabQ (q:Qt):Tab:=mp Prod.snd q
theorem out_len (q:Qt) (k:Int):(T.out (mp Prod.fst q) k).length=(del q k).length:=by
 show(del (mp Prod.fst q) k).length=_
 rw[←mp_del,mp_len]
theorem lay_len (q:Qt) (k p:Int) (l:List En):(T.lay (mp Prod.fst q) k p).length=(ins q k (p,l)).length:=by
 rw[←ins_lay,←mp_len Prod.fst (ins q k (p,l)),mp_ins]
theorem set79 (ps:PS cap q i sl tr) (hi:i<400) {k:Int} (hk:KIn k) {l:List En} (hl:ChIn l) :
  ∃q' i' sl' tr',ATriple Tryz.prog gv R0 79 [.agg [.ref (0,0) 0,.ref (0,1) 0],coV k,chV l] [.abs sl,.abs tr] (.bool (okT cap (tabQ q) k l)) [.abs sl',.abs tr'] none∧PS cap q' i' sl' tr'∧tabQ q'=setT cap (tabQ q) k l∧i'≤i+1:=by
 have hn:=ps.len
 have hps:=ps
 obtain⟨low,L,Lt,F,root,h,rfl,rfl,hs,t,b1,b2⟩:=ps.ex
 have hcap:=hs.cap2
 have hh:=ts_h t (by rw[mp_len];exact hn)
 obtain⟨g,a0,g1,g2⟩:=T.get_ts t (by omega) q.length k
 rw[has_get (hs.srt.mp _),mp_get] at a0 g1 g2
 have c0:=Key_ok k hk
 have n0:=pure_E l
 have hle:=hs.le
 have hTl:(tabQ q).length=q.length:=mp_len _ _
 by_cases hz:l=[]
 ·subst hz
  have hok:okT cap (tabQ q) k []=true:=by simp[okT]
  have hset:setT cap (tabQ q) k []=del (tabQ q) k:=by unfold setT;rw[hok];rfl
  rw[hok,hset]
  cases hg:get q k with
  | none=>
   rw[hg] at a0
   refine⟨q,i,_,_,?_,hps,(del_none (by rw[tabQ,mp_get,hg];rfl)).symm,by omega⟩
   refine ATriple.of_bodyW (C:=cxB) Tryz.func79 rfl (by kernel_rfl) (mixedOf _) rfl (by simp[okA,okC,okN,co,pure_E,pure_nil]) (by simp[okOb,okC,okN,pure_E,pure_nil]) (by simp[okG,okA,okC,okN,co,pure_E,pure_nil]) (by simp[okOb,okC,okN,pure_E,pure_nil]) (fun o ho=>by cases ho) 0 [] fun E hE=>?_
   exact go
  | some x=>
   obtain⟨p,l0⟩:=x
   rw[hg] at a0 g1
   have e1:=mem_get (hs.srt.mp Prod.fst) (g1 rfl)
   rw[mp_get,hg] at e1
   obtain rfl:p=g:=Option.some.inj e1
   obtain⟨Lt',F',root',h',a1,t',d1,d2,d3⟩:=T.drop_ts t (by omega) (by have:=hps.i4;omega) (by rw[mp_len];omega) k
   have hdl:=del_len hs.srt hg
   rw[mp_len,out_len,has_get (hs.srt.mp _),mp_get,hg] at a1
   have a2:=freeF (cap:=cap) (taken:=q.length) hs.inv (hs.has hg)
   rw[show IntKind.i64.wrap ((q.length:Int)-1)=((del q k).length:Int) from(wrap64 (by omega) (by omega)).trans (by omega)] at a2
   refine⟨del q k,i,_,_,?_,⟨⟨_,_,Lt',F',root',h',rfl,rfl,hs.free hg,by rw[mp_del];exact t',by omega,by omega⟩,hps.i4⟩,mp_del _ _ _,by omega⟩
   refine ATriple.of_bodyW (C:=cxB) Tryz.func79 rfl (by kernel_rfl) (mixedOf _) rfl (by simp[okA,okC,okN,co,pure_E,pure_nil]) (by simp[okOb,okC,okN,pure_E,pure_nil]) (by simp[okG,okA,okC,okN,co,pure_E,pure_nil]) (by simp[okOb,okC,okN,pure_E,pure_nil]) (fun o ho=>by cases ho) 0 [] fun E hE=>?_
   exact go
 ·have hz':(l.map encE).length≠0:=by simpa using hz
  have hemp:l.isEmpty=false:=by cases l<;>simp_all
  cases hg:get q k with
  | some x=>
   obtain⟨p,l0⟩:=x
   rw[hg] at a0 g1
   have e1:=mem_get (hs.srt.mp Prod.fst) (g1 rfl)
   rw[mp_get,hg] at e1
   obtain rfl:p=g:=Option.some.inj e1
   have hok:okT cap (tabQ q) k l=true:=by simp[okT,tabQ,mp_get,hg]
   have hset:setT cap (tabQ q) k l=ins (tabQ q) k l:=by unfold setT;rw[hok,hemp];rfl
   rw[hok,hset]
   have ho:=chOk hl
   have a1:=putF (cap:=cap) (taken:=q.length) hs.inv (hs.has hg) l ho.1 ho.2
   have hq:(ins q k (p,l)).length=q.length:=ins_len_old _ hs.srt hg
   refine⟨ins q k (p,l),i,_,_,?_,⟨⟨low,_,Lt,F,root,h,rfl,rfl,hs.put hg hl hz,by rw[mp_ins,ins_same (hs.srt.mp _) (by rw[mp_get,hg];rfl)];exact t,by omega,by omega⟩,hps.i4⟩,mp_ins _ _ _ _,by omega⟩
   rw[hq]
   refine ATriple.of_bodyW (C:=cxB) Tryz.func79 rfl (by kernel_rfl) (mixedOf _) rfl (by simp[okA,okC,okN,co,pure_E,pure_nil]) (by simp[okOb,okC,okN,pure_E,pure_nil]) (by simp[okG,okA,okC,okN,co,pure_E,pure_nil]) (by simp[okOb,okC,okN,pure_E,pure_nil]) (fun o ho=>by cases ho) 0 [] fun E hE=>?_
   exact go
  | none=>
   rw[hg] at a0
   by_cases hc:(q.length:Int)<cap
   ·have hok:okT cap (tabQ q) k l=true:=by simp[okT,hTl,hc]
    have hset:setT cap (tabQ q) k l=ins (tabQ q) k l:=by unfold setT;rw[hok,hemp];rfl
    rw[hok,hset]
    have ho:=chOk hl
    have hnew:=ins_len_new ((ff L:Int),l) hg
    have hff:=ff_le L
    have hrm:=hs.room
    obtain⟨s1,s2,s3⟩:=hs.take (by omega) hg hc hl hz
    have a1:=takeF (cap:=cap) (taken:=q.length) hs.inv hc
    have w1:IntKind.i64.wrap ((q.length:Int)+1)=((ins q k ((ff L:Int),l)).length:Int):=(wrap64 (by omega) (by omega)).trans (by omega)
    have w2:IntKind.i64.wrap ((ff L:Int)+1)=(ff L:Int)+1:=wrap64 (by omega) (by omega)
    rw[w1,w2] at a1
    have a3:=putF (cap:=cap) (taken:=((ins q k ((ff L:Int),l)).length:Int)) s2 s3 l ho.1 ho.2
    rw[Int.toNat_natCast] at a3
    obtain⟨Lt',F',root',h',a2,t',d1,d2,d3⟩:=T.put_ts t (by omega) (by omega) (by rw[mp_len];omega) k (ff L)
    rw[mp_len,lay_len q k _ l] at a2
    clear w1 w2
    refine⟨ins q k ((ff L:Int),l),i+1,_,_,?_,⟨⟨_,_,Lt',F',root',h',rfl,rfl,s1,by rw[mp_ins,ins_lay];exact t',by omega,by omega⟩,by omega⟩,mp_ins _ _ _ _,by omega⟩
    refine ATriple.of_bodyW (C:=cxB) Tryz.func79 rfl (by kernel_rfl) (mixedOf _) rfl (by simp[okA,okC,okN,co,pure_E,pure_nil]) (by simp[okOb,okC,okN,pure_E,pure_nil]) (by simp[okG,okA,okC,okN,co,pure_E,pure_nil]) (by simp[okOb,okC,okN,pure_E,pure_nil]) (fun o ho=>by cases ho) 0 [] fun E hE=>?_
    exact go
   ·have hok:okT cap (tabQ q) k l=false:=by simp[okT,tabQ,mp_get,mp_len,hg,hemp];omega
    have hset:setT cap (tabQ q) k l=tabQ q:=by unfold setT;rw[hok];rfl
    rw[hok,hset]
    have a1:=takeFull (cap:=cap) (taken:=q.length) (low:=low) (L:=L) (by omega)
    refine⟨q,i,_,_,?_,hps,rfl,by omega⟩
    refine ATriple.of_bodyW (C:=cxB) Tryz.func79 rfl (by kernel_rfl) (mixedOf _) rfl (by simp[okA,okC,okN,co,pure_E,pure_nil]) (by simp[okOb,okC,okN,pure_E,pure_nil]) (by simp[okG,okA,okC,okN,co,pure_E,pure_nil]) (by simp[okOb,okC,okN,pure_E,pure_nil]) (fun o ho=>by cases ho) 0 [] fun E hE=>?_
    exact go
end Go.Proofs.YtbppemcdphgknaaGreatDoor
namespace Go.Proofs.YtbppemcdphgknaaGreatDoor
open Go Go.Vm
def tbD (sl tr:DV) (m keep:Int):DV:=.mk [.ref (0,0) 0,.ref (0,1) 0,i64V m,i64V keep] [.abs sl,.abs tr]
theorem shut_tb (a b:Name) (sl tr:DV) (m keep:Int):Shut (tbD sl tr m keep) [a,b] [.ref a 0,.ref b 0,i64V m,i64V keep] [.abs sl,.abs tr]:=
 ⟨rfl,.cons (.refl _) (.cons (.refl _) .nil),by simp[tbD,Deep.op,okC,okN],by simp[tbD,Deep.op,okOb]⟩
theorem goT {P:Prop} (h:P:=by
 repeat' (conv=>whnf);first
  | (refine bcase_of (fun hr=>?_) (fun hr=>?_)<;>(try simp only[bs] at hr)<;>try(exfalso;first|omega|(simp at hr;done)|(simp_all;done)))
  | (apply And.intro;· first|exact nd10|exact n0|exact n1|exact n2|exact n3|exact n4|exact n5|exact n6|exact n7|exact n8|exact n9|exact⟨by decide,by decide⟩|exact⟨nb rfl,allOne_of rfl⟩|exact allOne_of rfl|exact⟨rfl,rfl⟩|exact pure_of rfl|exact⟨by omega,by omega⟩)
  | (apply Exists.intro;apply And.intro;· first|exact rfl|exact c0|exact c1|exact c2|exact c3|exact c4|exact c5|exact c6|exact c7|exact c8|exact c9)
  | (apply Exists.intro;apply Exists.intro;apply Exists.intro;apply And.intro;· first|(refine ATriple.callN a0 ?_ ?_ ?_<;>rfl)|(refine ATriple.callN a1 ?_ ?_ ?_<;>rfl)|(refine ATriple.callN a2 ?_ ?_ ?_<;>rfl)|(refine ATriple.callN a3 ?_ ?_ ?_<;>rfl)|(refine ATriple.callN a4 ?_ ?_ ?_<;>rfl)|(refine ATriple.callN a5 ?_ ?_ ?_<;>rfl)|(refine ATriple.callN a6 ?_ ?_ ?_<;>rfl)|(refine ATriple.callN a7 ?_ ?_ ?_<;>rfl))
  | rw[w0]|rw[w1]|rw[w2]|rw[w3]|rw[w4]
  | fail
 all_goals (conv=>whnf)
 all_goals first|(refine⟨[.shut (0,0) (tbD sl tr m keep)],?_⟩;(conv=>whnf);refine⟨shut_tb _ _ _ _ _ _,?_⟩;(conv=>whnf);exact⟨rfl,rfl⟩)|(refine⟨[.shut (0,0) (tbD sl2 tr2 m keep)],?_⟩;(conv=>whnf);refine⟨shut_tb _ _ _ _ _ _,?_⟩;(conv=>whnf);exact⟨rfl,rfl⟩)|exact e0|exact e1|exact e2|exact⟨rfl,rfl⟩|rfl|(refine⟨[],?_⟩;(conv=>whnf);exact⟨rfl,rfl⟩)):P:=h
def chT (Tb:Tab) (k:Int):List En:=(get Tb k).getD []
theorem chQ_eq (q:Qt) (k:Int):chQ q k=chT (tabQ q) k:=by
 unfold chQ chT tabQ
 rw[mp_get]
 cases get q k<;>rfl
structure TB (m keep cap:Int) (Tb:Tab) (i:Nat) (x:DV):Prop where
 ex:∃q sl tr,x=tbD sl tr m keep∧PS cap q i sl tr∧tabQ q=Tb
 m2:1≤m∧m≤2
 k2:2≤keep∧keep≤8
 len:∀e∈Tb,e.2.length≤9
 kin:∀e∈Tb,KIn e.1
variable {m keep cap:Int} {Tb:Tab} {i:Nat} {x:DV}
theorem TB.srt (h:TB m keep cap Tb i x):Sr Tb:=by
 obtain⟨q,sl,tr,rfl,ps,rfl⟩:=h.ex
 exact ps.srt.mp _
theorem TB.size (h:TB m keep cap Tb i x):Tb.length≤2000:=by
 obtain⟨q,sl,tr,rfl,ps,rfl⟩:=h.ex
 have:=ps.len
 rw[tabQ,mp_len];exact this
theorem TB.cap2 (h:TB m keep cap Tb i x):0≤cap∧cap≤2000:=by
 obtain⟨q,sl,tr,rfl,ps,rfl⟩:=h.ex
 exact ps.cap2
theorem TB.mem (h:TB m keep cap Tb i x):∀e∈Tb,ChIn e.2∧e.2≠[]:=by
 obtain⟨q,sl,tr,rfl,ps,rfl⟩:=h.ex
 intro e he
 obtain⟨f,hf,rfl⟩:=List.mem_map.1 he
 exact ps.chs f hf
theorem TB.chIn (h:TB m keep cap Tb i x) (k:Int):ChIn (chT Tb k)∧(chT Tb k).length≤9:=by
 unfold chT
 cases hg:get Tb k with
 | none=>exact⟨⟨by simp,fun e he=>by cases he⟩,by simp⟩
 | some l=>exact⟨(h.mem _ (get_mem hg)).1,h.len _ (get_mem hg)⟩
theorem tChain (h:TB m keep cap Tb i x) {k:Int} (hk:KIn k):ATriple Tryz.prog gv R0 33 [.ref (0,0) 0,coV k] [.abs x] (chV (chT Tb k)) [.abs x] none:=by
 obtain⟨q,sl,tr,rfl,ps,rfl⟩:=h.ex
 have a0:=chain78 ps hk
 rw[chQ_eq] at a0
 have n0:=pure_E (chT (tabQ q) k)
 refine ATriple.of_bodyW (C:=cxB) Tryz.func33 rfl (by kernel_rfl) (mixedOf _) rfl (by simp[okA,okC,okN,co,pure_E]) (by simp[okOb,okC,okN,pure_E]) (by simp[okG,okA,okC,okN,co,pure_E]) (by simp[okOb,okC,okN,pure_E]) (fun o ho=>by cases ho) 2 [.opn (0,0) [13,14]] fun E hE=>?_
 exact goT
theorem tAt (h:TB m keep cap Tb i x) {k:Int} (hk:KIn k) (ver:Int):ATriple Tryz.prog gv R0 23 [.ref (0,0) 0,coV k,i64V ver] [.abs x] (atV (atS m (chT Tb k) ver)) [.abs x] none:=by
 have c0:=At_ok m (chT Tb k) ver (h.chIn k).1
 obtain⟨q,sl,tr,rfl,ps,rfl⟩:=h.ex
 have a0:=chain78 ps hk
 rw[chQ_eq] at a0
 have n0:=pure_E (chT (tabQ q) k)
 cases hs:atS m (chT (tabQ q) k) ver with
 | none=>
  rw[hs] at c0
  refine ATriple.of_bodyW (C:=cxB) Tryz.func23 rfl (by kernel_rfl) (mixedOf _) rfl (by simp[okA,okC,okN,co,pure_R,pure_nil,atV]) (by simp[okOb,okC,okN,pure_R,pure_nil,atV]) (by simp[okG,okA,okC,okN,co,pure_R,pure_nil,atV]) (by simp[okOb,okC,okN,pure_R,pure_nil,atV]) (fun o ho=>by cases ho) 2 [.opn (0,0) [25,26]] fun E hE=>?_
  exact goT
 | some e=>
  rw[hs] at c0
  have n1:=pure_R e.p
  have n2:=pure_R e.q
  refine ATriple.of_bodyW (C:=cxB) Tryz.func23 rfl (by kernel_rfl) (mixedOf _) rfl (by simp[okA,okC,okN,co,pure_R,pure_nil,atV]) (by simp[okOb,okC,okN,pure_R,pure_nil,atV]) (by simp[okG,okA,okC,okN,co,pure_R,pure_nil,atV]) (by simp[okOb,okC,okN,pure_R,pure_nil,atV]) (fun o ho=>by cases ho) 2 [.opn (0,0) [25,26]] fun E hE=>?_
  exact goT
theorem tLen (h:TB m keep cap Tb i x):ATriple Tryz.prog gv R0 34 [.ref (0,0) 0] [.abs x] (i64V Tb.length) [.abs x] none:=by
 obtain⟨q,sl,tr,rfl,ps,rfl⟩:=h.ex
 obtain⟨low,L,Lt,F,root,hh,rfl,rfl,hs,t,b1,b2⟩:=ps.ex
 have a0:=T.len_ok Lt F root hh q.length
 rw[show(tabQ q).length=q.length from mp_len _ _]
 obtain⟨sl,hsl⟩:∃z,z=slF cap q.length low L:=⟨_,rfl⟩
 obtain⟨tr,htr⟩:∃z,z=T.trD Lt F root hh q.length:=⟨_,rfl⟩
 rw[←htr] at a0
 rw[←hsl,←htr]
 refine ATriple.of_bodyW (C:=cxB) Tryz.func34 rfl (by kernel_rfl) (mixedOf _) rfl (by simp[okA,okC,okN,co]) (by simp[okOb,okC,okN]) (by simp[okG,okA,okC,okN,co]) (by simp[okOb,okC,okN]) (fun o ho=>by cases ho) 2 [.opn (0,0) [11,12]] fun E hE=>?_
 exact goT
def nxT (Tb:Tab) (k:Int):Option (Int×List En):=Tb.find? fun e=>decide (k≤e.1)
def nxR:Option (Int×List En)→V
 | none=>.tup [coV 0,.bool false]
 | some e=>.tup [coV e.1,.bool true]
theorem nx_q (q:Qt) (k:Int):T.nx (mp Prod.fst q) k=(q.find? fun e=>decide (k≤e.1)).map fun e=>(e.1,e.2.1):=by
 unfold T.nx mp
 rw[List.find?_map];rfl
theorem nxT_q (q:Qt) (k:Int):nxT (tabQ q) k=(q.find? fun e=>decide (k≤e.1)).map fun e=>(e.1,e.2.2):=by
 unfold nxT tabQ mp
 rw[List.find?_map];rfl
theorem tNext (h:TB m keep cap Tb i x) (k:Int):ATriple Tryz.prog gv R0 31 [.ref (0,0) 0,u32V k] [.abs x] (nxR (nxT Tb k)) [.abs x] none:=by
 obtain⟨q,sl,tr,rfl,ps,rfl⟩:=h.ex
 have hkin:=h.kin
 have hn:=ps.len
 obtain⟨low,L,Lt,F,root,hh,rfl,rfl,hs,t,b1,b2⟩:=ps.ex
 have h9:=ts_h t (by rw[mp_len];exact hn)
 have a0:=T.next_ts t (by omega) q.length k
 rw[nx_q] at a0
 rw[nxT_q]
 obtain⟨sl,hsl⟩:∃z,z=slF cap q.length low L:=⟨_,rfl⟩
 obtain⟨tr,htr⟩:∃z,z=T.trD Lt F root hh q.length:=⟨_,rfl⟩
 rw[←hsl]
 rw[←htr] at a0 ⊢
 cases hf:q.find? fun e=>decide (k≤e.1) with
 | none=>
  rw[hf] at a0
  have c0:=cAt_ok 0 ⟨by omega,by omega⟩
  refine ATriple.of_bodyW (C:=cxB) Tryz.func31 rfl (by kernel_rfl) (mixedOf _) rfl (by simp[okA,okC,okN,co,nxR]) (by simp[okOb,okC,okN,nxR]) (by simp[okG,okA,okC,okN,co,nxR]) (by simp[okOb,okC,okN,nxR]) (fun o ho=>by cases ho) 2 [.opn (0,0) [25,26]] fun E hE=>?_
  exact goT
 | some e=>
  rw[hf] at a0
  have c0:=cAt_ok e.1 (hkin (e.1,e.2.2) (List.mem_map.2 ⟨e,List.mem_of_find?_eq_some hf,rfl⟩))
  refine ATriple.of_bodyW (C:=cxB) Tryz.func31 rfl (by kernel_rfl) (mixedOf _) rfl (by simp[okA,okC,okN,co,nxR]) (by simp[okOb,okC,okN,nxR]) (by simp[okG,okA,okC,okN,co,nxR]) (by simp[okOb,okC,okN,nxR]) (fun o ho=>by cases ho) 2 [.opn (0,0) [25,26]] fun E hE=>?_
  exact goT
end Go.Proofs.YtbppemcdphgknaaGreatDoor
namespace Go.Proofs.YtbppemcdphgknaaGreatDoor
open Go Go.Vm
variable {m keep cap:Int} {Tb:Tab} {i:Nat} {x:DV}
theorem putA_some {l l':List En} {ver floor:Int} {c:En} {b:Bool} (h:putA m keep l ver c b floor=some l') (hl:ChIn l) (hl8:l.length≤800) (hc:EnIn c):ChIn l'∧(l'.length:Int)≤keep+1:=by
 unfold putA at h
 split at h
 ·cases h
 ·split at h
  ·cases h
  ·rename_i h1 h2
   cases h
   refine⟨?_,by omega⟩
   unfold afterP
   split
   ·exact pruneS_ch (putS_ch hl hl8 hc ver b) floor
   ·exact putS_ch hl hl8 hc ver b
def tPut (m keep cap:Int) (Tb:Tab) (k ver:Int) (c:En) (b:Bool) (floor:Int):Int×Tab:=match putA m keep (chT Tb k) ver c b floor with
 | none=>(1,Tb)
 | some l=>(if okT cap Tb k l then 0 else 10,setT cap Tb k l)
theorem mem_setT {k:Int} {l:List En} {e:Int×List En} (h:e∈setT cap Tb k l):e=(k,l)∨e∈Tb:=by
 unfold setT at h
 split at h
 ·split at h
  ·exact .inr (mem_del.1 h).1
  ·exact mem_ins h
 ·exact .inr h
theorem TB.set (h:TB m keep cap Tb i x) {q:Qt} {i':Nat} {sl tr:DV} {k:Int} {l:List En} (ps:PS cap q i' sl tr) (hq:tabQ q=setT cap Tb k l) (hk:KIn k) (hl:l.length≤9):TB m keep cap (setT cap Tb k l) i' (tbD sl tr m keep) where
 ex:=⟨q,sl,tr,rfl,ps,hq⟩
 m2:=h.m2
 k2:=h.k2
 len:=fun e he=>by
  rcases mem_setT he with rfl|he
  ·exact hl
  ·exact h.len e he
 kin:=fun e he=>by
  rcases mem_setT he with rfl|he
  ·exact hk
  ·exact h.kin e he
theorem tPut_ok (h:TB m keep cap Tb i x) (hi:i<400) {k:Int} (hk:KIn k) (ver:Int) {c:En} (hc:EnIn c) (b:Bool) (floor:Int) :
  ∃x' i',ATriple Tryz.prog gv R0 22 [.ref (0,0) 0,coV k,i64V ver,cellE c,.bool b,i64V floor] [.abs x] (i64V (tPut m keep cap Tb k ver c b floor).1) [.abs x'] none∧TB m keep cap (tPut m keep cap Tb k ver c b floor).2 i' x'∧i'≤i+1:=by
 have hch:=h.chIn k
 have c0:=Put_ok m keep ver floor (chT Tb k) c b hch.1 (by omega) hc
 have n0:=pure_E (chT Tb k)
 have n1:=pure_R c.p
 have n2:=pure_R c.q
 have hx:=h
 obtain⟨q,sl,tr,rfl,ps,hq⟩:=h.ex
 have a0:=chain78 ps hk
 rw[chQ_eq,hq] at a0
 unfold tPut
 cases hp:putA m keep (chT Tb k) ver c b floor with
 | none=>
  rw[hp] at c0
  refine⟨_,i,?_,hx,by omega⟩
  cases b
  all_goals
   refine ATriple.of_bodyW (C:=cxB) Tryz.func22 rfl (by kernel_rfl) (mixedOf _) rfl (by simp[okA,okC,okN,co,pure_R,pure_nil]) (by simp[okOb,okC,okN,pure_R,pure_nil]) (by simp[okG,okA,okC,okN,co,pure_R,pure_nil]) (by simp[okOb,okC,okN,pure_R,pure_nil]) (fun o ho=>by cases ho) 2 [.opn (0,0) [51,52]] fun E hE=>?_
   exact goT
 | some l=>
  dsimp only
  rw[hp] at c0
  have n3:=pure_E l
  obtain⟨h1,h2⟩:=putA_some hp hch.1 (by omega) hc
  have:=h.k2
  obtain⟨q',i',sl2,tr2,a1,ps',hq',hi'⟩:=set79 ps hi hk h1
  rw[hq] at a1 hq'
  refine⟨tbD sl2 tr2 m keep,i',?_,hx.set ps' hq' hk (by omega),hi'⟩
  cases ho:okT cap Tb k l with
  | true=>
   rw[ho] at a1
   cases b
   all_goals
    refine ATriple.of_bodyW (C:=cxB) Tryz.func22 rfl (by kernel_rfl) (mixedOf _) rfl (by simp[okA,okC,okN,co,pure_R,pure_nil]) (by simp[okOb,okC,okN,pure_R,pure_nil]) (by simp[okG,okA,okC,okN,co,pure_R,pure_nil]) (by simp[okOb,okC,okN,pure_R,pure_nil]) (fun o ho=>by cases ho) 2 [.opn (0,0) [51,52]] fun E hE=>?_
    exact goT
  | false=>
   rw[ho] at a1
   cases b
   all_goals
    refine ATriple.of_bodyW (C:=cxB) Tryz.func22 rfl (by kernel_rfl) (mixedOf _) rfl (by simp[okA,okC,okN,co,pure_R,pure_nil]) (by simp[okOb,okC,okN,pure_R,pure_nil]) (by simp[okG,okA,okC,okN,co,pure_R,pure_nil]) (by simp[okOb,okC,okN,pure_R,pure_nil]) (fun o ho=>by cases ho) 2 [.opn (0,0) [51,52]] fun E hE=>?_
    exact goT
def lastV (l:List En) (ver:Int):Bool:=match l[l.length-1]? with
 | none=>false
 | some e=>decide (e.v=ver)
def tUndo (m cap:Int) (Tb:Tab) (k ver:Int):Bool×Tab:=if lastV (chT Tb k) ver then(true,setT cap Tb k (undoS m (chT Tb k) ver)) else(false,Tb)
theorem undoS_in {l:List En} (h:ChIn l) (ver:Int):ChIn (undoS m l ver)∧(undoS m l ver).length≤l.length:=by
 unfold undoS
 repeat' split
 ·exact⟨⟨by simp,fun e he=>by cases he⟩,by simp⟩
 ·exact⟨h,by omega⟩
 ·exact⟨h.take _,by simp⟩
 ·exact⟨h,by omega⟩
theorem chT_some {k:Int} (h:chT Tb k≠[]):(get Tb k).isSome=true:=by
 unfold chT at h
 cases hg:get Tb k with
 | none=>rw[hg] at h;exact absurd rfl h
 | some l=>rfl
theorem okT_there {k:Int} (h:chT Tb k≠[]) (l:List En):okT cap Tb k l=true:=by simp[okT,chT_some h]
theorem tUndo_ok (h:TB m keep cap Tb i x) (hi:i<400) {k:Int} (hk:KIn k) (ver:Int) :
  ∃x' i',ATriple Tryz.prog gv R0 26 [.ref (0,0) 0,coV k,i64V ver] [.abs x] (.bool (tUndo m cap Tb k ver).1) [.abs x'] none∧TB m keep cap (tUndo m cap Tb k ver).2 i' x'∧i'≤i+1:=by
 have hch:=h.chIn k
 have hx:=h
 have n0:=pure_E (chT Tb k)
 have lL:((chT Tb k).map encE).length=(chT Tb k).length:=by simp
 obtain⟨q,sl,tr,rfl,ps,hq⟩:=h.ex
 have a0:=chain78 ps hk
 rw[chQ_eq,hq] at a0
 cases he:(chT Tb k)[(chT Tb k).length-1]? with
 | none=>
  have hz:(chT Tb k).length=0:=by have:=List.getElem?_eq_none_iff.1 he;omega
  have hu:tUndo m cap Tb k ver=(false,Tb):=by unfold tUndo lastV;rw[he];rfl
  rw[hu]
  refine⟨_,i,?_,hx,by omega⟩
  refine ATriple.of_bodyW (C:=cxB) Tryz.func26 rfl (by kernel_rfl) (mixedOf _) rfl (by simp[okA,okC,okN,co]) (by simp[okOb,okC,okN]) (by simp[okG,okA,okC,okN,co]) (by simp[okOb,okC,okN]) (fun o ho=>by cases ho) 2 [.opn (0,0) [43,44]] fun E hE=>?_
  exact goT
 | some e=>
  have hz:=(List.getElem?_eq_some_iff.1 he).1
  have w0:IntKind.i64.wrap ((((chT Tb k).map encE).length:Int)-1)=(((chT Tb k).length-1:Nat):Int):=(wrap64 (by omega) (by omega)).trans (by omega)
  have c1:lget ((chT Tb k).map encE) ((((chT Tb k).length-1:Nat):Int)).toNat=some (encE e):=by rw[lget_eq,Int.toNat_natCast,List.getElem?_map,he];rfl
  by_cases hv:e.v=ver
  ·have hu:tUndo m cap Tb k ver=(true,setT cap Tb k (undoS m (chT Tb k) ver)):=by unfold tUndo lastV;rw[he];simp[hv]
   rw[hu]
   have c0:=Undo_ok m (chT Tb k) ver hch.1
   obtain⟨u1,u2⟩:=undoS_in (m:=m) hch.1 ver
   have n3:=pure_E (undoS m (chT Tb k) ver)
   obtain⟨q',i',sl2,tr2,a1,ps',hq',hi'⟩:=set79 ps hi hk u1
   rw[hq,okT_there (fun e0=>by rw[e0] at hz;simp at hz)] at a1
   rw[hq] at hq'
   refine⟨tbD sl2 tr2 m keep,i',?_,hx.set ps' hq' hk (by omega),hi'⟩
   refine ATriple.of_bodyW (C:=cxB) Tryz.func26 rfl (by kernel_rfl) (mixedOf _) rfl (by simp[okA,okC,okN,co]) (by simp[okOb,okC,okN]) (by simp[okG,okA,okC,okN,co]) (by simp[okOb,okC,okN]) (fun o ho=>by cases ho) 2 [.opn (0,0) [43,44]] fun E hE=>?_
   exact goT
  ·have hu:tUndo m cap Tb k ver=(false,Tb):=by unfold tUndo lastV;rw[he];simp[hv]
   rw[hu]
   refine⟨_,i,?_,hx,by omega⟩
   refine ATriple.of_bodyW (C:=cxB) Tryz.func26 rfl (by kernel_rfl) (mixedOf _) rfl (by simp[okA,okC,okN,co]) (by simp[okOb,okC,okN]) (by simp[okG,okA,okC,okN,co]) (by simp[okOb,okC,okN]) (fun o ho=>by cases ho) 2 [.opn (0,0) [43,44]] fun E hE=>?_
   exact goT
end Go.Proofs.YtbppemcdphgknaaGreatDoor
