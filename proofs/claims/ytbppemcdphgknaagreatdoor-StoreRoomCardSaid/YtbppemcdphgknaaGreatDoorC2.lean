/- A part of the proofs over the seat YtbppemcdphgknaaGreatDoor. -/
import Derived.Test.YtbppemcdphgknaaGreatDoorZCx
set_option linter.unusedVariables false
set_option linter.unusedSimpArgs false
set_option maxRecDepth 100000
set_option maxHeartbeats 40000000
namespace Go.Proofs.YtbppemcdphgknaaGreatDoor
open Go Go.Vm
set_option maxRecDepth 100000
set_option maxHeartbeats 40000000
set_option linter.unusedSimpArgs false
set_option linter.unusedVariables false
abbrev i64V (n:Int):V:=.int .i64 n
abbrev u64V (n:Int):V:=.int .u64 n
theorem wrapU (x:Int):IntKind.u64.wrap x=x % 18446744073709551616:=by
 have e1:(2:Int) ^ IntKind.u64.bits=18446744073709551616:=rfl
 have e3:IntKind.u64.signed=false:=rfl
 simp[IntKind.wrap,e1,e3]
theorem wrapI (x:Int):IntKind.i64.wrap x=if x % 18446744073709551616≥9223372036854775808 then x % 18446744073709551616-18446744073709551616 else x % 18446744073709551616:=by
 have e1:(2:Int) ^ IntKind.i64.bits=18446744073709551616:=rfl
 have e2:(2:Int) ^ (IntKind.i64.bits-1)=9223372036854775808:=rfl
 have e3:IntKind.i64.signed=true:=rfl
 simp only[IntKind.wrap,e1,e2,e3,Bool.true_and,decide_eq_true_eq]
theorem and32 (x:Int) (h0:0≤x) (h1:x<18446744073709551616):IntKind.u64.wrap ((BitVec.ofInt IntKind.u64.bits x &&& BitVec.ofInt IntKind.u64.bits 4294967295).toNat)=x % 4294967296:=by
 obtain⟨n,rfl⟩:=Int.eq_ofNat_of_zero_le h0
 have e1:(BitVec.ofInt IntKind.u64.bits (n:Int)).toNat=n:=by
  rw[BitVec.toNat_ofInt]
  show((n:Int) % (2 ^ 64:Nat)).toNat=n
  omega
 have e2:(BitVec.ofInt IntKind.u64.bits 4294967295).toNat=2 ^ 32-1:=by rfl
 rw[BitVec.toNat_and,e1,e2,Nat.and_two_pow_sub_one_eq_mod,wrapU]
 omega
theorem shr32 (x:Int):x.fdiv (2 ^ min (32:Int).toNat IntKind.u64.bits)=x / 4294967296:=by
 have:(2:Int) ^ min (32:Int).toNat IntKind.u64.bits=4294967296:=rfl
 rw[this,Int.fdiv_eq_ediv_of_nonneg _ (by decide)]
theorem or32 (x y:Int) (h0:0≤x) (h1:x<18446744073709551616) (hx:x % 4294967296=0) (h2:0≤y) (h3:y<4294967296) :
  IntKind.u64.wrap ((BitVec.ofInt IntKind.u64.bits x ||| BitVec.ofInt IntKind.u64.bits y).toNat)=x+y:=by
 obtain⟨n,rfl⟩:=Int.eq_ofNat_of_zero_le h0
 obtain⟨m,rfl⟩:=Int.eq_ofNat_of_zero_le h2
 have e1:∀k:Nat,k<18446744073709551616→(BitVec.ofInt IntKind.u64.bits (k:Int)).toNat=k:=fun k hk=>by
  rw[BitVec.toNat_ofInt]
  show((k:Int) % (2 ^ 64:Nat)).toNat=k
  omega
 rw[BitVec.toNat_or,e1 n (by omega),e1 m (by omega),wrapU]
 have hn:n=n / 4294967296*2 ^ 32:=by omega
 have:n ||| m=n+m:=by
  rw[hn,←Nat.shiftLeft_eq,Nat.shiftLeft_add_eq_or_of_lt (by omega)]
 rw[this]
 omega
theorem and32' (x:Int) (h0:0≤x) (h1:x<18446744073709551616):(((BitVec.ofInt IntKind.u64.bits x &&& BitVec.ofInt IntKind.u64.bits 4294967295).toNat:Nat):Int) % 18446744073709551616=x % 4294967296:=by
 rw[←wrapU];exact and32 x h0 h1
theorem or32' (x y:Int) (h0:0≤x) (h1:x<18446744073709551616) (hx:x % 4294967296=0) (h2:0≤y) (h3:y<4294967296) :
  (((BitVec.ofInt IntKind.u64.bits x ||| BitVec.ofInt IntKind.u64.bits y).toNat:Nat):Int) % 18446744073709551616=x+y:=by
 rw[←wrapU];exact or32 x y h0 h1 hx h2 h3
theorem mul_bnd {a b:Int} (h0:0≤a) (h1:a<4294967296) (h2:0≤b) (h3:b<4294967296):0≤a*b∧a*b≤18446744065119617025:=by
 refine⟨Int.mul_nonneg h0 h2,?_⟩
 have:=Int.mul_le_mul (show a≤4294967295 by omega) (show b≤4294967295 by omega) h2 (by decide)
 omega
theorem mul_parts (x y:Int):x*y=(x / 4294967296*(y / 4294967296))*18446744073709551616+(x / 4294967296*(y % 4294967296)+x % 4294967296*(y / 4294967296))*4294967296+x % 4294967296*(y % 4294967296):=by
 conv=>lhs;rw[←Int.mul_ediv_add_emod x 4294967296,←Int.mul_ediv_add_emod y 4294967296]
 generalize x / 4294967296=a;generalize x % 4294967296=b;generalize y / 4294967296=c;generalize y % 4294967296=d
 have e1:(4294967296*a+b)*(4294967296*c+d)=4294967296*(4294967296*(a*c))+4294967296*(a*d)+(4294967296*(b*c)+b*d):=by
  rw[Int.add_mul,Int.mul_add,Int.mul_add]
  congr 1
  ·congr 1
   ·rw[Int.mul_assoc,Int.mul_left_comm a]
   ·rw[Int.mul_assoc]
  ·congr 1
   rw[Int.mul_left_comm]
 rw[e1]
 omega
def fit (n:Int):Int×Bool:=if -9223372036854775808≤n∧n<9223372036854775808 then(n,true) else(0,false)
def wide (n:Int):V:=.agg [.int .i64 (IntKind.i64.wrap (n / 18446744073709551616)),.int .u64 (n % 18446744073709551616)]
def smag (n:Int):V:=.agg [.bool (decide (n<0)),.int .u64 ((n.natAbs:Int) / 18446744073709551616),.int .u64 ((n.natAbs:Int) % 18446744073709551616)]
abbrev pairV (p:Int×Bool):V:=.tup [.int .i64 p.1,.bool p.2]
def in64 (n:Int):Prop:=-9223372036854775808≤n∧n<9223372036854775808
theorem abs_in {n:Int} (h:in64 n):0≤(n.natAbs:Int)∧(n.natAbs:Int)<18446744073709551616:=by unfold in64 at h;omega
theorem ok123 (a:Int) (ha:in64 a):PTriple Tryz.prog gv 204 [i64V a] (u64V a.natAbs):=by
 unfold in64 at ha
 refine PTriple.of_body (C:=cx) Tryz.func204 rfl (by kernel_rfl) mixed fun E hE=>?_
 repeat' (conv=>whnf);first
  | (refine bcase_of (fun hr=>?_) (fun hr=>?_)<;>(try simp only[sl0] at hr)<;>try(exfalso;first|omega|(simp at hr;done)))
  | (refine And.intro (by first|exact nbz rfl|decide) ?_)
  | (refine And.intro (by show indep _ _=true;kernel_rfl) ?_)
  | (refine Exists.intro _ (And.intro (by first|exact rfl) ?_))
  | fail
 all_goals (conv=>whnf)
 all_goals (refine congrArg (fun x:Int=>V.int .u64 x) ?_;simp only[wrapU];omega)
theorem ok83 (a:Int) (ha:in64 a):PTriple Tryz.prog gv 187 [i64V a] (u64V a.natAbs):=by
 unfold in64 at ha
 refine PTriple.of_body (C:=cx) Tryz.func187 rfl (by kernel_rfl) mixed fun E hE=>?_
 repeat' (conv=>whnf);first
  | (refine bcase_of (fun hr=>?_) (fun hr=>?_)<;>(try simp only[sl0] at hr)<;>try(exfalso;first|omega|(simp at hr;done)))
  | (refine And.intro (by first|exact nbz rfl|decide) ?_)
  | (refine And.intro (by show indep _ _=true;kernel_rfl) ?_)
  | (refine Exists.intro _ (And.intro (by first|exact rfl) ?_))
  | fail
 all_goals (conv=>whnf)
 all_goals (refine congrArg (fun x:Int=>V.int .u64 x) ?_;simp only[wrapU,wrapI];(repeat' split)<;>omega)
theorem ok122 (x y:Int) (hx:0≤x∧x<18446744073709551616) (hy:0≤y∧y<18446744073709551616):PTriple Tryz.prog gv 203 [u64V x,u64V y] (.tup [u64V (x*y / 18446744073709551616),u64V (x*y % 18446744073709551616)]):=by
 refine PTriple.of_body (C:=cx) Tryz.func203 rfl (by kernel_rfl) mixed fun E hE=>?_
 repeat' (conv=>whnf);first
  | (refine bcase_of (fun hr=>?_) (fun hr=>?_)<;>(try simp only[sl0] at hr)<;>try(exfalso;first|omega|(simp at hr;done)))
  | (refine And.intro (by first|exact nd0) ?_)
  | (refine And.intro (by show indep _ _=true;kernel_rfl) ?_)
  | (refine Exists.intro _ (And.intro (by first|exact rfl) ?_))
  | fail
 all_goals (conv=>whnf)
 all_goals (show V.tup [u64V _,u64V _]=_)
 have e1:=mul_parts x y
 have b1:=mul_bnd (a:=x / 4294967296) (b:=y / 4294967296) (by omega) (by omega) (by omega) (by omega)
 have b2:=mul_bnd (a:=x / 4294967296) (b:=y % 4294967296) (by omega) (by omega) (by omega) (by omega)
 have b3:=mul_bnd (a:=x % 4294967296) (b:=y / 4294967296) (by omega) (by omega) (by omega) (by omega)
 have b4:=mul_bnd (a:=x % 4294967296) (b:=y % 4294967296) (by omega) (by omega) (by omega) (by omega)
 simp only[wrapU,shr32,and32 x hx.1 hx.2,and32 y hy.1 hy.2]
 generalize x*y=p at *
 generalize x / 4294967296*(y / 4294967296)=q1 at *
 generalize x / 4294967296*(y % 4294967296)=q2 at *
 generalize x % 4294967296*(y / 4294967296)=q3 at *
 generalize x % 4294967296*(y % 4294967296)=q4 at *
 rw[and32' _ (by omega) (by omega)]
 refine congrArg (fun z:Int=>V.tup [u64V z,u64V (p % 18446744073709551616)]) ?_
 omega
theorem ok124 (x y c:Int) (hx:0≤x∧x<18446744073709551616) (hy:0≤y∧y<18446744073709551616) (hc0:0≤c) (hc:c≤1) :
  PTriple Tryz.prog gv 205 [u64V x,u64V y,u64V c] (.tup [u64V ((x-y-c) % 18446744073709551616),u64V (if x<y+c then 1 else 0)]):=
 ok_sub64 Tryz.func205 (by kernel_rfl) (by kernel_rfl) (by kernel_rfl) (by kernel_rfl) x y c hx hy hc0 hc
theorem ok125 (x y c:Int) (hx:0≤x) (hy:0≤y) (hc0:0≤c) (hc:c≤1) :
  PTriple Tryz.prog gv 206 [u64V x,u64V y,u64V c] (.tup [u64V ((x+y+c) % 18446744073709551616),u64V ((x+y+c) / 18446744073709551616)]):=
 ok_add64 Tryz.func206 (by kernel_rfl) (by kernel_rfl) (by kernel_rfl) (by kernel_rfl) x y c hx hy hc0 hc
theorem wrapUI (x:Int):IntKind.u64.wrap (IntKind.i64.wrap x)=x % 18446744073709551616:=by
 rw[wrapU,wrapI];split<;>omega
theorem wrap_congr {x y:Int} (h:x % 18446744073709551616=y % 18446744073709551616):IntKind.i64.wrap x=IntKind.i64.wrap y:=by
 rw[wrapI,wrapI,h]
theorem wide_eq {n x y:Int} (h1:x % 18446744073709551616=n / 18446744073709551616 % 18446744073709551616) (h2:y=n % 18446744073709551616):V.agg [.int .i64 (IntKind.i64.wrap x),.int .u64 y]=wide n:=by
 unfold wide
 rw[wrap_congr h1,h2]
theorem abs_mul_nn {a b:Int} (ha:a<0) (hb:b<0):a*b=(a.natAbs:Int)*b.natAbs:=by
 rw[show(a.natAbs:Int) = -a by omega,show(b.natAbs:Int) = -b by omega,Int.neg_mul_neg]
theorem abs_mul_pp {a b:Int} (ha:¬a<0) (hb:¬b<0):a*b=(a.natAbs:Int)*b.natAbs:=by
 rw[show(a.natAbs:Int)=a by omega,show(b.natAbs:Int)=b by omega]
theorem abs_mul_np {a b:Int} (ha:a<0) (hb:¬b<0):a*b = -((a.natAbs:Int)*b.natAbs):=by
 rw[show(a.natAbs:Int) = -a by omega,show(b.natAbs:Int)=b by omega,Int.neg_mul,Int.neg_neg]
theorem abs_mul_pn {a b:Int} (ha:¬a<0) (hb:b<0):a*b = -((a.natAbs:Int)*b.natAbs):=by
 rw[show(a.natAbs:Int)=a by omega,show(b.natAbs:Int) = -b by omega,Int.mul_neg,Int.neg_neg]
theorem abs_mul_bnd {a b:Int} (ha:in64 a) (hb:in64 b):0≤(a.natAbs:Int)*b.natAbs∧(a.natAbs:Int)*b.natAbs≤85070591730234615865843651857942052864:=by
 unfold in64 at ha hb
 refine⟨Int.mul_nonneg (by omega) (by omega),?_⟩
 have:=Int.mul_le_mul (show(a.natAbs:Int)≤9223372036854775808 by omega) (show(b.natAbs:Int)≤9223372036854775808 by omega) (by omega) (by decide)
 omega
theorem ok113 (n a b:Int) (ha:in64 a) (hb:in64 b):PTriple Tryz.prog gv 200 [wide n,i64V a,i64V b] (wide (n+a*b)):=by
 have ha0:=abs_in ha
 have hb0:=abs_in hb
 have hm:=abs_mul_bnd ha hb
 refine PTriple.of_body (C:=cx) Tryz.func200 rfl (by kernel_rfl) mixed fun E hE=>?_
 repeat' (conv=>whnf);first
  | (refine bcase_of (fun hr=>?_) (fun hr=>?_)<;>(try simp only[sl0] at hr)<;>try(exfalso;first|omega|(simp at hr;done)))
  | (refine And.intro (by first|exact nbz rfl|decide) ?_)
  | (refine And.intro (by show indep _ _=true;kernel_rfl) ?_)
  | (refine Exists.intro _ (And.intro (by first|exact rfl|exact ok123 _ ha|exact ok123 _ hb|exact ok122 _ _ ha0 hb0|exact ok124 0 _ 0 (by decide) (by first|decide|(rw[wrapUI];omega)|omega|(split<;>omega)) (by decide) (by decide)|exact ok124 0 _ _ (by decide) (by first|decide|(rw[wrapUI];omega)|omega|(split<;>omega)) (by first|decide|(rw[wrapUI];omega)|omega|(split<;>omega)) (by first|decide|(rw[wrapUI];omega)|omega|(split<;>omega))|exact ok125 _ _ _ (by first|decide|(rw[wrapUI];omega)|omega|(split<;>omega)) (by first|decide|(rw[wrapUI];omega)|omega|(split<;>omega)) (by first|decide|(rw[wrapUI];omega)|omega|(split<;>omega)) (by first|decide|(rw[wrapUI];omega)|omega|(split<;>omega))) ?_))
  | fail
 all_goals (conv=>whnf)
 all_goals first
  | have hp:=abs_mul_nn ‹a<0› ‹b<0›
  | have hp:=abs_mul_pp ‹¬a<0› ‹¬b<0›
  | have hp:=abs_mul_np ‹a<0› ‹¬b<0›
  | have hp:=abs_mul_pn ‹¬a<0› ‹b<0›
 all_goals (show V.agg [.int .i64 (IntKind.i64.wrap _),.int .u64 _]=_)
 all_goals refine wide_eq ?_ ?_
 all_goals rw[hp]
 all_goals try simp only[wrapUI]
 all_goals generalize (a.natAbs:Int)*b.natAbs=m at *
 all_goals ((repeat' split)<;>omega)
theorem pair_of {p:Int×Bool} {b:Bool} (h:p.2=b):V.tup [.int .i64 p.1,.bool b]=pairV p:=by subst h;rfl
theorem shr63 (x:Int):x.fdiv (2 ^ min (63:Int).toNat IntKind.i64.bits)=x / 9223372036854775808:=by
 have:(2:Int) ^ min (63:Int).toNat IntKind.i64.bits=9223372036854775808:=rfl
 rw[this,Int.fdiv_eq_ediv_of_nonneg _ (by decide)]
def in128 (n:Int):Prop:=-170141183460469231731687303715884105728≤n∧n<170141183460469231731687303715884105728
theorem ok100 (n:Int) (h:in128 n):PTriple Tryz.prog gv 190 [wide n] (pairV (fit n)):=by
 unfold in128 at h
 refine PTriple.of_body (C:=cx) Tryz.func190 rfl (by kernel_rfl) mixed fun E hE=>?_
 repeat' (conv=>whnf);first
  | (refine bcase_of (fun hr=>?_) (fun hr=>?_)<;>(try simp only[sl0] at hr)<;>try(exfalso;first|omega|(simp at hr;done)))
  | (refine And.intro (by first|exact nd0) ?_)
  | (refine And.intro (by show indep _ _=true;kernel_rfl) ?_)
  | (refine Exists.intro _ (And.intro (by first|exact rfl) ?_))
  | fail
 all_goals (conv=>whnf)
 all_goals (rw[shr63] at hr;simp only[wrapI] at hr)
 ·show pairV (0,false)=_
  refine congrArg pairV ?_
  unfold fit
  rw[if_neg]
  intro h1
  apply hr
  (repeat' split)<;>omega
 ·show pairV (IntKind.i64.wrap (n % 18446744073709551616),true)=_
  refine congrArg pairV ?_
  unfold fit
  have : -9223372036854775808≤n∧n<9223372036854775808:=by
   revert hr;(repeat' split)<;>intro hr<;>omega
  rw[if_pos this]
  refine congrArg (fun x=>(x,true)) ?_
  rw[wrapI];split<;>omega
end Go.Proofs.YtbppemcdphgknaaGreatDoor
namespace Go.Proofs.YtbppemcdphgknaaGreatDoor
open Go Go.Vm
theorem smag_of {k:Int} {b:Bool} {hi lo:Int} (h1:b=decide (k<0)) (h2:hi=(k.natAbs:Int) / 18446744073709551616) (h3:lo=(k.natAbs:Int) % 18446744073709551616):V.agg [.bool b,.int .u64 hi,.int .u64 lo]=smag k:=by
 subst h1;subst h2;subst h3;rfl
theorem smag_cells {n m:Int}:((decide (n<0)==decide (m<0))&&((((n.natAbs:Int) / 18446744073709551616)==((m.natAbs:Int) / 18446744073709551616))&&((((n.natAbs:Int) % 18446744073709551616)==((m.natAbs:Int) % 18446744073709551616))&&true)))=decide (n=m):=by
 rw[Bool.eq_iff_iff]
 simp only[Bool.and_eq_true,beq_iff_eq,decide_eq_decide,decide_eq_true_eq,and_true]
 omega
def small (b:Int) (n:Int):Prop:=(n.natAbs:Int)<b
theorem pair_is {p:Int×Bool} {n:Int} {b:Bool} (h1:n=p.1) (h2:b=p.2):V.tup [.int .i64 n,.bool b]=pairV p:=by
 subst h1;subst h2;rfl
abbrev smagB (s:Bool) (n:Int):V:=.agg [.bool s,.int .u64 ((n.natAbs:Int) / 18446744073709551616),.int .u64 ((n.natAbs:Int) % 18446744073709551616)]
theorem ok61 (a:Int) (ha:in64 a):PTriple Tryz.prog gv 174 [i64V a] (smag a):=by
 have ha2:=ha;unfold in64 at ha2
 refine PTriple.of_body (C:=cx) Tryz.func174 rfl (by kernel_rfl) mixed fun E hE=>?_
 repeat' (conv=>whnf);first
  | (refine bcase_of (fun hr=>?_) (fun hr=>?_)<;>(try simp only[sl0] at hr)<;>try(exfalso;first|omega|(simp at hr;done)))
  | (refine And.intro (by first|exact nbz rfl|decide) ?_)
  | (refine And.intro (by show indep _ _=true;kernel_rfl) ?_)
  | (refine Exists.intro _ (And.intro (by first|exact rfl|exact ok83 _ ha) ?_))
  | fail
 all_goals (conv=>whnf)
 all_goals refine smag_of ?_ ?_ ?_
 all_goals (try simp only[wrapU] at *)
 all_goals (first|omega|rfl|(exact(decide_eq_true (show _ by omega)).symm)|(exact(decide_eq_false (show _ by omega)).symm)|(exact decide_eq_decide.2 (show _ by omega))|skip)
theorem ok102 (n m:Int) (s t:Bool):PTriple Tryz.prog gv 199 [smagB s n,smagB t m] (.bool (decide ((n.natAbs:Int)<m.natAbs))):=by
 refine PTriple.of_body (C:=cx) Tryz.func199 rfl (by kernel_rfl) mixed fun E hE=>?_
 repeat' (conv=>whnf);first
  | (refine bcase_of (fun hr=>?_) (fun hr=>?_)<;>(try simp only[sl0] at hr)<;>try(exfalso;first|omega|(simp at hr;done)))
  | (refine And.intro (by first|exact nbz rfl|decide) ?_)
  | (refine And.intro (by show indep _ _=true;kernel_rfl) ?_)
  | (refine Exists.intro _ (And.intro (by first|exact rfl) ?_))
  | fail
 all_goals (conv=>whnf)
 all_goals (first|exact congrArg V.bool (decide_eq_true (show _ by omega)).symm|exact congrArg V.bool (decide_eq_false (show _ by omega)).symm)
theorem ok81 (n m:Int) (s t:Bool) (hs:decide (n<0)=s) (ht:decide (m<0)=t) (hn:(n.natAbs:Int)<170141183460469231731687303715884105728) (hm:(m.natAbs:Int)<170141183460469231731687303715884105728):PTriple Tryz.prog gv 184 [smagB s n,smagB t m] (smag (n+m)):=by
 subst hs
 subst ht
 refine PTriple.of_body (C:=cx) Tryz.func184 rfl (by kernel_rfl) mixed fun E hE=>?_
 repeat' (conv=>whnf);first
  | (refine bcase_of (fun hr=>?_) (fun hr=>?_)<;>(try simp only[sl0] at hr)<;>try(exfalso;first|omega|(simp at hr;done)))
  | (refine And.intro (by first|exact nbz rfl|decide) ?_)
  | (refine And.intro (by show indep _ _=true;kernel_rfl) ?_)
  | (refine Exists.intro _ (And.intro (by first|exact rfl|exact ok102 _ _ _ _) ?_))
  | fail
 all_goals (conv=>whnf)
 all_goals refine smag_of ?_ ?_ ?_
 all_goals (try simp only[wrapU] at *)
 all_goals (first|omega|rfl|(exact(decide_eq_true (show _ by omega)).symm)|(exact(decide_eq_false (show _ by omega)).symm)|(exact decide_eq_decide.2 (show _ by omega))|skip)
theorem ok103 (n:Int) (s:Bool) (hs:decide (n<0)=s):PTriple Tryz.prog gv 167 [smagB s n] (pairV (fit n)):=by
 subst hs
 refine PTriple.of_body (C:=cx) Tryz.func167 rfl (by kernel_rfl) mixed fun E hE=>?_
 repeat' (conv=>whnf);first
  | (refine bcase_of (fun hr=>?_) (fun hr=>?_)<;>(try simp only[sl0] at hr)<;>try(exfalso;first|omega|(simp at hr;done)))
  | (refine And.intro (by first|exact nbz rfl|decide) ?_)
  | (refine And.intro (by show indep _ _=true;kernel_rfl) ?_)
  | (refine Exists.intro _ (And.intro (by first|exact rfl) ?_))
  | fail
 all_goals (conv=>whnf)
 all_goals refine pair_is ?_ ?_
 all_goals unfold fit
 all_goals try simp only[wrapI]
 all_goals ((repeat' split)<;>first|rfl|omega)
theorem mulsB {x y:Int} (hx:0≤x∧x<18446744073709551616) (hy:0≤y∧y<18446744073709551616) :
  (0≤x / 4294967296*(y / 4294967296)∧x / 4294967296*(y / 4294967296)≤18446744065119617025)∧(0≤x / 4294967296*(y % 4294967296)∧x / 4294967296*(y % 4294967296)≤18446744065119617025)∧
  (0≤x % 4294967296*(y / 4294967296)∧x % 4294967296*(y / 4294967296)≤18446744065119617025)∧(0≤x % 4294967296*(y % 4294967296)∧x % 4294967296*(y % 4294967296)≤18446744065119617025):=
 ⟨mul_bnd (by omega) (by omega) (by omega) (by omega),mul_bnd (by omega) (by omega) (by omega) (by omega),mul_bnd (by omega) (by omega) (by omega) (by omega),mul_bnd (by omega) (by omega) (by omega) (by omega)⟩
theorem shl32' (x:Int):x*2 ^ min (32:Int).toNat IntKind.u64.bits=x*4294967296:=rfl
theorem ok82 (a b:Int) (ha:in64 a) (hb:in64 b):PTriple Tryz.prog gv 185 [i64V a,i64V b] (smag (a*b)):=by
 refine PTriple.of_body (C:=cx) Tryz.func185 rfl (by kernel_rfl) mixed fun E hE=>?_
 repeat' (conv=>whnf);first
  | (refine bcase_of (fun hr=>?_) (fun hr=>?_)<;>(try simp only[sl0] at hr)<;>try(exfalso;first|omega|(simp at hr;done)))
  | (refine And.intro (by first|exact nd0) ?_)
  | (refine And.intro (by show indep _ _=true;kernel_rfl) ?_)
  | (refine Exists.intro _ (And.intro (by first|exact rfl|exact ok83 _ ha|exact ok83 _ hb) ?_))
  | fail
 all_goals (conv=>whnf)
 all_goals have ea:=abs_in ha
 all_goals have eb:=abs_in hb
 all_goals have hab:=abs_mul_bnd ha hb
 all_goals first
  | have hp:=abs_mul_nn ‹a<0› ‹b<0›
  | have hp:=abs_mul_pp ‹¬a<0› ‹¬b<0›
  | have hp:=abs_mul_np ‹a<0› ‹¬b<0›
  | have hp:=abs_mul_pn ‹¬a<0› ‹b<0›
 all_goals have e1:=mul_parts (a.natAbs:Int) b.natAbs
 all_goals obtain⟨⟨b1,b1'⟩,⟨b2,b2'⟩,⟨b3,b3'⟩,⟨b4,b4'⟩⟩:=mulsB ea eb
 all_goals simp only[shr32,and32 _ ea.1 ea.2,and32 _ eb.1 eb.2] at *
 all_goals rw[hp]
 all_goals clear hp ha hb
 all_goals refine smag_of ?_ ?_ ?_
 all_goals generalize (a.natAbs:Int)*b.natAbs=pr at *
 all_goals generalize (a.natAbs:Int) / 4294967296*(b.natAbs / 4294967296)=q1 at *
 all_goals generalize (a.natAbs:Int) / 4294967296*(b.natAbs % 4294967296)=q2 at *
 all_goals generalize (a.natAbs:Int) % 4294967296*(b.natAbs / 4294967296)=q3 at *
 all_goals generalize (a.natAbs:Int) % 4294967296*(b.natAbs % 4294967296)=q4 at *
 all_goals clear ea eb
 all_goals simp only[wrapU,shl32'] at *
 all_goals have r1:q1 % 18446744073709551616=q1:=by omega
 all_goals have r2:q2 % 18446744073709551616=q2:=by omega
 all_goals have r3:q3 % 18446744073709551616=q3:=by omega
 all_goals have r4:q4 % 18446744073709551616=q4:=by omega
 all_goals (try simp only[r1,r2,r3,r4] at *)
 all_goals have n2:=and32' q2 b2 (by omega)
 all_goals have n3:=and32' q3 b3 (by omega)
 all_goals have n4:=and32' q4 b4 (by omega)
 all_goals (try simp only[n2,n3,n4] at *)
 all_goals have o:=or32' (((q4 / 4294967296+q2 % 4294967296) % 18446744073709551616+q3 % 4294967296) % 18446744073709551616*4294967296 % 18446744073709551616) (q4 % 4294967296) (by omega) (by omega) (by omega) (by omega) (by omega)
 all_goals (try simp only[o] at *)
 all_goals clear hE E
 all_goals (first|omega|(exact(decide_eq_true (show _ by omega)).symm)|(exact(decide_eq_false (show _ by omega)).symm)|skip)
end Go.Proofs.YtbppemcdphgknaaGreatDoor
