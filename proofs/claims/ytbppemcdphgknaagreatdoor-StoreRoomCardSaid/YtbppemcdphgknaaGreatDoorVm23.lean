/- A part of the proofs over the seat YtbppemcdphgknaaGreatDoor. -/
import Derived.Test.YtbppemcdphgknaaGreatDoorVm22
set_option linter.unusedVariables false
set_option linter.unusedSimpArgs false
namespace Go.Vm
open Go
theorem ETriple.of_extern {P:Program} {f:FuncId} {fn:Func} {e:Array Value→Sem Value} (hf:P.funcs[f]?=some fn) (hname:(fn.name == "runtime.NumGoroutine")=false)
  (hb:fn.body.isNone=true) (hn:Extern.findNext fn=none) (he:Extern.find fn=some e) {args:List V} {r:V}
  (h:∀(w:World) (M:Mem) (args':List Value),VsRel (fun _=>none) M args args'→∃v,(e args'.toArray).run P w=.ok v w∧VRel (fun _=>none) M r v) {G:Nat→V}:PTriple P G f args r:=
 .inr fun w M args' _ hv=>by
  obtain⟨v,h1,h2⟩:=h w M args' hv
  refine⟨v,?_,h2⟩
  rw[run_callFunc_extern hf hname hb hn he,h1]
  rfl
theorem three_ints {M:Mem} {x y c:Int} {k:IntKind} {args':List Value} (h:VsRel (fun _=>none) M [.int k x,.int k y,.int k c] args'):args'=[.int k x,.int k y,.int k c]:=by
 obtain⟨v1,r1,rfl,a1,h⟩:=h.uncons
 obtain⟨v2,r2,rfl,a2,h⟩:=h.uncons
 obtain⟨v3,r3,rfl,a3,h⟩:=h.uncons
 obtain rfl:=h.nil_inv
 cases a1;cases a2;cases a3;rfl
theorem ok_add64 {P:Program} {f:FuncId} {fn:Func} (hf:P.funcs[f]?=some fn) (hname:(fn.name == "runtime.NumGoroutine")=false)
  (hb:fn.body.isNone=true) (hn:Extern.findNext fn=none) (he:Extern.find fn=some add64Entry) {G:Nat→V} (x y c:Int) (hx:0≤x) (hy:0≤y) (hc0:0≤c) (hc:c≤1) :
  PTriple P G f [.int .u64 x,.int .u64 y,.int .u64 c] (.tup [.int .u64 ((x+y+c) % 18446744073709551616),.int .u64 ((x+y+c) / 18446744073709551616)]):=
 ETriple.of_extern hf hname hb hn he fun w M args' hv=>by
  obtain rfl:=three_ints hv
  have hr:VsRel (fun _=>none) M [V.int .u64 ((x+y+c) % 18446744073709551616),.int .u64 ((x+y+c) / 18446744073709551616)] [.int .u64 ((x+y+c) % 18446744073709551616),.int .u64 ((x+y+c) / 18446744073709551616)]:=.cons (.int _ _) (.cons (.int _ _) .nil)
  exact⟨_,run_add64 x y c hx hy hc0 hc w,.tup hr.1 hr.2⟩
theorem run_subEntry {P:Program} (x y b:Nat) (hb:b≤1) (w:World) :
  ((Extern.MathBitsCarry.rows[1]).2 #[.int .u64 x,.int .u64 y,.int .u64 b]).run P w =
   .ok (.tuple #[.int .u64 (((x+18446744073709551616-y-b) % 18446744073709551616:Nat):Int),.int .u64 ((if x<y+b then 1 else 0:Nat):Int)]) w:=by
 have:b=0∨b=1:=by omega
 rcases this with rfl|rfl<;>rfl
theorem ok_sub64 {P:Program} {f:FuncId} {fn:Func} (hf:P.funcs[f]?=some fn) (hname:(fn.name == "runtime.NumGoroutine")=false)
  (hb:fn.body.isNone=true) (hn:Extern.findNext fn=none) (he:Extern.find fn=some (Extern.MathBitsCarry.rows[1]).2) {G:Nat→V} (x y c:Int) (hx:0≤x∧x<18446744073709551616) (hy:0≤y∧y<18446744073709551616)
  (hc0:0≤c) (hc:c≤1) :
  PTriple P G f [.int .u64 x,.int .u64 y,.int .u64 c] (.tup [.int .u64 ((x-y-c) % 18446744073709551616),.int .u64 (if x<y+c then 1 else 0)]):=
 ETriple.of_extern hf hname hb hn he fun w M args' hv=>by
  obtain rfl:=three_ints hv
  obtain⟨hx,hx'⟩:=hx
  obtain⟨hy,hy'⟩:=hy
  obtain⟨X,rfl⟩:=Int.eq_ofNat_of_zero_le hx
  obtain⟨Y,rfl⟩:=Int.eq_ofNat_of_zero_le hy
  obtain⟨C,rfl⟩:=Int.eq_ofNat_of_zero_le hc0
  have h1:=run_subEntry (P:=P) X Y C (by omega) w
  have e1:(((X+18446744073709551616-Y-C) % 18446744073709551616:Nat):Int)=((X:Int)-Y-C) % 18446744073709551616:=by omega
  have e2:((if X<Y+C then 1 else 0:Nat):Int)=if(X:Int)<Y+C then 1 else 0:=by
   split<;>split<;>first|rfl|omega
  rw[e1,e2] at h1
  have hr:VsRel (fun _=>none) M [V.int .u64 (((X:Int)-Y-C) % 18446744073709551616),.int .u64 (if(X:Int)<Y+C then 1 else 0)] [.int .u64 (((X:Int)-Y-C) % 18446744073709551616),.int .u64 (if(X:Int)<Y+C then 1 else 0)]:=.cons (.int _ _) (.cons (.int _ _) .nil)
  exact⟨_,h1,.tup hr.1 hr.2⟩
end Go.Vm
