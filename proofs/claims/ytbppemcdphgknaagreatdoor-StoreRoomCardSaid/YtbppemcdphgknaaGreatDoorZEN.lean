/- A part of the proofs over the seat YtbppemcdphgknaaGreatDoor. -/
import Derived.Test.YtbppemcdphgknaaGreatDoorG4
import Derived.Test.YtbppemcdphgknaaGreatDoorVm21
import Derived.Test.YtbppemcdphgknaaGreatDoorRows
import Derived.Test.YtbppemcdphgknaaGreatDoorTie
import Derived.ProofKit
import Derived.LaidMore
import Derived.OpenShut
import Derived.Stop.Joined
import Derived.SevenTiedAt
set_option linter.unusedVariables false
set_option linter.unusedSimpArgs false
namespace Go.Proofs.YtbppemcdphgknaaGreatDoor
open Go Go.Vm
open Go.ChangeShapes Go.WideShapes Go.ChangeAt Go.WideMaps Go.WideElems Go.RowKit
set_option maxRecDepth 100000
set_option linter.unusedSimpArgs false
theorem own:ownKnob Tryz.prog.godebug=none:=by kernel_rfl
theorem laidOut:laidOutB Tryz.prog=true:=by kernel_rfl
abbrev laidRows:List (String×DataW Unit):=[("cuboid/tag.rows",Rows.laid_cuboid_tag_rows)]
theorem gRows:Tryz.prog.globalNamed "cuboid/tag.rows" = some 0:=by kernel_rfl
theorem tRows:(Tryz.prog.globals[0]?).map (·.type)=some 254:=by kernel_rfl
theorem el_row {W:World} {fuel:Nat} {l:List Value} {x:DataW Unit×List MemPlace} {n:Int} {p q:Bool} (h:DataW.trod (fun _=>()) Tryz.prog W 0 (fun _=>true) false fuel 229 l=some x)
  (hx:x.1=.agg [.lit (.int .i64 n),.lit (.bool p),.lit (.bool q)]):l=[.int .i64 n,.bool p,.bool q]:=by
 obtain⟨xs,m,rfl,rfl,hlen,hn,hf⟩:=DataW.trod_struct Tryz.underlying229 h
 have c229:Tryz.prog.cellsOf 229=3:=by kernel_rfl
 have c3:Tryz.prog.cellsOf 3=1:=by kernel_rfl
 have c4:Tryz.prog.cellsOf 4=1:=by kernel_rfl
 rw[c229] at hlen
 match l,hlen with
 | [a,b,c],_=>
  have hn3:xs.length=3:=hn
  match xs,hn3 with
  | [y0,y1,y2],_=>
   have f0:=hf 0 _ rfl
   have f1:=hf 1 _ rfl
   have f2:=hf 2 _ rfl
   simp only[c3,c4,List.drop_zero,List.take_succ_cons,List.take_zero,List.drop_succ_cons,List.getElem?_cons_zero,List.getElem?_cons_succ] at f0 f1 f2
   obtain⟨k,e1,e2,_⟩:=DataW.trod_int Tryz.underlying3 f0
   obtain⟨k1,e3,e4⟩:=DataW.trod_bool Tryz.underlying4 f1
   obtain⟨k2,e5,e6⟩:=DataW.trod_bool Tryz.underlying4 f2
   subst e2;subst e4;subst e6
   simp only[List.map_cons,List.map_nil,DataW.agg.injEq,List.cons.injEq,DataW.lit.injEq,Lit.int.injEq,Lit.bool.injEq,true_and,and_true] at hx
   obtain⟨rfl,rfl,rfl⟩:=hx
   cases e1;cases e3;cases e5;rfl
theorem four_rows {l:List Value} (h0:(l.drop (0*3)).take 3=[.int .i64 0,.bool false,.bool false]) (h1:(l.drop (1*3)).take 3=[.int .i64 1,.bool false,.bool true])
  (h2:(l.drop (2*3)).take 3=[.int .i64 2,.bool true,.bool true]) (h3:(l.drop (3*3)).take 3=[.int .i64 3,.bool true,.bool false]) (hl:l.length=12) :
  l=[.int .i64 0,.bool false,.bool false,.int .i64 1,.bool false,.bool true,.int .i64 2,.bool true,.bool true,.int .i64 3,.bool true,.bool false]:=by
 match l,hl with
 | [a0,a1,a2,a3,a4,a5,a6,a7,a8,a9,a10,a11],_=>simp at h0 h1 h2 h3;simp[h0,h1,h2,h3]
theorem globOk {W:World} (h:laidMetH Tryz.prog laidRows W):GOk gv (memOf W):=by
 rw[MakeChecks.laidMetH_plain _ _ _ (by kernel_rfl)] at h
 obtain⟨ps,⟨g0,t0,cs0,f0,p0,q0,hg0,ht0,hv0,hd0,_,_⟩,_,_⟩:=h
 obtain rfl:=Option.some.inj (gRows.symm.trans hg0)
 obtain rfl:=Option.some.inj (tRows.symm.trans ht0)
 obtain⟨xs,m1,rfl,hx1,hlen,hn,hel⟩:=DataW.trod_array Tryz.underlying254 hd0
 have c229:Tryz.prog.cellsOf 229=3:=by kernel_rfl
 have cA:Tryz.prog.cellsOf 254=12:=by kernel_rfl
 rw[cA] at hlen
 rw[c229] at hel
 match xs,hn with
 | [x0,x1,x2,x3],_=>
  simp only[Rows.laid_cuboid_tag_rows,Prod.mk.injEq,DataW.agg.injEq,List.map_cons,List.map_nil,List.cons.injEq,and_true] at hx1
  obtain⟨⟨e0,e1,e2,e3⟩,_⟩:=hx1
  have hcs:=four_rows (el_row (hel 0 (by decide)) e0.symm) (el_row (hel 1 (by decide)) e1.symm) (el_row (hel 2 (by decide)) e2.symm) (el_row (hel 3 (by decide)) e3.symm) hlen
  have hcell:∀i,memOf W 0 i=cs0.toList[i]?:=fun i=>by rw[Array.getElem?_toList];exact World.var?_cell hg0 hv0 i
  rw[hcs] at hcell
  intro g
  cases g with
  | succ g=>exact .undef _
  | zero=>
   refine VRel.lpt (o:=0) (b:=0) (fun _ k=>([.int .i64 0,.bool false,.bool false,.int .i64 1,.bool false,.bool true,.int .i64 2,.bool true,.bool true,.int .i64 3,.bool true,.bool false]:List Value).getD k undef) ?_ ?_ ?_
   ·intro e he;simp at he;subst he;rfl
   ·intro i k e v he hv
    match i,he with
    | 0,he=>
     simp only[List.getElem?_cons_zero,Option.some.injEq] at he
     subst he
     match k,hv with
     | 0,hv=>simp at hv;subst hv;exact .int _ _
     | 1,hv=>simp at hv;subst hv;exact .bool _
     | 2,hv=>simp at hv;subst hv;exact .bool _
     | 3,hv=>simp at hv;subst hv;exact .int _ _
     | 4,hv=>simp at hv;subst hv;exact .bool _
     | 5,hv=>simp at hv;subst hv;exact .bool _
     | 6,hv=>simp at hv;subst hv;exact .int _ _
     | 7,hv=>simp at hv;subst hv;exact .bool _
     | 8,hv=>simp at hv;subst hv;exact .bool _
     | 9,hv=>simp at hv;subst hv;exact .int _ _
     | 10,hv=>simp at hv;subst hv;exact .bool _
     | 11,hv=>simp at hv;subst hv;exact .bool _
     | k+12,hv=>simp at hv
    | i+1,he=>simp at he
   ·intro i k hi hk
    have hi0:i=0:=by simpa using hi
    subst hi0
    simp only[Nat.zero_add,Nat.zero_mul]
    rw[hcell,List.getD_eq_getElem?_getD]
    rw[List.getElem?_eq_getElem (by simpa using hk)]
    rfl
theorem door_met (os:Os) (args:Array Value):laidMetH Tryz.prog laidRows ((World.doorLaid Tryz.prog 400 os).forCall (fun _ _=>0) ⟨#[],args,[]⟩).memory:=
 laidMetH_of_parts3 (fuel:=8) (laidMet_of_run' 8 (by kernel_rfl) (by kernel_rfl)) (by kernel_rfl) (by kernel_rfl)
theorem wf64 {n:Int} (h:(Lit.int .i64 n).wf=true):in64 n:=by
 simp only[Lit.wf,Bool.and_eq_true,decide_eq_true_eq] at h
 have e1:IntKind.i64.min = -9223372036854775808:=by decide
 have e2:IntKind.i64.max=9223372036854775807:=by decide
 unfold in64;omega
theorem wf8 {n:Int} (h:(Lit.int .u8 n).wf=true):0≤n∧n<256:=by
 simp only[Lit.wf,Bool.and_eq_true,decide_eq_true_eq] at h
 have e1:IntKind.u8.min=0:=by decide
 have e2:IntKind.u8.max=255:=by decide
 omega
end Go.Proofs.YtbppemcdphgknaaGreatDoor
