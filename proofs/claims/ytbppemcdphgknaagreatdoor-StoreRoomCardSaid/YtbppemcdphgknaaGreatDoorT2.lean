/- A part of the proofs over the seat YtbppemcdphgknaaGreatDoor. -/
import Derived.Test.YtbppemcdphgknaaGreatDoorT1
set_option linter.unusedVariables false
set_option linter.unusedSimpArgs false
set_option maxRecDepth 100000
set_option maxHeartbeats 40000000
namespace Go.Proofs.YtbppemcdphgknaaGreatDoor
open Go Go.Vm
set_option maxRecDepth 100000
set_option maxHeartbeats 40000000
set_option linter.unusedSimpArgs false
set_option linter.unusedVariables false
variable {M K C:Int} {Tb:Tab}
def TIn (Tb:Tab):Prop:=Sr Tb∧Tb.length≤2000∧∀e∈Tb,KIn e.1∧ChIn e.2∧e.2≠[]∧e.2.length≤9
theorem TB.tin {m keep cap:Int} {i:Nat} {x:DV} (h:TB m keep cap Tb i x):TIn Tb:=⟨h.srt,h.size,fun e he=>⟨h.kin e he,(h.mem e he).1,(h.mem e he).2,h.len e he⟩⟩
end Go.Proofs.YtbppemcdphgknaaGreatDoor
namespace Go.Proofs.YtbppemcdphgknaaGreatDoor
open Go Go.Vm
variable {M K C:Int} {Tb:Tab}
def encPr (e:Int×En):List V:=co e.1++[i64V e.2.n,i64V e.2.a,i64V e.2.b,bagV e.2.p,bagV e.2.q]
abbrev Prs:=List (Int×En)
abbrev prsV (o:Prs):V:=.lst 9 (o.map encPr)
theorem pure_Pr (o:Prs):PureEs (o.map encPr):=fun e he v hv=>by
 obtain⟨x,_,rfl⟩:=List.mem_map.1 he
 simp[encPr,co] at hv
 rcases hv with rfl|rfl|rfl|rfl|rfl|rfl|rfl|rfl|rfl
 all_goals first|exact .int _ _|exact .lst (pure_R _)
theorem lenPr (o:Prs):(o.map encPr).length=o.length:=by simp
theorem takePr (o:Prs):((o.map encPr).drop 0).take o.length=o.map encPr:=by rw[List.drop_zero,List.take_of_length_le (by simp)]
theorem addPr (o:Prs) (e:Int×En):((o.map encPr).drop 0).take o.length++([encPr e].drop 0).take 1=(o++[e]).map encPr:=by rw[takePr];simp
theorem raPr (o:Prs) (h:o.length≤100000):0+o.length≤(o.map encPr).length∧(false=true→0+o.length=(o.map encPr).length)∧(o.length+1)*80≤roomBound∧o.length+1≤roomBound:=⟨by simp,(by intro h;cases h),by unfold roomBound;omega,by unfold roomBound;omega⟩
def scanT (m:Int) (Tb:Tab) (ver:Int):Prs:=Tb.filterMap fun e=>(atS m e.2 ver).map fun c=>(e.1,c)
theorem scanT_take {m ver:Int} {i:Nat} {e:Int×List En} (h:Tb[i]?=some e):scanT m (Tb.take (i+1)) ver=scanT m (Tb.take i) ver++(match atS m e.2 ver with
 | none=>[]
 | some c=>[(e.1,c)]):=by
 rw[take_get h]
 unfold scanT
 rw[List.filterMap_append]
 congr 1
 cases h:atS m e.2 ver<;>simp[List.filterMap,h]
theorem scanT_len (m:Int) (Tb:Tab) (ver:Int):(scanT m Tb ver).length≤Tb.length:=List.length_filterMap_le _ _
end Go.Proofs.YtbppemcdphgknaaGreatDoor
namespace Go.Proofs.YtbppemcdphgknaaGreatDoor
open Go Go.Vm
variable {M K C:Int} {Tb:Tab}
def layT (Tb:Tab) (k:Int) (l:List En):Tab:=if l.isEmpty then del Tb k else ins Tb k l
end Go.Proofs.YtbppemcdphgknaaGreatDoor
