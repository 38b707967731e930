/- A part of the proofs over the seat YtbppemcdphgknaaGreatDoor. -/
import Derived.Test.YtbppemcdphgknaaGreatDoorVm12
set_option linter.unusedVariables false
set_option linter.unusedSimpArgs false
namespace Go.Vm
open Go
def MemOk (M:Mem) (w:World):Prop:=∀b o v,M b o=some v→w.cell? ⟨b,o,none⟩=some v
structure Grown (M:Mem) (w:World) (M':Mem) (w':World):Prop where
 size:w.heap.size≤w'.heap.size
 heap:∀b,b<w.heap.size→w'.heap[b]?=w.heap[b]?
 os:w'.os=w.os
 tape:w'.tape=w.tape
 output:w'.output=w.output
 le:M.le M'
 new:∀b o v,M' b o=some v→M b o=some v∨w.heap.size≤b
 mem:MemOk M' w'
def FnOk (P:Program) (f:FuncId):Prop:=∃fn,P.funcs[f]?=some fn∧(fn.name == "runtime.NumGoroutine")=false∧fn.body.isNone=false
def BTriple (P:Program) (G:Nat→V) (f:FuncId) (args:List V) (r:V):Prop:=
 FnOk P f∧∀(w:World) (M:Mem) (args':List Value),GOk G M→MemOk M w→VsRel (fun _=>none) M args args'→
  Calls P f args'.toArray w fun e w'=>∃r' M',e=.returned r'∧Grown M w M' w'∧VRel (fun _=>none) M' r r'
def ETriple (P:Program) (f:FuncId) (args:List V) (r:V):Prop:=
 ∀(w:World) (M:Mem) (args':List Value),MemOk M w→VsRel (fun _=>none) M args args'→
  ∃v,(callFunc f args'.toArray).run P w=.ok (.value v) w∧VRel (fun _=>none) M r v
def PTriple (P:Program) (G:Nat→V) (f:FuncId) (args:List V) (r:V):Prop:=BTriple P G f args r∨ETriple P f args r
variable {P:Program} {T:TT} {A:Type} {R:Rep A} {E:Env} {st:St A} {ρ:Rho} {M:Mem} {S:Name→List Nat} {a:Act} {w:World} {ns:List Name} {flat:Nat→Bool} {G:Nat→V}
theorem Rel.grown {M':Mem} {w':World} (h:Rel R E st ρ M S a w) (hg:Grown M w M' w'):Rel R E st ρ M' S a w' where
 defers:=h.defers
 tmps:=h.tmps.mono (Rho.le_refl _) hg.le
 mem:=hg.mem
 objs:=fun n ob hn=>(h.objs n ob hn).of_heap rfl (Rho.le_refl _) hg.le (fun b hb o=>by
  have hlt:=h.blt n ob hn b hb
  cases hm:M b o with
  | some v=>exact hg.le _ _ _ hm
  | none=>
   cases hm':M' b o with
   | none=>rfl
   | some v=>
    rcases hg.new b o v hm' with h1|h1
    ·rw[hm] at h1;cases h1
    ·omega) (fun b hb=>hg.heap b (h.blt n ob hn b hb))
 disj:=h.disj
 blt:=fun n ob hn b hb=>Nat.lt_of_lt_of_le (h.blt n ob hn b hb) hg.size
 own:=h.own
 fresh:=h.fresh
 hsize:=Nat.le_trans h.hsize hg.size
 keep:=fun b hb hb'=>(hg.heap b (Nat.lt_of_lt_of_le hb h.hsize)).trans (h.keep b hb hb')
 os:=hg.os.trans h.os
 tape:=hg.tape.trans h.tape
 output:=hg.output.trans h.output
 M0:=Mem.le_trans h.M0 hg.le
 Mnew:=fun b o v hv=>by
  rcases hg.new b o v hv with h1|h1
  ·exact h.Mnew b o v h1
  ·exact .inr (.inl (Nat.le_trans h.hsize h1))
 ρ0:=h.ρ0
end Go.Vm
