/- A part of the proofs over the seat YtbppemcdphgknaaGreatDoor. -/
import Derived.Test.YtbppemcdphgknaaGreatDoorVm20
import Derived.ProofKit
import Derived.LaidMore
import Derived.Handed
import Derived.Carry
import Derived.SevenTiedAt
set_option linter.unusedVariables false
set_option linter.unusedSimpArgs false
namespace Go.Vm
open Go Go.Deep
open Go.ChangeShapes Go.WideShapes Go.ChangeAt Go.WideMaps Go.WideElems Go.RowKit
set_option linter.unusedSimpArgs false
theorem Below.of_grown {M M':Mem} {W W':World} (h:Vm.Grown M W M' W'):Below W.heap.size W W':=
 ⟨h.os,h.tape,h.output,h.size,h.heap⟩
section
variable {H:Type} {enc:TypeId×Value→H} {P:Program}
theorem trodAll_stays (hl:laidOutB P=true) {W W':World} (hb:Below W.heap.size W W'):∀{ts:List TypeId} (_:∀t∈ts,P.readableRec t=true∧t<P.types.size) {vs:List Value} {ds:List (DataW H)} {p:List MemPlace}
  (_:DataW.TrodAll enc P W 0 (fun _=>true) true ts vs ds p) (_:∀x∈p,x.block<W.heap.size),DataW.TrodAll enc P W' 0 (fun b=>decide (b<W.heap.size)) true ts vs ds p
 | [],_,[],[],_,h,_=>h
 | t::ts,hr,v::vs,d::ds,p,h,hlt=>by
  obtain⟨p1,p2,h1,h2,rfl⟩:=h
  have ht:=hr t List.mem_cons_self
  exact⟨p1,p2,Below.trod hl ht.1 ht.2 h1 hb (fun x hx=>hlt x (List.mem_append_left _ hx)),
   trodAll_stays hl hb (fun t ht=>hr t (List.mem_cons_of_mem _ ht)) h2 (fun x hx=>hlt x (List.mem_append_right _ hx)),rfl⟩
 | [],_,_::_,_,_,h,_=>by cases h
 | [],_,[],_::_,_,h,_=>by cases h
 | _::_,_,[],_,_,h,_=>by cases h
 | _::_,_,_::_,[],_,h,_=>by cases h
theorem trodAll_length {W:World} {b:Nat} {sp:Nat→Bool} {hd:Bool}:∀{ts:List TypeId} {vs:List Value} {ds:List (DataW H)} {p:List MemPlace},DataW.TrodAll enc P W b sp hd ts vs ds p→ds.length=ts.length
 | [],[],[],_,_=>rfl
 | _::_,_::_,_::_,_,h=>by
  obtain⟨_,_,_,h2,_⟩:=h
  simp[trodAll_length h2]
 | [],_::_,_,_,h=>by cases h
 | [],[],_::_,_,h=>by cases h
 | _::_,[],_,_,h=>by cases h
 | _::_,_::_,[],_,h=>by cases h
end
theorem law_contract {H:Type} {enc:TypeId×Value→H} {C:Checked} {f:FuncId} {fn:Func} {s:ChangeSpec} {gv:Nat→V} {ss:List Sh} {tb:TypeId}
  (hfn:C.prog.funcs[f]?=some fn) (hname:(fn.name == "runtime.NumGoroutine")=false) (hbody:fn.body.isNone=false) (hl:laidOutB C.prog=true)
  (hIs:AllIs C.prog fn.params.toList ss) (hr:(fn.params.toList.all fun t=>C.prog.readableRec t&&decide (t<C.prog.types.size))=true)
  (hb:C.prog.underlying tb=some .bool) (hres:fn.resultTypes=#[tb]) (hvars:s.vars=[])
  (hfnspec:∀ds:List (DataW H),ds.length=fn.params.toList.length→s.fn H ds={results:=[.lit (.bool true)],args:=ds})
  (law:∀y:ShsT ss,ShsWf ss y→PTriple C.prog gv f (argVs ss y) (.bool true))
  (W:World) (base:Nat) (args:Array Value) (ds gs:List (DataW H)) (before:List MemPlace)
  (hval0:∀(j:Nat) t v,fn.params[j]?=some t→args[j]?=some v→Value.okWide C.prog W .any base t v)
  (hW:DataW.Whole enc C.prog fn.params.toList s.vars false W args.toList ds gs before) (hG:GOk gv (memOf W)) :
  Calls C.prog f args W fun e W'=>∃v,e=.returned v∧s.post enc C.prog fn false true false false W args v W':=by
 have hW':=hW
 obtain⟨p,q,hA,hV,rfl,hfz,hnd⟩:=hW
 rw[hvars] at hV
 obtain⟨rfl,rfl⟩:=trodVars_none hV
 obtain⟨y,hw,hargs⟩:=AllIs.args hIs (fun j t v ht hv=>hval0 j t v (by rw[Array.getElem?_toList] at ht;exact ht) (by rw[Array.getElem?_toList] at hv;exact hv)) hA
 have hcall:=(law y hw).calls ⟨fn,hfn,hname,hbody⟩ hG (memOk W) hargs
 rw[Array.toArray_toList] at hcall
 refine hcall.mono fun e W' he=>?_
 obtain⟨r',M',rfl,hg,hrr⟩:=he
 cases hrr
 have hbl:=Below.of_grown hg
 have hlt:∀x∈p,x.block<W.heap.size:=fun x hx=>hW'.lt x (by simpa using hx)
 have hspec:=hfnspec (ds++[]) (by rw[List.append_nil];exact trodAll_length hA)
 rw[List.append_nil] at hspec
 refine⟨_,rfl,ds,[],p++[],[],p,[],hW',?_,?_,?_,hbl.frame _,fun h=>by cases h⟩
 ·rw[List.append_nil,hspec,hres]
  exact trodAll_mk1 (shut_bool hb _)
 ·rw[List.append_nil,hspec]
  exact trodAll_stays hl hbl (fun t ht=>by
   have:=List.all_eq_true.1 hr t ht
   simpa using this) hA hlt
 ·rw[List.append_nil,hspec,hvars]
  rfl
theorem law_returns {H:Type} {enc:TypeId×Value→H} {C:Checked} {os:Os} {f:FuncId} {fn:Func} {s:ChangeSpec} {laid:List (String×DataW Unit)} {gv:Nat→V} {ss:List Sh} {tb:TypeId}
  (own:ownKnob C.prog.godebug=none) (started:os.Started) (noInit:C.prog.inits.idxOf? f=none) (hfn:C.prog.funcs[f]?=some fn) (hname:(fn.name == "runtime.NumGoroutine")=false) (hbody:fn.body.isNone=false) (hl:laidOutB C.prog=true)
  (witness:∃(w:World) (tape:Tape) (i:Input),w.os=os∧(w.forCall tape i).Shaped C.prog∧i.vars=[]∧Input.okWide C.prog (w.forCall tape i) .any w.heap.size f i∧
   ((s.pre enc C.prog fn [] false (w.forCall tape i).memory i.args∧laidMetH C.prog laid (w.forCall tape i).memory)∧sizedMet enc C.prog fn (OpenSpec.ofChange s) false (w.forCall tape i).memory i.args)∧({}:Assume).holds C.prog (lone (Frame.enter C.prog f i.args .normal) [] (w.forCall tape i)))
  (hIs:AllIs C.prog fn.params.toList ss) (hr:(fn.params.toList.all fun t=>C.prog.readableRec t&&decide (t<C.prog.types.size))=true)
  (hb:C.prog.underlying tb=some .bool) (hres:fn.resultTypes=#[tb]) (hvars:s.vars=[])
  (hfnspec:∀ds:List (DataW H),ds.length=fn.params.toList.length→s.fn H ds={results:=[.lit (.bool true)],args:=ds})
  (hG:∀W,laidMetH C.prog laid W→GOk gv (memOf W))
  (law:∀y:ShsT ss,ShsWf ss y→PTriple C.prog gv f (argVs ss y) (.bool true)) :
  ReturnsInHanded {} C os f .any (fun w args=>(s.pre enc C.prog fn [] false w args∧laidMetH C.prog laid w)∧sizedMet enc C.prog fn (OpenSpec.ofChange s) false w args)
   (s.post enc C.prog fn false true false false):=by
 refine returnsInHanded_of_change_and (C:=C) (X:=fun w _=>laidMetH C.prog laid w) (fun _ _ _ hh h=>h.of_heap hh) own started noInit hfn witness ?_
 intro W base args ds gs before hval0 hW _ _ hL _
 exact law_contract hfn hname hbody hl hIs hr hb hres hvars hfnspec law W base args ds gs before hval0 hW (hG W hL)
end Go.Vm
