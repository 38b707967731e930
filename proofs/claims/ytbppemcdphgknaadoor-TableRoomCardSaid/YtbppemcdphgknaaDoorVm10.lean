/- A part of the proofs over the seat YtbppemcdphgknaaDoor. -/
import Derived.Test.YtbppemcdphgknaaDoorVm9a
set_option linter.unusedVariables false
set_option linter.unusedSimpArgs false
namespace Go.Vm
open Go
variable {P:Program} {T:TT} {A:Type} {R:Rep A} {E:Env} {st:St A} {ρ:Rho} {M:Mem} {S:Name→List Nat} {a:Act} {w:World} {ns:List Name} {flat:Nat→Bool} {G:Nat→V}
def evV (G:Nat→V) (st:St A):Operand→V
 | .tmp t=>match lget st.tmps t with
  | some v=>v
  | none=>.undef
 | .const v=>V.ofValue v
 | .global g=>G g
 | .func f=>.fn f
def GOk (G:Nat→V) (M:Mem):Prop:=∀g,VRel (fun _=>none) M (G g) (.pointer (some ⟨g,0,none⟩))
theorem ofValue_rel (ρ:Rho) (M:Mem) (v:Value):VRel ρ M (V.ofValue v) v:=by
 unfold V.ofValue
 split
 ·exact .int _ _
 ·exact .bool _
 ·exact .nilp
 ·exact .nils
 ·exact .undef _
theorem Rel.ev (h:Rel R E st ρ M S a w) (hG:GOk G E.M0) (x:Operand):VRel ρ M (evV G st x) (a.eval x):=by
 cases x with
 | tmp t=>
  simp only[evV,Act.eval]
  rw[lget_eq]
  cases ht:st.tmps[t]? with
  | none=>exact .undef _
  | some v=>
   obtain⟨v',h1,h2⟩:=h.tmps.get ht
   rw[Array.getD_eq_getD_getElem?,←Array.getElem?_toList,h1]
   exact h2
 | const v=>exact ofValue_rel _ _ _
 | global g=>exact(hG g).mono (fun _ _ e=>by cases e) h.M0
 | func f=>exact .fn f
theorem Rel.evs (h:Rel R E st ρ M S a w) (hG:GOk G E.M0) (l:List Operand):VsRel ρ M (l.map (evV G st)) (l.map a.eval):=by
 induction l with
 | nil=>exact .nil
 | cons x l ih=>exact .cons (h.ev hG x) ih
def St.app (st:St A) (dst:Option Tmp) (e:Eff A):St A:=(e.objs.foldl (fun s x=>s.setOb x.1 x.2) st).put dst e.dst
def OpRuns (P:Program) (a:Act) (o:Oper) (w:World) (post:Act→World→Prop):Prop:=
 ∃n w',(execOp a.eval o).run P w=.ok n w'∧((∃v',n=.value v'∧post (a.put o.dst v') w')∨(n=.skip∧post (a.put o.dst undef) w'))
theorem OpRuns.wp {o:Oper} {post next:Act→World→Prop} {Q:Exit→Act→World→Prop} (h:OpRuns P a o w post) (hn:∀a w,post a w→next a w):o.wp P a w next Q:=by
 obtain⟨n,w',hr,h⟩:=h
 unfold Oper.wp
 rw[hr]
 rcases h with⟨v',rfl,h⟩|⟨rfl,h⟩
 ·exact hn _ _ h
 ·exact hn _ _ h
noncomputable def vstep [Deep A] (T:TT) (flat:Nat→Bool) (G:Nat→V) (st:St A) (o:Oper):Rd A (Eff A):=
 match o.dst with
 | some s=>match lget st.objs s with
  | some p=>vop T flat (s+1,p.1+1) (evV G st) o
  | none=>.fail
 | none=>match o.op with
  | .store _ _ _=>vop T flat (0,0) (evV G st) o
  | .call c=>match c.callee with
   | .builtin .copy=>vop T flat (0,0) (evV G st) o
   | _=>.fail
  | _=>.fail
theorem sat_pure (h:Rel R E st ρ M S a w) {o:Oper} {v:V} {v':Value} (hv:VRel ρ M v v') (hr:(execOp a.eval o).run P w=.ok (.value v') w) :
  OpRuns P a o w (Sat R E (st.app o.dst {dst:=v})):=
 ⟨_,w,hr,.inl ⟨v',rfl,ρ,M,S,h.put o.dst hv⟩⟩
theorem exec_v {o:Oper} {s:Sem Value} {v':Value} {w':World} (he:execOp a.eval o=(do pure (.value (←s)))) (hs:s.run P w=.ok v' w'):(execOp a.eval o).run P w=.ok (.value v') w':=by
 rw[he]
 simp[hs]
end Go.Vm
