/- A part of the proofs over the seat YtbppemcdphgknaaGreatDoor. -/
import Derived.Test.YtbppemcdphgknaaGreatDoorVm5
set_option linter.unusedVariables false
set_option linter.unusedSimpArgs false
namespace Go.Vm
open Go
variable {P:Program} {T:TT} {A:Type} {ρ:Rho} {M:Mem} {w:World} {f:Name→Option (Ob A)} {ns:List Name}
def FlatOk (P:Program) (T:TT) (t:TypeId):Prop:=
 P.eqGuardType P.depth t=false∧∀(ρ:Rho) (M:Mem) (xs ys:List V) (xs' ys':List Value) (r:Bool),VsRel ρ M xs xs'→VsRel ρ M ys ys'→fitsZ xs (T.at t).zero=true→veqs xs ys=some r→
  ∀w:World,(Op.equal t (.agg xs'.toArray) (.agg ys'.toArray)).run P w=.ok r w
def FOk (P:Program) (T:TT) (flat:Nat→Bool):Prop:=∀t,flat t=true→FlatOk P T t
def binRun (op:BinOp) (t:TypeId) (x y:Operand) (a b:Value):Sem Value:=do eqGuard op t x y a b;binOp op t a b
theorem vintBin_sound {op:BinOp} {k:IntKind} {a b:Int} {v:V} (hr:Rd.Runs f (vintBin op k a b) v ns) (t:TypeId) (x y:Operand) (hs:op≠.shl∧op≠.shr) :
  ∃v',(binRun op t x y (.int k a) (.int k b)).run P w=.ok v' w∧VRel ρ M v v':=by
 cases op<;>(try exact absurd rfl hs.1)<;>(try exact absurd rfl hs.2)<;>simp only[vintBin] at hr
 case quo=>obtain⟨h0,hr⟩:=Runs.need hr;replace hr:=Runs.ret hr;subst hr;exact⟨_,by simp[binRun,eqGuard,binOp,Op.intDiv,h0],.int _ _⟩
 case rem=>obtain⟨h0,hr⟩:=Runs.need hr;replace hr:=Runs.ret hr;subst hr;exact⟨_,by simp[binRun,eqGuard,binOp,Op.intDiv,h0],.int _ _⟩
 case andNot=>cases hr
 case add=>replace hr:=Runs.ret hr;subst hr;exact⟨_,by simp[binRun,eqGuard,binOp,Op.intArith],.int _ _⟩
 case sub=>replace hr:=Runs.ret hr;subst hr;exact⟨_,by simp[binRun,eqGuard,binOp,Op.intArith],.int _ _⟩
 case mul=>replace hr:=Runs.ret hr;subst hr;exact⟨_,by simp[binRun,eqGuard,binOp,Op.intArith],.int _ _⟩
 case and=>replace hr:=Runs.ret hr;subst hr;exact⟨_,by simp[binRun,eqGuard,binOp,Op.intBits],.int _ _⟩
 case or=>replace hr:=Runs.ret hr;subst hr;exact⟨_,by simp[binRun,eqGuard,binOp,Op.intBits],.int _ _⟩
 case xor=>replace hr:=Runs.ret hr;subst hr;exact⟨_,by simp[binRun,eqGuard,binOp,Op.intBits],.int _ _⟩
 all_goals replace hr:=Runs.ret hr;subst hr;exact⟨_,by simp[binRun,eqGuard,binOp,Op.intCmp],.bool _⟩
theorem equal_succ (t:TypeId) (x y:Value):∃d,Op.equal t x y=Op.equalIn (d+1) t x y:=⟨9999,rfl⟩
theorem run_equal_ptr {t e:TypeId} (hu:P.underlying t=some (.pointer e)) (p q:Option Addr) (h:p=none∨q=none) :
  (Op.equal t (.pointer p) (.pointer q)).run P w=.ok (p.isNone&&q.isNone) w:=by
 obtain⟨d,hd⟩:=equal_succ t (.pointer p) (.pointer q)
 rw[hd]
 generalize hn:d=n
 cases p<;>cases q<;>simp[Op.equalIn,run_underlying hu]
 simp at h
theorem run_eql_ptr {t e:TypeId} (hu:P.underlying t=some (.pointer e)) (x y:Operand) (p q:Option Addr) (h:p=none∨q=none) :
  (binRun .eql t x y (.pointer p) (.pointer q)).run P w=.ok (.bool (p.isNone&&q.isNone)) w:=by
 have e1:binRun .eql t x y (.pointer p) (.pointer q)=(do eqGuard .eql t x y (.pointer p) (.pointer q);pure (.bool (←Op.equal t (.pointer p) (.pointer q)))):=rfl
 have e2:eqGuard .eql t x y (.pointer p) (.pointer q)=pure ():=rfl
 rw[e1,e2]
 simp only[Sem.run_bind,run_equal_ptr hu p q h,pure_bind,Result.andThen_ok]
 rfl
theorem run_neq_ptr {t e:TypeId} (hu:P.underlying t=some (.pointer e)) (x y:Operand) (p q:Option Addr) (h:p=none∨q=none) :
  (binRun .neq t x y (.pointer p) (.pointer q)).run P w=.ok (.bool !(p.isNone&&q.isNone)) w:=by
 have e1:binRun .neq t x y (.pointer p) (.pointer q)=(do eqGuard .neq t x y (.pointer p) (.pointer q);pure (.bool (!(←Op.equal t (.pointer p) (.pointer q))))):=rfl
 have e2:eqGuard .neq t x y (.pointer p) (.pointer q)=pure ():=rfl
 rw[e1,e2]
 simp only[Sem.run_bind,run_equal_ptr hu p q h,pure_bind,Result.andThen_ok]
 rfl
theorem run_equal_bool {t:TypeId} (hu:P.underlying t=some .bool) (p q:Bool):(Op.equal t (.bool p) (.bool q)).run P w=.ok (p==q) w:=by
 obtain⟨d,hd⟩:=equal_succ t (.bool p) (.bool q)
 rw[hd]
 simp[Op.equalIn,run_underlying hu]
theorem run_eql_bool {t:TypeId} (hu:P.underlying t=some .bool) (x y:Operand) (p q:Bool):(binRun .eql t x y (.bool p) (.bool q)).run P w=.ok (.bool (p==q)) w:=by
 have e1:binRun .eql t x y (.bool p) (.bool q)=(do eqGuard .eql t x y (.bool p) (.bool q);pure (.bool (←Op.equal t (.bool p) (.bool q)))):=rfl
 have e2:eqGuard .eql t x y (.bool p) (.bool q)=pure ():=rfl
 rw[e1,e2]
 simp only[Sem.run_bind,run_equal_bool hu p q,pure_bind,Result.andThen_ok]
 rfl
theorem run_neq_bool {t:TypeId} (hu:P.underlying t=some .bool) (x y:Operand) (p q:Bool):(binRun .neq t x y (.bool p) (.bool q)).run P w=.ok (.bool !(p==q)) w:=by
 have e1:binRun .neq t x y (.bool p) (.bool q)=(do eqGuard .neq t x y (.bool p) (.bool q);pure (.bool (!(←Op.equal t (.bool p) (.bool q))))):=rfl
 have e2:eqGuard .neq t x y (.bool p) (.bool q)=pure ():=rfl
 rw[e1,e2]
 simp only[Sem.run_bind,run_equal_bool hu p q,pure_bind,Result.andThen_ok]
 rfl
theorem run_eql_agg {t:TypeId} (hu:P.eqGuardType P.depth t=false) (x y:Operand) (p q:Array Value) {r:Bool} (h:(Op.equal t (.agg p) (.agg q)).run P w=.ok r w) :
  (binRun .eql t x y (.agg p) (.agg q)).run P w=.ok (.bool r) w:=by
 have e1:binRun .eql t x y (.agg p) (.agg q)=(do eqGuard .eql t x y (.agg p) (.agg q);pure (.bool (←Op.equal t (.agg p) (.agg q)))):=rfl
 have e2:(eqGuard .eql t x y (.agg p) (.agg q)).run P w=.ok () w:=by simp[eqGuard,hu]
 rw[e1]
 simp only[Sem.run_bind,e2,h,Result.andThen_ok]
 rfl
theorem run_neq_agg {t:TypeId} (hu:P.eqGuardType P.depth t=false) (x y:Operand) (p q:Array Value) {r:Bool} (h:(Op.equal t (.agg p) (.agg q)).run P w=.ok r w) :
  (binRun .neq t x y (.agg p) (.agg q)).run P w=.ok (.bool !r) w:=by
 have e1:binRun .neq t x y (.agg p) (.agg q)=(do eqGuard .neq t x y (.agg p) (.agg q);pure (.bool (!(←Op.equal t (.agg p) (.agg q))))):=rfl
 have e2:(eqGuard .neq t x y (.agg p) (.agg q)).run P w=.ok () w:=by simp[eqGuard,hu]
 rw[e1]
 simp only[Sem.run_bind,e2,h,Result.andThen_ok]
 rfl
theorem VRel.pointer {v:V} {v':Value} (h:VRel ρ M v v') (hp:visp v=true):∃a,v'=.pointer (some a):=by
 cases h<;>first|exact⟨_,rfl⟩|cases hp
theorem TOk.ptr (hT:TOk P T) {t e:TypeId} (hk:(T.at t).kind=.ptr e):P.underlying t=some (.pointer e):=by
 have hkk:=(hT.kind (t:=t) (by rw[hk];simp)).kind
 rw[hk] at hkk
 exact hkk
theorem vbin_sound (hT:TOk P T) {flat:Nat→Bool} (hF:FOk P T flat) {op:BinOp} {t:TypeId} {x y:Operand} {a b:V} {a' b':Value} (ha:VRel ρ M a a') (hb:VRel ρ M b b')
  {v:V} (hr:Rd.Runs f (vbin T flat op t a b) v ns):∃v',(binRun op t x y a' b').run P w=.ok v' w∧VRel ρ M v v':=by
 unfold vbin at hr
 split at hr
 ·rename_i k n k' m
  cases ha;cases hb
  split at hr
  ·obtain⟨h0,hr⟩:=Runs.need hr;replace hr:=Runs.ret hr;subst hr
   have:¬m<0:=by omega
   exact⟨_,by simp[binRun,eqGuard,binOp,Op.shift,this],.int _ _⟩
  ·obtain⟨h0,hr⟩:=Runs.need hr;replace hr:=Runs.ret hr;subst hr
   have:¬m<0:=by omega
   exact⟨_,by simp[binRun,eqGuard,binOp,Op.shift,this],.int _ _⟩
  ·rename_i h1 h2
   replace hr:=Runs.when hr
   obtain⟨hk,hr⟩:=hr
   obtain rfl:k=k':=by simpa using hk
   exact vintBin_sound hr t x y ⟨h1,h2⟩
 ·cases ha;cases hb
  split at hr
  ·rename_i hk
   have hu:P.underlying t=some .bool:=by
    have hkk:=(hT.kind (t:=t) (by rw[hk];simp)).kind
    rw[hk] at hkk
    exact hkk
   replace hr:=Runs.ret hr;subst hr
   exact⟨_,run_eql_bool hu x y _ _,.bool _⟩
  ·rename_i hk
   have hu:P.underlying t=some .bool:=by
    have hkk:=(hT.kind (t:=t) (by rw[hk];simp)).kind
    rw[hk] at hkk
    exact hkk
   replace hr:=Runs.ret hr;subst hr
   exact⟨_,run_neq_bool hu x y _ _,.bool _⟩
  ·cases hr
 ·rename_i xs ys
  cases ha with
  | agg h1 h2=>
  cases hb with
  | agg h3 h4=>
  split at hr
  ·replace hr:=Runs.when hr
   obtain⟨hk,hr⟩:=hr
   simp at hk
   obtain⟨r,hv,hr⟩:=Runs.opt hr
   replace hr:=Runs.ret hr;subst hr
   have hf:=hF t hk.1
   exact⟨_,run_eql_agg hf.1 x y _ _ (hf.2 ρ M xs ys _ _ r ⟨h1,h2⟩ ⟨h3,h4⟩ hk.2 hv w),.bool _⟩
  ·replace hr:=Runs.when hr
   obtain⟨hk,hr⟩:=hr
   simp at hk
   obtain⟨r,hv,hr⟩:=Runs.opt hr
   replace hr:=Runs.ret hr;subst hr
   have hf:=hF t hk.1
   exact⟨_,run_neq_agg hf.1 x y _ _ (hf.2 ρ M xs ys _ _ r ⟨h1,h2⟩ ⟨h3,h4⟩ hk.2 hv w),.bool _⟩
  ·cases hr
 ·cases ha;cases hb
  split at hr
  ·rename_i e hk
   replace hr:=Runs.ret hr;subst hr
   exact⟨_,run_eql_ptr (hT.ptr hk) x y none none (.inl rfl),.bool _⟩
  ·rename_i e hk
   replace hr:=Runs.ret hr;subst hr
   exact⟨_,run_neq_ptr (hT.ptr hk) x y none none (.inl rfl),.bool _⟩
  ·cases hr
 ·replace hr:=Runs.when hr
  obtain⟨hk,hr⟩:=hr
  obtain⟨p,rfl⟩:=ha.pointer hk
  cases hb
  split at hr
  ·rename_i e hk
   replace hr:=Runs.ret hr;subst hr
   exact⟨_,run_eql_ptr (hT.ptr hk) x y (some p) none (.inr rfl),.bool _⟩
  ·rename_i e hk
   replace hr:=Runs.ret hr;subst hr
   exact⟨_,run_neq_ptr (hT.ptr hk) x y (some p) none (.inr rfl),.bool _⟩
  ·cases hr
 ·replace hr:=Runs.when hr
  obtain⟨hk,hr⟩:=hr
  obtain⟨p,rfl⟩:=hb.pointer hk
  cases ha
  split at hr
  ·rename_i e hk
   replace hr:=Runs.ret hr;subst hr
   exact⟨_,run_eql_ptr (hT.ptr hk) x y none (some p) (.inl rfl),.bool _⟩
  ·rename_i e hk
   replace hr:=Runs.ret hr;subst hr
   exact⟨_,run_neq_ptr (hT.ptr hk) x y none (some p) (.inl rfl),.bool _⟩
  ·cases hr
 ·cases hr
theorem vun_sound {op:UnOp} {x:V} {x':Value} (hx:VRel ρ M x x') {v:V} (hr:Rd.Runs f (vun op x) v ns):∃v',(Op.unary op x').run P w=.ok v' w∧VRel ρ M v v':=by
 unfold vun at hr
 split at hr
 ·cases hx;replace hr:=Runs.ret hr;subst hr;exact⟨_,by simp[Op.unary,Op.intArith],.int _ _⟩
 ·cases hx;replace hr:=Runs.ret hr;subst hr;exact⟨_,by simp[Op.unary],.bool _⟩
 ·cases hr
theorem vmm_sound {big:Bool} {x:V} {x':Value} (hx:VRel ρ M x x') {l:List V} {l':List Value} (hl:VsRel ρ M l l') {v:V} (hr:Rd.Runs f (vmm big x l) v ns) :
  ∃v',(l'.foldlM (if big then Builtin.max2 else Builtin.min2) x').run P w=.ok v' w∧VRel ρ M v v':=by
 induction l generalizing x x' l' ns with
 | nil=>
  obtain rfl:=hl.nil_inv
  cases x<;>(replace hr:=Runs.ret hr;subst hr;exact⟨x',rfl,hx⟩)
 | cons y r ih=>
  obtain⟨y',r',rfl,hy,hrr⟩:=hl.uncons
  cases x<;>cases y<;>try(cases hr;done)
  cases hx;cases hy
  simp only[vmm] at hr
  replace hr:=Runs.when hr
  obtain⟨hk,hr⟩:=hr
  simp only[List.foldlM_cons,Sem.run_bind]
  cases big with
  | true=>
   simp only[if_true] at ih ⊢
   simp only[Builtin.max2]
   exact ih (.int _ _) hrr hr
  | false=>
   simp only[Bool.false_eq_true,if_false] at ih ⊢
   simp only[Builtin.min2]
   exact ih (.int _ _) hrr hr
end Go.Vm
