/- A part of the proofs over the seat YtbppemcdphgknaaGreatDoor. -/
import Derived.Test.YtbppemcdphgknaaGreatDoorVm17
set_option linter.unusedVariables false
set_option linter.unusedSimpArgs false
namespace Go.Vm
open Go
def zeroIs:List V→List Value→Bool
 | [],[]=>true
 | .int k n::r,.int k' m::r'=>k==k'&&(n==m&&zeroIs r r')
 | .bool b::r,.bool b'::r'=>b==b'&&zeroIs r r'
 | .nilp::r,.pointer none::r'=>zeroIs r r'
 | .nils::r,.slice none 0 0::r'=>zeroIs r r'
 | .undef::r,v::r'=>v.oneCell'&&zeroIs r r'
 | _,_=>false
theorem zeroIs_ok:∀{l:List V} {l':List Value},zeroIs l l'=true→(∀ρ M,VsRel ρ M l l')∧∀c∈l',c.oneCell'=true:=by
 intro l
 induction l with
 | nil=>
  intro l' h
  cases l' with
  | nil=>exact⟨fun _ _=>.nil,fun _ h=>by cases h⟩
  | cons=>simp[zeroIs] at h
 | cons v r ih=>
  intro l' h
  cases l' with
  | nil=>cases v<;>simp[zeroIs] at h
  | cons v' r'=>
   unfold zeroIs at h
   split at h
   ·rename_i h1 _;cases h1
   ·rename_i h1 h2
    cases h1;cases h2
    simp only[Bool.and_eq_true,beq_iff_eq] at h
    obtain⟨rfl,rfl,h⟩:=h
    obtain⟨a,b⟩:=ih h
    exact⟨fun ρ M=>.cons (.int _ _) (a ρ M),List.forall_mem_cons.2 ⟨rfl,b⟩⟩
   ·rename_i h1 h2
    cases h1;cases h2
    simp only[Bool.and_eq_true,beq_iff_eq] at h
    obtain⟨rfl,h⟩:=h
    obtain⟨a,b⟩:=ih h
    exact⟨fun ρ M=>.cons (.bool _) (a ρ M),List.forall_mem_cons.2 ⟨rfl,b⟩⟩
   ·rename_i h1 h2
    cases h1;cases h2
    obtain⟨a,b⟩:=ih h
    exact⟨fun ρ M=>.cons .nilp (a ρ M),List.forall_mem_cons.2 ⟨rfl,b⟩⟩
   ·rename_i h1 h2
    cases h1;cases h2
    obtain⟨a,b⟩:=ih h
    exact⟨fun ρ M=>.cons .nils (a ρ M),List.forall_mem_cons.2 ⟨rfl,b⟩⟩
   ·rename_i h1 h2
    cases h1;cases h2
    simp only[Bool.and_eq_true] at h
    obtain⟨a,b⟩:=ih h.2
    exact⟨fun ρ M=>.cons (.undef _) (a ρ M),List.forall_mem_cons.2 ⟨h.1,b⟩⟩
   ·cases h
def sizeIs (P:Program) (T:TT) (t:TypeId):Bool:=match P.info? t with
 | some ti=>ti.size==(T.at t).size
 | none=>false
theorem sizeIs_ok {P:Program} {T:TT} {t:TypeId} (h:sizeIs P T t=true):SizeOk P T t:=by
 unfold sizeIs at h
 split at h
 ·rename_i ti hi;exact⟨ti,hi,by simpa using h⟩
 ·cases h
def kindIs (P:Program) (T:TT) (t:TypeId) (k:TK):Bool:=match P.underlying t,k with
 | some (.struct F),.struct fs=>F.toList.map (fun f=>(f.offset,f.type))==fs&&F.toList.all fun f=>sizeIs P T f.type
 | some (.array n e),.array n' e'=>n==n'&&(e==e'&&sizeIs P T e)
 | some (.slice e),.slice e'=>e==e'
 | some (.pointer e),.ptr e'=>e==e'
 | some (.int k),.int k'=>k==k'
 | some .bool,.bool=>true
 | some (.struct _),.one=>false
 | some (.array _ _),.one=>false
 | some _,.one=>true
 | _,_=>false
theorem kindIs_ok {P:Program} {T:TT} {t:TypeId} {k:TK} (h:kindIs P T t k=true):KindOk P T t k:=by
 unfold kindIs at h
 split at h
 ·rename_i F fs hu
  simp only[Bool.and_eq_true,beq_iff_eq] at h
  exact⟨F,hu,h.1,fun f hf=>sizeIs_ok (List.all_eq_true.1 h.2 f hf)⟩
 ·rename_i n e n' e' hu
  simp only[Bool.and_eq_true,beq_iff_eq] at h
  obtain⟨rfl,rfl,h⟩:=h
  exact⟨hu,sizeIs_ok h⟩
 ·rename_i e e' hu
  obtain rfl:e=e':=by simpa using h
  exact hu
 ·rename_i e e' hu
  obtain rfl:e=e':=by simpa using h
  exact hu
 ·rename_i e e' hu
  obtain rfl:e=e':=by simpa using h
  exact hu
 ·rename_i hu;exact hu
 ·cases h
 ·cases h
 ·rename_i d h1 h2 hu
  refine⟨d,hu,?_⟩
  cases d<;>first|trivial|exact(h1 _ rfl).elim|exact(h2 _ _ rfl).elim
 ·cases h
def tiIs (P:Program) (T:TT) (t:TypeId) (i:TI):Bool:=(match P.info? t with
 | some ti=>ti.size==i.size&&(ti.bytes==i.bytes&&(i.zero.length==i.size&&match ti.zero with
  | some z=>zeroIs i.zero z.cells.toList
  | none=>false))
 | none=>false)&&kindIs P T t i.kind
theorem tiIs_ok {P:Program} {T:TT} {t:TypeId} {i:TI} (h:tiIs P T t i=true):TIok P T i t:=by
 unfold tiIs at h
 simp only[Bool.and_eq_true] at h
 obtain⟨h,hk⟩:=h
 refine⟨?_,kindIs_ok hk⟩
 split at h
 ·rename_i ti hi
  simp only[Bool.and_eq_true,beq_iff_eq] at h
  obtain⟨h1,h2,h3,h⟩:=h
  split at h
  ·rename_i z hz
   obtain⟨a,b⟩:=zeroIs_ok h
   exact⟨ti,z,hi,h1,h2,hz,a,b,h3⟩
  ·cases h
 ·cases h
def TI.isNone (i:TI):Bool:=match i.size,i.kind with
 | 0,.one=>true
 | _,_=>false
def ttIs (P:Program) (T:TT):Nat→List TI→Bool
 | _,[]=>true
 | t,i::r=>(i.isNone||tiIs P T t i)&&ttIs P T (t+1) r
theorem ttIs_ok {P:Program} {T:TT}:∀{l:List TI} {t:Nat},ttIs P T t l=true→∀j i,l[j]?=some i→(i.size≠0∨i.kind≠.one)→TIok P T i (t+j):=by
 intro l
 induction l with
 | nil=>intro t _ j i h _;simp at h
 | cons x r ih=>
  intro t h j i hj hn
  simp only[ttIs,Bool.and_eq_true] at h
  cases j with
  | zero=>
   simp at hj;subst hj
   have hx:x.isNone=false:=by
    unfold TI.isNone
    split
    ·rename_i h1 h2;exact absurd hn (by simp[h1,h2])
    ·rfl
   rw[hx,Bool.false_or] at h
   exact tiIs_ok h.1
  | succ j=>
   have:=ih h.2 j i (by simpa using hj) hn
   rwa [show t+1+j=t+(j+1) by omega] at this
theorem TOk.of_check {P:Program} {T:TT} (h:ttIs P T 0 T=true):TOk P T:=fun t i hi hn=>by
 rw[lget_eq] at hi
 have:=ttIs_ok h t i hi hn
 rwa [Nat.zero_add] at this
end Go.Vm
