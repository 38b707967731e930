/- A part of the proofs over the seat YtbppemcdphgknaaGreatDoor. -/
import Derived.Test.YtbppemcdphgknaaGreatDoorVm19
import Derived.Deep.Slices
import Derived.OpenShut
import Derived.ChangeArms
set_option linter.unusedVariables false
set_option linter.unusedSimpArgs false
namespace Go.Vm
open Go Go.Deep Go.ChangeShapes Go.WideShapes
set_option linter.unusedSimpArgs false
set_option maxHeartbeats 4000000
inductive Sh where
 | int (k:IntKind)
 | bool
 | slice (s:Sh)
 | unit
 | pair (a b:Sh)
@[reducible] def Sh.T:Sh→Type
 | .int _=>Int
 | .bool=>Bool
 | .slice s=>List s.T
 | .unit=>Unit
 | .pair a b=>a.T×b.T
def Sh.size:Sh→Nat
 | .int _=>1
 | .bool=>1
 | .slice _=>1
 | .unit=>0
 | .pair a b=>a.size+b.size
def Sh.enc:(s:Sh)→s.T→List V
 | .int k,n=>[.int k n]
 | .bool,b=>[.bool b]
 | .slice s,l=>[.lst s.size (l.map s.enc)]
 | .unit,_=>[]
 | .pair a b,x=>a.enc x.1++b.enc x.2
def Sh.Wf:(s:Sh)→s.T→Prop
 | .int k,n=>(Lit.int k n).wf=true
 | .bool,_=>True
 | .slice s,l=>l.length≤maxLen∧∀x∈l,s.Wf x
 | .unit,_=>True
 | .pair a b,x=>a.Wf x.1∧b.Wf x.2
def Sh.argV:(s:Sh)→s.T→V
 | .int k,n=>.int k n
 | .bool,b=>.bool b
 | .slice s,l=>.lst s.size (l.map s.enc)
 | .unit,_=>.agg []
 | .pair a b,x=>.agg ((Sh.pair a b).enc x)
theorem Sh.enc_length:∀(s:Sh) (x:s.T),(s.enc x).length=s.size
 | .int _,_=>rfl
 | .bool,_=>rfl
 | .slice _,_=>rfl
 | .unit,_=>rfl
 | .pair a b,x=>by simp[Sh.enc,Sh.size,Sh.enc_length a,Sh.enc_length b]
theorem Sh.inh:∀(s:Sh),Nonempty s.T
 | .int _=>⟨(0:Int)⟩
 | .bool=>⟨false⟩
 | .slice _=>⟨[]⟩
 | .unit=>⟨()⟩
 | .pair a b=>let ⟨x⟩:=Sh.inh a;let ⟨y⟩:=Sh.inh b;⟨(x,y)⟩
inductive Is (P:Program):TypeId→Sh→Prop
 | int {t:TypeId} {k:IntKind}:P.underlying t=some (.int k)→Is P t (.int k)
 | bool {t:TypeId}:P.underlying t=some .bool→Is P t .bool
 | slice {t e:TypeId} {s:Sh}:P.underlying t=some (.slice e)→Is P e s→P.cellsOf e=s.size→0<s.size→Is P t (.slice s)
 | struct1 {t:TypeId} {f1:Field} {a:Sh}:P.underlying t=some (.struct #[f1])→Is P f1.type a→P.cellsOf t=a.size→P.cellsOf f1.type=a.size→f1.offset=0→
   Is P t (.pair a .unit)
 | struct2 {t:TypeId} {f1 f2:Field} {a b:Sh}:P.underlying t=some (.struct #[f1,f2])→Is P f1.type a→Is P f2.type b→P.cellsOf t=a.size+b.size→P.cellsOf f1.type=a.size→
   P.cellsOf f2.type=b.size→f1.offset=0→f2.offset=a.size→Is P t (.pair a (.pair b .unit))
 | struct3 {t:TypeId} {f1 f2 f3:Field} {a b c:Sh}:P.underlying t=some (.struct #[f1,f2,f3])→Is P f1.type a→Is P f2.type b→Is P f3.type c→P.cellsOf t=a.size+(b.size+c.size)→
   P.cellsOf f1.type=a.size→P.cellsOf f2.type=b.size→P.cellsOf f3.type=c.size→f1.offset=0→f2.offset=a.size→f3.offset=a.size+b.size→Is P t (.pair a (.pair b (.pair c .unit)))
 | struct4 {t:TypeId} {f1 f2 f3 f4:Field} {a b c d:Sh}:P.underlying t=some (.struct #[f1,f2,f3,f4])→Is P f1.type a→Is P f2.type b→Is P f3.type c→Is P f4.type d→
   P.cellsOf t=a.size+(b.size+(c.size+d.size))→
   P.cellsOf f1.type=a.size→P.cellsOf f2.type=b.size→P.cellsOf f3.type=c.size→P.cellsOf f4.type=d.size→f1.offset=0→f2.offset=a.size→f3.offset=a.size+b.size→
   f4.offset=a.size+b.size+c.size→Is P t (.pair a (.pair b (.pair c (.pair d .unit))))
 | struct5 {t:TypeId} {f1 f2 f3 f4 f5:Field} {a b c d e:Sh}:P.underlying t=some (.struct #[f1,f2,f3,f4,f5])→Is P f1.type a→Is P f2.type b→Is P f3.type c→Is P f4.type d→Is P f5.type e→
   P.cellsOf t=a.size+(b.size+(c.size+(d.size+e.size)))→
   P.cellsOf f1.type=a.size→P.cellsOf f2.type=b.size→P.cellsOf f3.type=c.size→P.cellsOf f4.type=d.size→P.cellsOf f5.type=e.size→f1.offset=0→f2.offset=a.size→f3.offset=a.size+b.size→
   f4.offset=a.size+b.size+c.size→f5.offset=a.size+b.size+c.size+d.size→Is P t (.pair a (.pair b (.pair c (.pair d (.pair e .unit)))))
 | struct6 {t:TypeId} {f1 f2 f3 f4 f5 f6:Field} {a b c d e f:Sh}:P.underlying t=some (.struct #[f1,f2,f3,f4,f5,f6])→Is P f1.type a→Is P f2.type b→Is P f3.type c→Is P f4.type d→Is P f5.type e→Is P f6.type f→
   P.cellsOf t=a.size+(b.size+(c.size+(d.size+(e.size+f.size))))→P.cellsOf f1.type=a.size→P.cellsOf f2.type=b.size→P.cellsOf f3.type=c.size→P.cellsOf f4.type=d.size→P.cellsOf f5.type=e.size→P.cellsOf f6.type=f.size→f1.offset=0→f2.offset=a.size→f3.offset=a.size+b.size→f4.offset=a.size+b.size+c.size→f5.offset=a.size+b.size+c.size+d.size→f6.offset=a.size+b.size+c.size+d.size+e.size→Is P t (.pair a (.pair b (.pair c (.pair d (.pair e (.pair f .unit))))))
 | struct7 {t:TypeId} {f1 f2 f3 f4 f5 f6 f7:Field} {a b c d e f g:Sh}:P.underlying t=some (.struct #[f1,f2,f3,f4,f5,f6,f7])→Is P f1.type a→Is P f2.type b→Is P f3.type c→Is P f4.type d→Is P f5.type e→Is P f6.type f→Is P f7.type g→
   P.cellsOf t=a.size+(b.size+(c.size+(d.size+(e.size+(f.size+g.size)))))→P.cellsOf f1.type=a.size→P.cellsOf f2.type=b.size→P.cellsOf f3.type=c.size→P.cellsOf f4.type=d.size→P.cellsOf f5.type=e.size→P.cellsOf f6.type=f.size→P.cellsOf f7.type=g.size→f1.offset=0→f2.offset=a.size→f3.offset=a.size+b.size→f4.offset=a.size+b.size+c.size→f5.offset=a.size+b.size+c.size+d.size→f6.offset=a.size+b.size+c.size+d.size+e.size→f7.offset=a.size+b.size+c.size+d.size+e.size+f.size→Is P t (.pair a (.pair b (.pair c (.pair d (.pair e (.pair f (.pair g .unit)))))))
 | array4 {t e:TypeId} {a:Sh}:P.underlying t=some (.array 4 e)→Is P e a→P.cellsOf t=a.size+(a.size+(a.size+a.size))→P.cellsOf e=a.size→Is P t (.pair a (.pair a (.pair a (.pair a .unit))))
 | array6 {t e:TypeId} {a:Sh}:P.underlying t=some (.array 6 e)→Is P e a→P.cellsOf t=a.size+(a.size+(a.size+(a.size+(a.size+a.size))))→P.cellsOf e=a.size→Is P t (.pair a (.pair a (.pair a (.pair a (.pair a (.pair a .unit))))))
 | array2 {t e:TypeId} {a:Sh}:P.underlying t=some (.array 2 e)→Is P e a→P.cellsOf t=a.size+a.size→P.cellsOf e=a.size→Is P t (.pair a (.pair a .unit))
def memOf (W:World):Mem:=fun b o=>W.cell? ⟨b,o,none⟩
theorem memOk (W:World):MemOk (memOf W) W:=fun _ _ _ h=>h
section
variable {H:Type} {enc:TypeId×Value→H} {P:Program} {W:World} {base:Nat} {spare:Nat→Bool} {held:Bool}
theorem one_field {ys:List (DataW H×List MemPlace)} {i:Nat} {n:Nat} {t:TypeId} {l:List Value} (hl:i<ys.length) (h:DataW.trod enc P W base spare held n t l=ys[i]?) :
  ∃x,DataW.trod enc P W base spare held n t l=some x:=⟨ys[i],by rw[h,List.getElem?_eq_getElem hl]⟩
theorem VsRel.split {ρ:Rho} {M:Mem} {a b:List V} {cs:List Value} {n:Nat} (hn:n≤cs.length) (ha:VsRel ρ M a (cs.take n)) (hb:VsRel ρ M b (cs.drop n)):VsRel ρ M (a++b) cs:=by
 have:=ha.append hb
 rwa [List.take_append_drop] at this
theorem Is.read {t:TypeId} {s:Sh} (hs:Is P t s):∀{fuel:Nat} {cs:List Value} {x:DataW H×List MemPlace},DataW.trod enc P W base spare held fuel t cs=some x→
  ∃y:s.T,s.Wf y∧cs.length=s.size∧VsRel (fun _=>none) (memOf W) (s.enc y) cs:=by
 induction hs with
 | int h=>
  intro fuel cs x hd
  obtain⟨n,rfl,_,hw⟩:=DataW.trod_int h hd
  exact⟨n,hw,rfl,.cons (.int _ _) .nil⟩
 | bool h=>
  intro fuel cs x hd
  obtain⟨n,rfl,_⟩:=DataW.trod_bool h hd
  exact⟨n,trivial,rfl,.cons (.bool _) .nil⟩
 | @slice t e s h he hc hpos ih=>
  intro fuel cs x hd
  rcases open_slice h hd with⟨rfl,_⟩|⟨a,len,cap,m,n,D,Pl,rfl,_,hl,hm,hmm,_,hx⟩
  ·exact⟨[],⟨Nat.zero_le _,by simp⟩,rfl,.cons .lst0 .nil⟩
  have hlm:len≤m:=by rw[hmm];split<;>omega
  haveI:Inhabited s.T:=⟨Classical.choice s.inh⟩
  obtain⟨y,hy⟩:=choose_lt (α:=s.T×List Value) (n:=len) (p:=fun i z=>s.Wf z.1∧W.cells? base (a.add (i*s.size)) s.size=some z.2∧z.2.length=s.size∧VsRel (fun _=>none) (memOf W) (s.enc z.1) z.2) (fun i hi=>by
   obtain⟨cs',h1,h2⟩:=hx i (by omega)
   obtain⟨z,h3,h4,h5⟩:=ih h2
   rw[hc] at h1
   exact⟨(z,cs'),h3,h1,h4,h5⟩)
  refine⟨(List.range len).map fun i=>(y i).1,⟨by simp;omega,?_⟩,rfl,.cons ?_ .nil⟩
  ·intro z hz
   obtain⟨i,hi,rfl⟩:=List.mem_map.1 hz
   exact(hy i (List.mem_range.1 hi)).1
  ·rcases Nat.eq_zero_or_pos len with rfl|hp
   ·exact .lst0
   have hsp:a.spot=none:=by
    obtain⟨_,h1,_,_⟩:=hy 0 hp
    obtain⟨_,h2,h3⟩:=World.cells?_some h1
    have h4:=h3 0 hpos
    rw[Nat.zero_mul] at h4
    have h5:(a.add 0).add 0=a:=by simp[Addr.add]
    rw[h5,List.getElem?_eq_getElem (by omega)] at h4
    unfold World.cell? at h4
    split at h4
    ·cases hh:a.spot with
     | none=>rfl
     | some q=>rw[hh] at h4;simp at h4
    ·cases h4
   obtain⟨ab,ao,as⟩:=a
   simp only at hsp
   subst hsp
   have hlen:(((List.range len).map fun i=>(y i).1).map s.enc).length=len:=by simp
   have hres:=VRel.lst (ρ:=fun _=>none) (M:=memOf W) (sz:=s.size) (es:=((List.range len).map fun i=>(y i).1).map s.enc) (b:=ab) (o:=ao) (cap:=cap) (fun i k=>(y i).2.getD k undef) ?_ ?_ ?_ (by omega)
   ·rw[hlen] at hres;exact hres
   ·intro e he
    obtain⟨z,_,rfl⟩:=List.mem_map.1 he
    exact s.enc_length z
   ·intro i k e v he hv
    have hi:i<len:=by have:=(List.getElem?_eq_some_iff.1 he).1;omega
    have he':e=s.enc (y i).1:=by
     rw[List.getElem?_map,List.getElem?_map,List.getElem?_range hi] at he
     exact(Option.some.inj he).symm
    subst he'
    obtain⟨_,_,hlz,hv2⟩:=hy i hi
    obtain⟨v',h1,h2⟩:=hv2.get hv
    rw[List.getD_eq_getElem?_getD,h1]
    exact h2
   ·intro i k hi hk
    rw[hlen] at hi
    obtain⟨_,h1,hlz,_⟩:=hy i hi
    obtain⟨_,_,h3⟩:=World.cells?_some h1
    have:=h3 k hk
    rw[show(Addr.add (Addr.add ⟨ab,ao,none⟩ (i*s.size)) k)=⟨ab,ao+(i*s.size+k),none⟩ by
     unfold Addr.add;split<;>split<;>simp_all;omega] at this
    show W.cell? _=_
    rw[this,List.getD_eq_getElem?_getD,List.getElem?_eq_getElem (by omega)]
    rfl
 | @struct1 t f1 a h _ ct c1 o1 ih1=>
  intro fuel cs x hd
  obtain⟨xs,n,_,_,hl,hn,hf⟩:=DataW.trod_struct h hd
  have hn1:xs.length=1:=hn
  obtain⟨_,e1⟩:=one_field (by omega) (hf 0 f1 rfl)
  rw[o1,List.drop_zero,c1] at e1
  obtain⟨y1,w1,l1,r1⟩:=ih1 e1
  rw[ct] at hl
  refine⟨(y1,()),⟨w1,trivial⟩,by simp[Sh.size,hl],?_⟩
  rw[List.take_of_length_le (by omega)] at r1
  simpa[Sh.enc] using r1
 | @struct2 t f1 f2 a b h _ _ ct c1 c2 o1 o2 ih1 ih2=>
  intro fuel cs x hd
  obtain⟨xs,n,_,_,hl,hn,hf⟩:=DataW.trod_struct h hd
  have hn1:xs.length=2:=hn
  obtain⟨_,e1⟩:=one_field (by omega) (hf 0 f1 rfl)
  obtain⟨_,e2⟩:=one_field (by omega) (hf 1 f2 rfl)
  rw[o1,List.drop_zero,c1] at e1
  rw[o2,c2] at e2
  obtain⟨y1,w1,l1,r1⟩:=ih1 e1
  obtain⟨y2,w2,l2,r2⟩:=ih2 e2
  rw[ct] at hl
  refine⟨(y1,y2,()),⟨w1,w2,trivial⟩,by simp[Sh.size,hl],?_⟩
  rw[List.take_of_length_le (by simp;omega)] at r2
  simpa[Sh.enc] using VsRel.split (by omega) r1 r2
 | @struct3 t f1 f2 f3 a b c h _ _ _ ct c1 c2 c3 o1 o2 o3 ih1 ih2 ih3=>
  intro fuel cs x hd
  obtain⟨xs,n,_,_,hl,hn,hf⟩:=DataW.trod_struct h hd
  have hn1:xs.length=3:=hn
  obtain⟨_,e1⟩:=one_field (by omega) (hf 0 f1 rfl)
  obtain⟨_,e2⟩:=one_field (by omega) (hf 1 f2 rfl)
  obtain⟨_,e3⟩:=one_field (by omega) (hf 2 f3 rfl)
  rw[o1,List.drop_zero,c1] at e1
  rw[o2,c2] at e2
  rw[o3,c3] at e3
  obtain⟨y1,w1,l1,r1⟩:=ih1 e1
  obtain⟨y2,w2,l2,r2⟩:=ih2 e2
  obtain⟨y3,w3,l3,r3⟩:=ih3 e3
  rw[ct] at hl
  refine⟨(y1,y2,y3,()),⟨w1,w2,w3,trivial⟩,by simp[Sh.size,hl],?_⟩
  rw[List.take_of_length_le (by simp;omega),←List.drop_drop] at r3
  simpa[Sh.enc] using VsRel.split (by omega) r1 (VsRel.split (by simp;omega) r2 r3)
 | @struct4 t f1 f2 f3 f4 a b c d h _ _ _ _ ct c1 c2 c3 c4 o1 o2 o3 o4 ih1 ih2 ih3 ih4=>
  intro fuel cs x hd
  obtain⟨xs,n,_,_,hl,hn,hf⟩:=DataW.trod_struct h hd
  have hn1:xs.length=4:=hn
  obtain⟨_,e1⟩:=one_field (by omega) (hf 0 f1 rfl)
  obtain⟨_,e2⟩:=one_field (by omega) (hf 1 f2 rfl)
  obtain⟨_,e3⟩:=one_field (by omega) (hf 2 f3 rfl)
  obtain⟨_,e4⟩:=one_field (by omega) (hf 3 f4 rfl)
  rw[o1,List.drop_zero,c1] at e1
  rw[o2,c2] at e2
  rw[o3,c3] at e3
  rw[o4,c4] at e4
  obtain⟨y1,w1,l1,r1⟩:=ih1 e1
  obtain⟨y2,w2,l2,r2⟩:=ih2 e2
  obtain⟨y3,w3,l3,r3⟩:=ih3 e3
  obtain⟨y4,w4,l4,r4⟩:=ih4 e4
  rw[ct] at hl
  refine⟨(y1,y2,y3,y4,()),⟨w1,w2,w3,w4,trivial⟩,by simp[Sh.size,hl],?_⟩
  rw[←List.drop_drop] at r3
  rw[List.take_of_length_le (by simp;omega),←List.drop_drop,←List.drop_drop] at r4
  simpa[Sh.enc] using VsRel.split (by omega) r1 (VsRel.split (by simp;omega) r2 (VsRel.split (by simp;omega) r3 r4))
 | @struct5 t f1 f2 f3 f4 f5 a b c d e h _ _ _ _ _ ct c1 c2 c3 c4 c5 o1 o2 o3 o4 o5 ih1 ih2 ih3 ih4 ih5=>
  intro fuel cs x hd
  obtain⟨xs,n,_,_,hl,hn,hf⟩:=DataW.trod_struct h hd
  have hn1:xs.length=5:=hn
  obtain⟨_,e1⟩:=one_field (by omega) (hf 0 f1 rfl)
  obtain⟨_,e2⟩:=one_field (by omega) (hf 1 f2 rfl)
  obtain⟨_,e3⟩:=one_field (by omega) (hf 2 f3 rfl)
  obtain⟨_,e4⟩:=one_field (by omega) (hf 3 f4 rfl)
  obtain⟨_,e5⟩:=one_field (by omega) (hf 4 f5 rfl)
  rw[o1,List.drop_zero,c1] at e1
  rw[o2,c2] at e2
  rw[o3,c3] at e3
  rw[o4,c4] at e4
  rw[o5,c5] at e5
  obtain⟨y1,w1,l1,r1⟩:=ih1 e1
  obtain⟨y2,w2,l2,r2⟩:=ih2 e2
  obtain⟨y3,w3,l3,r3⟩:=ih3 e3
  obtain⟨y4,w4,l4,r4⟩:=ih4 e4
  obtain⟨y5,w5,l5,r5⟩:=ih5 e5
  rw[ct] at hl
  refine⟨(y1,y2,y3,y4,y5,()),⟨w1,w2,w3,w4,w5,trivial⟩,by simp[Sh.size,hl],?_⟩
  rw[←List.drop_drop] at r3
  rw[←List.drop_drop,←List.drop_drop] at r4
  rw[List.take_of_length_le (by simp;omega),←List.drop_drop,←List.drop_drop,←List.drop_drop] at r5
  simpa[Sh.enc] using VsRel.split (by omega) r1 (VsRel.split (by simp;omega) r2 (VsRel.split (by simp;omega) r3 (VsRel.split (by simp;omega) r4 r5)))
 | @struct6 t f1 f2 f3 f4 f5 f6 a b c d e f h _ _ _ _ _ _ ct c1 c2 c3 c4 c5 c6 o1 o2 o3 o4 o5 o6 ih1 ih2 ih3 ih4 ih5 ih6=>
  intro fuel cs x hd
  obtain⟨xs,n,_,_,hl,hn,hf⟩:=DataW.trod_struct h hd
  have hn1:xs.length=6:=hn
  obtain⟨_,e1⟩:=one_field (by omega) (hf 0 f1 rfl)
  obtain⟨_,e2⟩:=one_field (by omega) (hf 1 f2 rfl)
  obtain⟨_,e3⟩:=one_field (by omega) (hf 2 f3 rfl)
  obtain⟨_,e4⟩:=one_field (by omega) (hf 3 f4 rfl)
  obtain⟨_,e5⟩:=one_field (by omega) (hf 4 f5 rfl)
  obtain⟨_,e6⟩:=one_field (by omega) (hf 5 f6 rfl)
  rw[o1,List.drop_zero,c1] at e1
  rw[o2,c2] at e2
  rw[o3,c3] at e3
  rw[o4,c4] at e4
  rw[o5,c5] at e5
  rw[o6,c6] at e6
  obtain⟨y1,w1,l1,r1⟩:=ih1 e1
  obtain⟨y2,w2,l2,r2⟩:=ih2 e2
  obtain⟨y3,w3,l3,r3⟩:=ih3 e3
  obtain⟨y4,w4,l4,r4⟩:=ih4 e4
  obtain⟨y5,w5,l5,r5⟩:=ih5 e5
  obtain⟨y6,w6,l6,r6⟩:=ih6 e6
  rw[ct] at hl
  refine⟨(y1,y2,y3,y4,y5,y6,()),⟨w1,w2,w3,w4,w5,w6,trivial⟩,by simp[Sh.size,hl],?_⟩
  rw[←List.drop_drop] at r3
  rw[←List.drop_drop,←List.drop_drop] at r4
  rw[←List.drop_drop,←List.drop_drop,←List.drop_drop] at r5
  rw[List.take_of_length_le (by simp;omega),←List.drop_drop,←List.drop_drop,←List.drop_drop,←List.drop_drop] at r6
  simpa[Sh.enc] using VsRel.split (by omega) r1 (VsRel.split (by simp;omega) r2 (VsRel.split (by simp;omega) r3 (VsRel.split (by simp;omega) r4 (VsRel.split (by simp;omega) r5 r6))))
 | @struct7 t f1 f2 f3 f4 f5 f6 f7 a b c d e f g h _ _ _ _ _ _ _ ct c1 c2 c3 c4 c5 c6 c7 o1 o2 o3 o4 o5 o6 o7 ih1 ih2 ih3 ih4 ih5 ih6 ih7=>
  intro fuel cs x hd
  obtain⟨xs,n,_,_,hl,hn,hf⟩:=DataW.trod_struct h hd
  have hn1:xs.length=7:=hn
  obtain⟨_,e1⟩:=one_field (by omega) (hf 0 f1 rfl)
  obtain⟨_,e2⟩:=one_field (by omega) (hf 1 f2 rfl)
  obtain⟨_,e3⟩:=one_field (by omega) (hf 2 f3 rfl)
  obtain⟨_,e4⟩:=one_field (by omega) (hf 3 f4 rfl)
  obtain⟨_,e5⟩:=one_field (by omega) (hf 4 f5 rfl)
  obtain⟨_,e6⟩:=one_field (by omega) (hf 5 f6 rfl)
  obtain⟨_,e7⟩:=one_field (by omega) (hf 6 f7 rfl)
  rw[o1,List.drop_zero,c1] at e1
  rw[o2,c2] at e2
  rw[o3,c3] at e3
  rw[o4,c4] at e4
  rw[o5,c5] at e5
  rw[o6,c6] at e6
  rw[o7,c7] at e7
  obtain⟨y1,w1,l1,r1⟩:=ih1 e1
  obtain⟨y2,w2,l2,r2⟩:=ih2 e2
  obtain⟨y3,w3,l3,r3⟩:=ih3 e3
  obtain⟨y4,w4,l4,r4⟩:=ih4 e4
  obtain⟨y5,w5,l5,r5⟩:=ih5 e5
  obtain⟨y6,w6,l6,r6⟩:=ih6 e6
  obtain⟨y7,w7,l7,r7⟩:=ih7 e7
  rw[ct] at hl
  refine⟨(y1,y2,y3,y4,y5,y6,y7,()),⟨w1,w2,w3,w4,w5,w6,w7,trivial⟩,by simp[Sh.size,hl],?_⟩
  rw[←List.drop_drop] at r3
  rw[←List.drop_drop,←List.drop_drop] at r4
  rw[←List.drop_drop,←List.drop_drop,←List.drop_drop] at r5
  rw[←List.drop_drop,←List.drop_drop,←List.drop_drop,←List.drop_drop] at r6
  rw[List.take_of_length_le (by simp;omega),←List.drop_drop,←List.drop_drop,←List.drop_drop,←List.drop_drop,←List.drop_drop] at r7
  simpa[Sh.enc] using VsRel.split (by omega) r1 (VsRel.split (by simp;omega) r2 (VsRel.split (by simp;omega) r3 (VsRel.split (by simp;omega) r4 (VsRel.split (by simp;omega) r5 (VsRel.split (by simp;omega) r6 r7)))))
 | @array4 t e a h _ ct c1 ih1=>
  intro fuel cs x hd
  obtain⟨xs,n,_,_,hl,hn,hf⟩:=DataW.trod_array h hd
  obtain⟨_,e1⟩:=one_field (by omega) (hf 0 (by decide))
  obtain⟨_,e2⟩:=one_field (by omega) (hf 1 (by decide))
  obtain⟨_,e3⟩:=one_field (by omega) (hf 2 (by decide))
  obtain⟨_,e4⟩:=one_field (by omega) (hf 3 (by decide))
  rw[Nat.zero_mul,List.drop_zero,c1] at e1
  rw[Nat.one_mul,c1] at e2
  rw[c1] at e3 e4
  obtain⟨y1,w1,l1,r1⟩:=ih1 e1
  obtain⟨y2,w2,l2,r2⟩:=ih1 e2
  obtain⟨y3,w3,l3,r3⟩:=ih1 e3
  obtain⟨y4,w4,l4,r4⟩:=ih1 e4
  rw[ct] at hl
  refine⟨(y1,y2,y3,y4,()),⟨w1,w2,w3,w4,trivial⟩,by simp[Sh.size,hl],?_⟩
  rw[show 2*a.size=a.size+a.size by omega,←List.drop_drop] at r3
  rw[List.take_of_length_le (by simp;omega),show 3*a.size=a.size+a.size+a.size by omega,←List.drop_drop,←List.drop_drop] at r4
  simpa[Sh.enc] using VsRel.split (by omega) r1 (VsRel.split (by simp;omega) r2 (VsRel.split (by simp;omega) r3 r4))
 | @array6 t e a h _ ct c1 ih1=>
  intro fuel cs x hd
  obtain⟨xs,n,_,_,hl,hn,hf⟩:=DataW.trod_array h hd
  obtain⟨_,e1⟩:=one_field (by omega) (hf 0 (by decide))
  obtain⟨_,e2⟩:=one_field (by omega) (hf 1 (by decide))
  obtain⟨_,e3⟩:=one_field (by omega) (hf 2 (by decide))
  obtain⟨_,e4⟩:=one_field (by omega) (hf 3 (by decide))
  obtain⟨_,e5⟩:=one_field (by omega) (hf 4 (by decide))
  obtain⟨_,e6⟩:=one_field (by omega) (hf 5 (by decide))
  rw[Nat.zero_mul,List.drop_zero,c1] at e1
  rw[Nat.one_mul,c1] at e2
  rw[c1] at e3 e4 e5 e6
  obtain⟨y1,w1,l1,r1⟩:=ih1 e1
  obtain⟨y2,w2,l2,r2⟩:=ih1 e2
  obtain⟨y3,w3,l3,r3⟩:=ih1 e3
  obtain⟨y4,w4,l4,r4⟩:=ih1 e4
  obtain⟨y5,w5,l5,r5⟩:=ih1 e5
  obtain⟨y6,w6,l6,r6⟩:=ih1 e6
  rw[ct] at hl
  refine⟨(y1,y2,y3,y4,y5,y6,()),⟨w1,w2,w3,w4,w5,w6,trivial⟩,by simp[Sh.size,hl],?_⟩
  rw[show 2*a.size=a.size+a.size by omega,←List.drop_drop] at r3
  rw[show 3*a.size=a.size+a.size+a.size by omega,←List.drop_drop,←List.drop_drop] at r4
  rw[show 4*a.size=a.size+a.size+a.size+a.size by omega,←List.drop_drop,←List.drop_drop,←List.drop_drop] at r5
  rw[List.take_of_length_le (by simp;omega),show 5*a.size=a.size+a.size+a.size+a.size+a.size by omega,←List.drop_drop,←List.drop_drop,←List.drop_drop,←List.drop_drop] at r6
  simpa[Sh.enc] using VsRel.split (by omega) r1 (VsRel.split (by simp;omega) r2 (VsRel.split (by simp;omega) r3 (VsRel.split (by simp;omega) r4 (VsRel.split (by simp;omega) r5 r6))))
 | @array2 t e a h _ ct c1 ih1=>
  intro fuel cs x hd
  obtain⟨xs,n,_,_,hl,hn,hf⟩:=DataW.trod_array h hd
  obtain⟨_,e1⟩:=one_field (by omega) (hf 0 (by decide))
  obtain⟨_,e2⟩:=one_field (by omega) (hf 1 (by decide))
  rw[Nat.zero_mul,List.drop_zero,c1] at e1
  rw[Nat.one_mul,c1] at e2
  obtain⟨y1,w1,l1,r1⟩:=ih1 e1
  obtain⟨y2,w2,l2,r2⟩:=ih1 e2
  rw[ct] at hl
  refine⟨(y1,y2,()),⟨w1,w2,trivial⟩,by simp[Sh.size,hl],?_⟩
  rw[List.take_of_length_le (by simp;omega)] at r2
  simpa[Sh.enc] using VsRel.split (by omega) r1 r2
theorem Is.arg {t:TypeId} {s:Sh} (hs:Is P t s) {r:Reach} {b0:Nat} {v:Value} {d:DataW H} {ps:List MemPlace} (hval:Value.okWide P W r b0 t v) (hd:DataW.Trod enc P W base spare held t v d ps) :
  ∃y:s.T,s.Wf y∧VRel (fun _=>none) (memOf W) (s.argV y) v:=by
 obtain⟨fuel,hd⟩:=hd
 have leaf:∀{x:V},VsRel (fun _=>none) (memOf W) [x] v.cells.toList→(∀cs,v≠.agg cs)→VRel (fun _=>none) (memOf W) x v:=fun {x} hx hn=>by
  obtain⟨v',h1,h2⟩:=hx.get (i:=0) (v:=x) rfl
  have:v.cells=#[v]:=by
   unfold Value.cells
   split
   ·rename_i cs;exact absurd rfl (hn cs)
   ·rfl
  rw[this] at h1
  cases h1
  exact h2
 have aggr:∀{l:List V} {cs:Array Value},v=.agg cs→VsRel (fun _=>none) (memOf W) l v.cells.toList→VRel (fun _=>none) (memOf W) (.agg l) v:=fun {l cs} hv hx=>by
  subst hv
  exact .agg (cs':=cs.toList) hx.1 hx.2
 obtain⟨y,hw,_,hr⟩:=hs.read hd
 refine⟨y,hw,?_⟩
 cases hs with
 | int h=>
  simp only[Value.okWide,h] at hval
  exact leaf hr (fun cs hc=>by subst hc;simp[Cell.okWide,Cell.ok,h] at hval)
 | bool h=>
  simp only[Value.okWide,h] at hval
  exact leaf hr (fun cs hc=>by subst hc;simp[Cell.okWide,Cell.ok,h] at hval)
 | slice h=>
  simp only[Value.okWide,h] at hval
  exact leaf hr (fun cs hc=>by subst hc;simp[Cell.okWide,Cell.ok,h] at hval)
 | struct1 h=>
  simp only[Value.okWide,h] at hval
  obtain⟨cs,hv,_⟩:=hval
  exact aggr hv hr
 | struct2 h=>
  simp only[Value.okWide,h] at hval
  obtain⟨cs,hv,_⟩:=hval
  exact aggr hv hr
 | struct3 h=>
  simp only[Value.okWide,h] at hval
  obtain⟨cs,hv,_⟩:=hval
  exact aggr hv hr
 | struct4 h=>
  simp only[Value.okWide,h] at hval
  obtain⟨cs,hv,_⟩:=hval
  exact aggr hv hr
 | struct5 h=>
  simp only[Value.okWide,h] at hval
  obtain⟨cs,hv,_⟩:=hval
  exact aggr hv hr
 | struct6 h=>
  simp only[Value.okWide,h] at hval
  obtain⟨cs,hv,_⟩:=hval
  exact aggr hv hr
 | struct7 h=>
  simp only[Value.okWide,h] at hval
  obtain⟨cs,hv,_⟩:=hval
  exact aggr hv hr
 | array4 h=>
  simp only[Value.okWide,h] at hval
  obtain⟨cs,hv,_⟩:=hval
  exact aggr hv hr
 | array6 h=>
  simp only[Value.okWide,h] at hval
  obtain⟨cs,hv,_⟩:=hval
  exact aggr hv hr
 | array2 h=>
  simp only[Value.okWide,h] at hval
  obtain⟨cs,hv,_⟩:=hval
  exact aggr hv hr
@[reducible] def ShsT:List Sh→Type
 | []=>Unit
 | s::r=>s.T×ShsT r
def ShsWf:(ss:List Sh)→ShsT ss→Prop
 | [],_=>True
 | s::r,x=>s.Wf x.1∧ShsWf r x.2
def argVs:(ss:List Sh)→ShsT ss→List V
 | [],_=>[]
 | s::r,x=>s.argV x.1::argVs r x.2
def AllIs (P:Program):List TypeId→List Sh→Prop
 | [],[]=>True
 | t::ts,s::ss=>Is P t s∧AllIs P ts ss
 | _,_=>False
theorem AllIs.args {r:Reach} {b0:Nat}:∀{ts:List TypeId} {ss:List Sh} (_:AllIs P ts ss) {vs:List Value} {ds:List (DataW H)} {p:List MemPlace}
  (_:∀(j:Nat) t v,ts[j]?=some t→vs[j]?=some v→Value.okWide P W r b0 t v) (_:DataW.TrodAll enc P W base spare held ts vs ds p),
  ∃y:ShsT ss,ShsWf ss y∧VsRel (fun _=>none) (memOf W) (argVs ss y) vs
 | [],[],_,[],[],_,_,_=>⟨(),trivial,.nil⟩
 | t::ts,s::ss,h,v::vs,d::ds,p,hv,hd=>by
  obtain⟨p1,p2,h1,h2,_⟩:=hd
  obtain⟨y,hw,hr⟩:=h.1.arg (hv 0 t v rfl rfl) h1
  obtain⟨z,hwz,hz⟩:=AllIs.args h.2 (fun j t v ht hvv=>hv (j+1) t v (by simpa using ht) (by simpa using hvv)) h2
  exact⟨(y,z),⟨hw,hwz⟩,.cons hr hz⟩
 | [],[],_,_::_,_,_,_,hd=>by cases hd
 | [],[],_,[],_::_,_,_,hd=>by cases hd
 | _::_,_::_,_,[],_,_,_,hd=>by cases hd
 | _::_,_::_,_,_::_,[],_,_,hd=>by cases hd
 | [],_::_,h,_,_,_,_,_=>by cases h
 | _::_,[],h,_,_,_,_,_=>by cases h
end
end Go.Vm
