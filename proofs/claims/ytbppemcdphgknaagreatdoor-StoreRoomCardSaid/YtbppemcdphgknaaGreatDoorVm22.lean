/- A part of the proofs over the seat YtbppemcdphgknaaGreatDoor. -/
import Derived.Test.YtbppemcdphgknaaGreatDoorVm21
import Derived.Laws.StructEq
import Derived.DeepKeys
import Derived.Laws.Externs
set_option linter.unusedVariables false
set_option linter.unusedSimpArgs false
namespace Go.Vm
open Go
set_option linter.unusedSimpArgs false
def kindsF (g:TypeId→Option (List (Option IntKind))) (P:Program) (c:Nat):Nat→List Field→Option (List (Option IntKind))
 | off,[]=>if off=c then some [] else none
 | off,f::r=>match g f.type with
  | some ks=>if f.name≠ "_"∧f.offset=off∧ks.length=P.cellsOf f.type then(kindsF g P c (off+ks.length) r).map fun r=>ks++r else none
  | none=>none
def kinds (P:Program):Nat→TypeId→Option (List (Option IntKind))
 | 0,_=>none
 | m+1,t=>match P.underlying t with
  | some .bool=>some [none]
  | some (.int k)=>some [some k]
  | some (.array n e)=>match kinds P m e with
   | some ks=>if ks.length=P.cellsOf e then some (List.replicate n ks).flatten else none
   | none=>none
  | some (.struct fs)=>if P.stoodInHeld t=false then kindsF (kinds P m) P (P.cellsOf t) 0 fs.toList else none
  | _=>none
def fitV:List Value→List (Option IntKind)→Bool
 | [],[]=>true
 | .int k _::a,some k'::b=>k==k'&&fitV a b
 | .bool _::a,none::b=>fitV a b
 | _,_=>false
def eqV:List Value→List Value→Bool
 | [],[]=>true
 | .int _ x::a,.int _ y::b=>x==y&&eqV a b
 | .bool x::a,.bool y::b=>x==y&&eqV a b
 | _,_=>false
theorem fitV_length:∀{xs:List Value} {ks:List (Option IntKind)},fitV xs ks=true→xs.length=ks.length
 | [],[],_=>rfl
 | x::a,k::b,h=>by
  unfold fitV at h
  split at h
  ·rename_i e _;cases e
  ·rename_i e1 e2;cases e1;cases e2
   simp only[Bool.and_eq_true] at h
   simp[fitV_length h.2]
  ·rename_i e1 e2;cases e1;cases e2
   simp[fitV_length h]
  ·cases h
 | [],_::_,h=>by simp[fitV] at h
 | _::_,[],h=>by simp[fitV] at h
theorem fitV_split:∀{k1 k2:List (Option IntKind)} {xs:List Value},fitV xs (k1++k2)=true→fitV (xs.take k1.length) k1=true∧fitV (xs.drop k1.length) k2=true
 | [],k2,xs,h=>⟨by simp[fitV],by simpa using h⟩
 | k::r,k2,[],h=>by simp[fitV] at h
 | k::r,k2,x::xs,h=>by
  rw[List.cons_append] at h
  unfold fitV at h
  split at h
  ·rename_i e _;cases e
  ·rename_i e1 e2;cases e1;cases e2
   simp only[Bool.and_eq_true] at h
   obtain⟨a,b⟩:=fitV_split h.2
   exact⟨by simp[fitV,h.1,a],by simpa using b⟩
  ·rename_i e1 e2;cases e1;cases e2
   obtain⟨a,b⟩:=fitV_split h
   exact⟨by simp[fitV,a],by simpa using b⟩
  ·cases h
theorem eqV_split:∀{ks:List (Option IntKind)} {xs ys:List Value} (n:Nat),fitV xs ks=true→fitV ys ks=true→eqV xs ys=(eqV (xs.take n) (ys.take n)&&eqV (xs.drop n) (ys.drop n))
 | ks,xs,ys,0,_,_=>by simp[eqV]
 | [],xs,ys,n+1,h1,h2=>by
  have:=fitV_length h1;have:=fitV_length h2
  cases xs<;>cases ys<;>simp_all [eqV]
 | k::ks,[],ys,n+1,h1,h2=>by simp[fitV] at h1
 | k::ks,_::_,[],n+1,h1,h2=>by simp[fitV] at h2
 | k::ks,x::xs,y::ys,n+1,h1,h2=>by
  cases k with
  | some k=>
   cases x<;>simp[fitV] at h1
   cases y<;>simp[fitV] at h2
   simp only[List.take_succ_cons,List.drop_succ_cons,eqV]
   rw[eqV_split n h1.2 h2.2,Bool.and_assoc]
  | none=>
   cases x<;>simp[fitV] at h1
   cases y<;>simp[fitV] at h2
   simp only[List.take_succ_cons,List.drop_succ_cons,eqV]
   rw[eqV_split n h1 h2,Bool.and_assoc]
section
variable {P:Program}
def aggT (P:Program) (t:TypeId):Bool:=match P.underlying t with
 | some (.struct _)|some (.array _ _)=>true
 | _=>false
def mkV (P:Program) (t:TypeId) (xs:List Value):Value:=if aggT P t then .agg xs.toArray else xs.headD undef
theorem kinds_underlying {m:Nat} {t:TypeId} {ks:List (Option IntKind)} (h:kinds P m t=some ks):∃d,P.underlying t=some d:=by
 cases m with
 | zero=>cases h
 | succ m=>
  unfold kinds at h
  cases hu:P.underlying t with
  | none=>rw[hu] at h;cases h
  | some d=>exact⟨d,rfl⟩
theorem run_part_kinds (w:World) {m:Nat} {e:TypeId} {ks:List (Option IntKind)} (hk:kinds P m e=some ks) (hl:ks.length=P.cellsOf e) {xs:Array Value} {off:Nat}
  (hf:fitV ((xs.toList.drop off).take (P.cellsOf e)) ks=true):(part e xs off).run P w=.ok (mkV P e ((xs.toList.drop off).take (P.cellsOf e))) w:=by
 obtain⟨d,hu⟩:=kinds_underlying hk
 obtain⟨i,hi⟩:=info_of_underlying hu
 have hag:(∃fs,d=.struct fs)∨(∃n e',d=.array n e')∨(aggT P e=false∧(isAgg e).run P w=.ok false w∧∃k,ks=[k]):=by
  cases m with
  | zero=>cases hk
  | succ m=>
   unfold kinds at hk
   rw[hu] at hk
   cases d<;>simp at hk
   ·exact .inr (.inr ⟨by simp[aggT,hu],by simp[isAgg,run_underlying hu],_,hk.symm⟩)
   ·exact .inr (.inr ⟨by simp[aggT,hu],by simp[isAgg,run_underlying hu],_,hk.symm⟩)
   ·exact .inr (.inl ⟨_,_,rfl⟩)
   ·exact .inl ⟨_,rfl⟩
 have ext:(xs.extract off (off+P.cellsOf e))=((xs.toList.drop off).take (P.cellsOf e)).toArray:=by
  apply Array.toList_inj.1
  rw[Array.toList_extract]
  simp[List.extract]
 rcases hag with⟨fs,rfl⟩|⟨n,e',rfl⟩|⟨h1,h2,k,rfl⟩
 ·simp[part,isAgg,run_underlying hu,run_sizeOf w hi,mkV,aggT,hu,ext]
 ·simp[part,isAgg,run_underlying hu,run_sizeOf w hi,mkV,aggT,hu,ext]
 ·have hc:P.cellsOf e=1:=by rw[←hl];rfl
  rw[hc] at hf ⊢
  obtain⟨v,hv⟩:∃v,(xs.toList.drop off).take 1=[v]:=by
   have:=fitV_length hf
   match hh:(xs.toList.drop off).take 1,this with
   | [v],_=>exact⟨v,rfl⟩
  have hx:xs[off]?=some v:=by
   rw[←Array.getElem?_toList]
   have:=congrArg (fun l=>l[0]?) hv
   simpa using this
  simp[part,h2,hx,mkV,h1,hv]
theorem run_fields_kinds (w:World) (d:Nat) {m c:Nat} (IH:∀(t:TypeId) (ks:List (Option IntKind)),kinds P m t=some ks→∀xs ys,fitV xs ks=true→fitV ys ks=true→
  (Op.equalIn d t (mkV P t xs) (mkV P t ys)).run P w=.ok (eqV xs ys) w):∀(fs:List Field) (off:Nat) (ks:List (Option IntKind)),kindsF (kinds P m) P c off fs=some ks→∀xs ys:Array Value,
  fitV (xs.toList.drop off) ks=true→fitV (ys.toList.drop off) ks=true→(Op.eqFields d xs ys fs).run P w=.ok (eqV (xs.toList.drop off) (ys.toList.drop off)) w
 | [],off,ks,hk,xs,ys,hx,hy=>by
  unfold kindsF at hk
  split at hk
  ·cases hk
   have h1:=fitV_length hx
   have h2:=fitV_length hy
   have e1:xs.toList.drop off=[]:=List.eq_nil_of_length_eq_zero h1
   have e2:ys.toList.drop off=[]:=List.eq_nil_of_length_eq_zero h2
   rw[e1,e2]
   rfl
  ·cases hk
 | f::fs,off,ks,hk,xs,ys,hx,hy=>by
  unfold kindsF at hk
  cases hg:kinds P m f.type with
  | none=>rw[hg] at hk;cases hk
  | some kf=>
   rw[hg] at hk
   simp only at hk
   split at hk
   ·rename_i hc
    obtain⟨hn,rfl,hl⟩:=hc
    rw[Option.map_eq_some_iff] at hk
    obtain⟨kr,hr,rfl⟩:=hk
    obtain⟨x1,x2⟩:=fitV_split hx
    obtain⟨y1,y2⟩:=fitV_split hy
    rw[List.drop_drop] at x2 y2
    have p1:=run_part_kinds w hg hl (xs:=xs) (off:=f.offset) (by rw[←hl];exact x1)
    have p2:=run_part_kinds w hg hl (xs:=ys) (off:=f.offset) (by rw[←hl];exact y1)
    have p3:=IH f.type kf hg _ _ x1 y1
    rw[←hl] at p1 p2
    have p4:=run_fields_kinds w d IH fs _ kr hr xs ys x2 y2
    rw[eqV_split kf.length hx hy,List.drop_drop,List.drop_drop]
    simp only[Op.eqFields,hn,ne_eq,not_false_eq_true,if_true,Sem.run_bind,p1,p2,p3,Result.andThen_ok]
    cases eqV (List.take kf.length (List.drop f.offset xs.toList)) (List.take kf.length (List.drop f.offset ys.toList)) with
    | false=>simp
    | true=>simpa using p4
   ·cases hk
theorem run_items_kinds (w:World) (d:Nat) {m:Nat} {e:TypeId} {ks:List (Option IntKind)} (hk:kinds P m e=some ks) (hl:ks.length=P.cellsOf e)
  (IH:∀xs ys,fitV xs ks=true→fitV ys ks=true→(Op.equalIn d e (mkV P e xs) (mkV P e ys)).run P w=.ok (eqV xs ys) w):∀(n k:Nat) (xs ys:Array Value),
  fitV (xs.toList.drop (k*P.cellsOf e)) (List.replicate n ks).flatten=true→fitV (ys.toList.drop (k*P.cellsOf e)) (List.replicate n ks).flatten=true→
  (Op.eqItems d e (P.cellsOf e) xs ys (List.range' k n)).run P w=.ok (eqV (xs.toList.drop (k*P.cellsOf e)) (ys.toList.drop (k*P.cellsOf e))) w
 | 0,k,xs,ys,hx,hy=>by
  have e1:=List.eq_nil_of_length_eq_zero (fitV_length hx)
  have e2:=List.eq_nil_of_length_eq_zero (fitV_length hy)
  rw[e1,e2]
  rfl
 | n+1,k,xs,ys,hx,hy=>by
  rw[List.replicate_succ,List.flatten_cons] at hx hy
  obtain⟨x1,x2⟩:=fitV_split hx
  obtain⟨y1,y2⟩:=fitV_split hy
  rw[List.drop_drop] at x2 y2
  have hs:k*P.cellsOf e+ks.length=(k+1)*P.cellsOf e:=by rw[hl,Nat.succ_mul]
  have p1:=run_part_kinds w hk hl (xs:=xs) (off:=k*P.cellsOf e) (by rw[hl] at x1;exact x1)
  have p2:=run_part_kinds w hk hl (xs:=ys) (off:=k*P.cellsOf e) (by rw[hl] at y1;exact y1)
  have q1:List.take (P.cellsOf e) (List.drop (k*P.cellsOf e) xs.toList)=List.take ks.length (List.drop (k*P.cellsOf e) xs.toList):=by rw[hl]
  have q2:List.take (P.cellsOf e) (List.drop (k*P.cellsOf e) ys.toList)=List.take ks.length (List.drop (k*P.cellsOf e) ys.toList):=by rw[hl]
  rw[q1] at p1
  rw[q2] at p2
  have p3:=IH _ _ x1 y1
  have p4:=run_items_kinds w d hk hl IH n (k+1) xs ys (by rw[←hs];exact x2) (by rw[←hs];exact y2)
  rw[eqV_split ks.length hx hy,List.drop_drop,List.drop_drop,hs,List.range'_succ]
  simp only[Op.eqItems,Sem.run_bind,p1,p2,Result.andThen_ok,p3]
  cases eqV (List.take ks.length (List.drop (k*P.cellsOf e) xs.toList)) (List.take ks.length (List.drop (k*P.cellsOf e) ys.toList)) with
  | false=>simp
  | true=>simpa using p4
theorem run_equalIn_kinds (w:World) (d:Nat):∀(m:Nat) (t:TypeId) (ks:List (Option IntKind)),kinds P m t=some ks→∀xs ys,fitV xs ks=true→fitV ys ks=true→
  (Op.equalIn (d+m) t (mkV P t xs) (mkV P t ys)).run P w=.ok (eqV xs ys) w
 | 0,_,_,h,_,_,_,_=>by cases h
 | m+1,t,ks,hk,xs,ys,hx,hy=>by
  have hk0:=hk
  unfold kinds at hk
  cases hu:P.underlying t with
  | none=>rw[hu] at hk;cases hk
  | some dd=>
   rw[hu] at hk
   cases dd<;>simp only[Option.some.injEq,reduceCtorEq] at hk
   ·subst hk
    have l1:=fitV_length hx;have l2:=fitV_length hy
    match xs,ys,l1,l2 with
    | [x],[y],_,_=>
     cases x<;>simp[fitV] at hx
     cases y<;>simp[fitV] at hy
     simp only[mkV,aggT,hu,Bool.false_eq_true,if_false,List.headD_cons,eqV,Bool.and_true]
     exact run_equalIn_bool w (d+m) t _ _ hu
   ·subst hk
    have l1:=fitV_length hx;have l2:=fitV_length hy
    match xs,ys,l1,l2 with
    | [x],[y],_,_=>
     cases x<;>simp[fitV] at hx
     cases y<;>simp[fitV] at hy
     subst hx;subst hy
     simp only[mkV,aggT,hu,Bool.false_eq_true,if_false,List.headD_cons,eqV,Bool.and_true]
     exact run_equalIn_int w (d+m) t _ _ _ _ hu
   ·rename_i n e
    cases hg:kinds P m e with
    | none=>rw[hg] at hk;cases hk
    | some ke=>
     rw[hg] at hk
     simp only at hk
     split at hk
     ·rename_i hl
      cases hk
      obtain⟨d',hue⟩:=kinds_underlying hg
      obtain⟨i,hi⟩:=info_of_underlying hue
      simp only[mkV,aggT,hu,if_true]
      rw[show d+(m+1)=(d+m)+1 from rfl,run_equalIn_array w (d+m) _ _ hu hi,List.range_eq_range']
      have:=run_items_kinds w (d+m) hg hl (fun xs ys h1 h2=>run_equalIn_kinds w d m e ke hg xs ys h1 h2) n 0 xs.toArray ys.toArray (by simpa using hx) (by simpa using hy)
      simpa using this
     ·cases hk
   ·rename_i fs
    split at hk
    ·rename_i hst
     have hfs:P.fieldsOf t=fs:=by simp[Program.fieldsOf,hu]
     simp only[mkV,aggT,hu,if_true]
     rw[show d+(m+1)=(d+m)+1 from rfl,run_equalIn_struct w (d+m) t _ _ (by rw[hfs];exact hu) hst,hfs]
     have:=run_fields_kinds w (d+m) (fun t ks h xs ys h1 h2=>run_equalIn_kinds w d m t ks h xs ys h1 h2) fs.toList 0 ks hk xs.toArray ys.toArray (by simpa using hx) (by simpa using hy)
     simpa using this
    ·cases hk
end
def fitK:List V→List (Option IntKind)→Bool
 | [],[]=>true
 | .int k _::a,some k'::b=>k==k'&&fitK a b
 | .bool _::a,none::b=>fitK a b
 | _,_=>false
theorem fitsZ_K:∀{xs zs:List V} {ks:List (Option IntKind)},fitsZ xs zs=true→fitK zs ks=true→fitK xs ks=true
 | [],[],ks,_,h=>h
 | x::xs,z::zs,ks,h1,h2=>by
  cases ks with
  | nil=>cases z<;>simp[fitK] at h2
  | cons k ks=>
   cases z<;>cases k<;>simp[fitK] at h2<;>cases x<;>simp[fitsZ] at h1
   ·obtain⟨rfl,h1⟩:=h1
    obtain⟨rfl,h2⟩:=h2
    simp[fitK,fitsZ_K h1 h2]
   ·simp[fitK,fitsZ_K h1 h2]
 | [],_::_,_,h,_=>by simp[fitsZ] at h
 | _::_,[],_,h,_=>by simp[fitsZ] at h
theorem veqs_fit:∀{xs ys:List V} {ks:List (Option IntKind)} {r:Bool},fitK xs ks=true→veqs xs ys=some r→fitK ys ks=true
 | [],[],ks,_,h,_=>h
 | x::xs,y::ys,ks,r,h1,h2=>by
  cases ks with
  | nil=>cases x<;>simp[fitK] at h1
  | cons k ks=>
   cases x<;>cases k<;>simp[fitK] at h1<;>cases y<;>(try(simp[veqs] at h2;done))<;>simp only[veqs] at h2
   ·split at h2
    ·rename_i hk
     simp only[beq_iff_eq] at hk
     subst hk
     rw[Option.map_eq_some_iff] at h2
     obtain⟨r',h2,_⟩:=h2
     simp[fitK,h1.1,veqs_fit h1.2 h2]
    ·cases h2
   ·rw[Option.map_eq_some_iff] at h2
    obtain⟨r',h2,_⟩:=h2
    simp[fitK,veqs_fit h1 h2]
 | [],_::_,_,_,_,h=>by simp[veqs] at h
 | x::_,[],_,_,_,h=>by cases x<;>simp[veqs] at h
theorem fit_rel {ρ:Rho} {M:Mem}:∀{xs:List V} {ks:List (Option IntKind)} {xs':List Value},fitK xs ks=true→VsRel ρ M xs xs'→fitV xs' ks=true
 | [],ks,xs',h,hv=>by
  obtain rfl:=hv.nil_inv
  cases ks<;>simp_all [fitK,fitV]
 | x::xs,ks,xs',h,hv=>by
  obtain⟨v',r,rfl,h1,h2⟩:=hv.uncons
  cases ks with
  | nil=>cases x<;>simp[fitK] at h
  | cons k ks=>
   cases x<;>cases k<;>simp[fitK] at h
   ·cases h1;simp[fitV,h.1,fit_rel h.2 h2]
   ·cases h1;simp[fitV,fit_rel h h2]
theorem veqs_rel {ρ:Rho} {M:Mem}:∀{xs ys:List V} {r:Bool} {xs' ys':List Value},VsRel ρ M xs xs'→VsRel ρ M ys ys'→veqs xs ys=some r→eqV xs' ys'=r
 | [],[],r,xs',ys',h1,h2,h=>by
  obtain rfl:=h1.nil_inv
  obtain rfl:=h2.nil_inv
  simp[veqs] at h
  simp[eqV,h]
 | x::xs,y::ys,r,xs',ys',h1,h2,h=>by
  obtain⟨v1,r1,rfl,a1,b1⟩:=h1.uncons
  obtain⟨v2,r2,rfl,a2,b2⟩:=h2.uncons
  cases x<;>cases y<;>(try(simp[veqs] at h;done))<;>simp only[veqs] at h
  ·split at h
   ·rw[Option.map_eq_some_iff] at h
    obtain⟨q,hq,rfl⟩:=h
    cases a1;cases a2
    simp[eqV,veqs_rel b1 b2 hq]
   ·cases h
  ·rw[Option.map_eq_some_iff] at h
   obtain⟨q,hq,rfl⟩:=h
   cases a1;cases a2
   simp[eqV,veqs_rel b1 b2 hq]
 | [],y::ys,_,_,_,_,_,h=>by simp[veqs] at h
 | x::_,[],_,_,_,_,_,h=>by cases x<;>simp[veqs] at h
def flatB (P:Program) (T:TT) (t:TypeId):Bool:=match kinds P 100 t with
 | some ks=>fitK (T.at t).zero ks&&(aggT P t && !P.eqGuardType P.depth t)
 | none=>false
theorem flatB_ok {P:Program} {T:TT} {t:TypeId} (h:flatB P T t=true):FlatOk P T t:=by
 unfold flatB at h
 split at h
 ·rename_i ks hk
  simp only[Bool.and_eq_true,Bool.not_eq_true'] at h
  obtain⟨h1,h2,h3⟩:=h
  refine⟨h3,fun ρ M xs ys xs' ys' r hx hy hf hv w=>?_⟩
  have kx:=fitsZ_K hf h1
  have ky:=veqs_fit kx hv
  have:=run_equalIn_kinds w 9900 100 t ks hk xs' ys' (fit_rel kx hx) (fit_rel ky hy)
  rw[veqs_rel hx hy hv] at this
  simp only[mkV,h2,if_true] at this
  exact this
 ·cases h
theorem FOk.of_list {P:Program} {T:TT} (l:List TypeId) (h:l.all (flatB P T)=true):FOk P T fun t=>l.contains t:=fun t ht=>
 flatB_ok (List.all_eq_true.1 h t (by simpa using ht))
end Go.Vm
