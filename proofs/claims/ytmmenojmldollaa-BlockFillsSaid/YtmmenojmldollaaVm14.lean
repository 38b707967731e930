/- The machine 'Vm', part 14: operations with calls, regions in the order of the text, code. -/
import Derived.Test.YtmmenojmldollaaVm13a
set_option linter.unusedVariables false
set_option linter.unusedSimpArgs false
namespace Go.Vm
open Go

variable {P : Program} {T : TT} {A : Type} {R : Rep A} {E : Env} {st : St A} {ρ : Rho} {M : Mem} {S : Name → List Nat} {a : Act} {w : World} {ns : List Name} {flat : Nat → Bool} {G : Nat → V}

abbrev Objs (A : Type) := List (Name × Option (Ob A))

universe u
/-- By a truth value. -/
def bcase {β : Sort u} (b : Bool) (x y : β) : β := match b with
  | true => x
  | false => y
theorem bcase_of {b : Bool} {X Y : Prop} (h : b = true → X) (h' : b = false → Y) : bcase b X Y := by
  cases b
  · exact h' rfl
  · exact h rfl
/-- A cell, its constructor reckoned out. -/
def forceC {β : Sort u} (v : V) (k : V → β) : β := match v with
  | .agg cs => k (.agg cs)
  | .tup cs => k (.tup cs)
  | .undef => k .undef
  | .int x n => k (.int x n)
  | .bool b => bcase b (k (.bool true)) (k (.bool false))
  | .nilp => k .nilp
  | .nils => k .nils
  | .ref n o => k (.ref n o)
  | .rpt n z i j => k (.rpt n z i j)
  | .rsl n z i l => k (.rsl n z i l)
  | .asl n z o l c => k (.asl n z o l c)
  | .lst z es => k (.lst z es)
  | .lpt z es i j => k (.lpt z es i j)
  | .fn f => k (.fn f)
theorem forceC_eq {β : Sort u} (v : V) (k : V → β) : forceC v k = k v := by
  unfold forceC
  split <;> try rfl
  rename_i b
  cases b <;> rfl

/-- The like, but a truth value stays as it is. -/
def forceD {β : Sort u} (v : V) (k : V → β) : β := match v with
  | .agg cs => k (.agg cs)
  | .tup cs => k (.tup cs)
  | .undef => k .undef
  | .int x n => k (.int x n)
  | .bool b => k (.bool b)
  | .nilp => k .nilp
  | .nils => k .nils
  | .ref n o => k (.ref n o)
  | .rpt n z i j => k (.rpt n z i j)
  | .rsl n z i l => k (.rsl n z i l)
  | .asl n z o l c => k (.asl n z o l c)
  | .lst z es => k (.lst z es)
  | .lpt z es i j => k (.lpt z es i j)
  | .fn f => k (.fn f)
theorem forceD_eq {β : Sort u} (v : V) (k : V → β) : forceD v k = k v := by
  unfold forceD
  split <;> rfl

noncomputable def forceCs {β : Sort u} (l : List V) (k : List V → β) : β := List.rec (motive := fun _ => (List V → β) → β) (fun k => k []) (fun v _ ih k => forceD v fun v => ih fun r => k (v :: r)) l k
theorem forceCs_eq {β : Sort u} : ∀ (l : List V) (k : List V → β), forceCs l k = k l
  | [], _ => rfl
  | v :: r, k => (forceD_eq v fun v => forceCs r fun r => k (v :: r)).trans (forceCs_eq r _)

/-- A value without tuples. -/
noncomputable def forceG {β : Sort u} (v : V) (k : V → β) : β := match v with
  | .agg cs => forceCs cs fun cs => k (.agg cs)
  | v => forceC v k
theorem forceG_eq {β : Sort u} (v : V) (k : V → β) : forceG v k = k v := by
  unfold forceG
  split
  · exact forceCs_eq _ _
  · exact forceC_eq _ _

noncomputable def forceGs {β : Sort u} (l : List V) (k : List V → β) : β := List.rec (motive := fun _ => (List V → β) → β) (fun k => k []) (fun v _ ih k => forceG v fun v => ih fun r => k (v :: r)) l k
theorem forceGs_eq {β : Sort u} : ∀ (l : List V) (k : List V → β), forceGs l k = k l
  | [], _ => rfl
  | v :: r, k => (forceG_eq v fun v => forceGs r fun r => k (v :: r)).trans (forceGs_eq r _)

/-- A value, its parts reckoned out. -/
noncomputable def forceV {β : Sort u} (v : V) (k : V → β) : β := match v with
  | .agg cs => forceCs cs fun cs => k (.agg cs)
  | .tup vs => forceGs vs fun vs => k (.tup vs)
  | v => forceC v k
theorem forceV_eq {β : Sort u} (v : V) (k : V → β) : forceV v k = k v := by
  unfold forceV
  split
  · exact forceCs_eq _ _
  · exact forceGs_eq _ _
  · exact forceC_eq _ _
noncomputable def forceVs {β : Sort u} (l : List V) (k : List V → β) : β := List.rec (motive := fun _ => (List V → β) → β) (fun k => k []) (fun v _ ih k => forceV v fun v => ih fun r => k (v :: r)) l k
theorem forceVs_eq {β : Sort u} : ∀ (l : List V) (k : List V → β), forceVs l k = k l
  | [], _ => rfl
  | v :: r, k => (forceV_eq v fun v => forceVs r fun r => k (v :: r)).trans (forceVs_eq r _)

/-- A list with another element at a place, reckoned out. -/
noncomputable def lsetK {α : Type} {β : Sort u} (l : List α) (n : Nat) (v : α) (k : List α → β) : β :=
  List.rec (motive := fun _ => Nat → (List α → β) → β) (fun _ k => k []) (fun x r ih n k => Nat.rec (motive := fun _ => β) (k (v :: r)) (fun n _ => ih n fun r => k (x :: r)) n) l n k
theorem lsetK_eq {α : Type} {β : Sort u} : ∀ (l : List α) (n : Nat) (v : α) (k : List α → β), lsetK l n v k = k (lset l n v)
  | [], _, _, _ => rfl
  | _ :: _, 0, _, _ => rfl
  | _ :: r, n + 1, v, _ => lsetK_eq r n v _

noncomputable def forceEs {β : Sort u} (l : List (List V)) (k : List (List V) → β) : β := List.rec (motive := fun _ => (List (List V) → β) → β) (fun k => k []) (fun v _ ih k => forceCs v fun v => ih fun r => k (v :: r)) l k
theorem forceEs_eq {β : Sort u} : ∀ (l : List (List V)) (k : List (List V) → β), forceEs l k = k l
  | [], _ => rfl
  | v :: r, k => (forceCs_eq v fun v => forceEs r fun r => k (v :: r)).trans (forceEs_eq r _)

/-- A small number reckoned out. -/
def forceN {β : Sort u} (n : Nat) (k : Nat → β) : β := match n with
  | 0 => k 0
  | 1 => k 1
  | 2 => k 2
  | 3 => k 3
  | 4 => k 4
  | n => k n
theorem forceN_eq {β : Sort u} (n : Nat) (k : Nat → β) : forceN n k = k n := by unfold forceN; split <;> rfl

noncomputable def forceOb {β : Sort u} (o : Option (Ob A)) (k : Option (Ob A) → β) : β := match o with
  | none => k none
  | some (.box cs) => forceCs cs fun cs => k (some (.box cs))
  | some (.row z es f) => k (some (.row z es f))
  | some (.abs x) => k (some (.abs x))
theorem forceOb_eq {β : Sort u} (o : Option (Ob A)) (k : Option (Ob A) → β) : forceOb o k = k o := by
  unfold forceOb
  split <;> first | rfl | exact forceCs_eq _ _

noncomputable def forceO (l : List (Nat × Option (Ob A))) (k : List (Nat × Option (Ob A)) → Prop) : Prop :=
  List.rec (motive := fun _ => (List (Nat × Option (Ob A)) → Prop) → Prop) (fun k => k []) (fun x _ ih k => forceN x.1 fun g => forceOb x.2 fun o => ih fun r => k ((g, o) :: r)) l k
theorem forceO_eq : ∀ (l : List (Nat × Option (Ob A))) (k : List (Nat × Option (Ob A)) → Prop), forceO l k = k l
  | [], _ => rfl
  | x :: r, k => by
    show (forceN x.1 fun g => forceOb x.2 fun o => forceO r fun r => k ((g, o) :: r)) = _
    rw [forceN_eq, forceOb_eq, forceO_eq]

noncomputable def forceA (l : List (Option (Ob A))) (k : List (Option (Ob A)) → Prop) : Prop :=
  List.rec (motive := fun _ => (List (Option (Ob A)) → Prop) → Prop) (fun k => k []) (fun x _ ih k => forceOb x fun o => ih fun r => k (o :: r)) l k
theorem forceA_eq : ∀ (l : List (Option (Ob A))) (k : List (Option (Ob A)) → Prop), forceA l k = k l
  | [], _ => rfl
  | x :: r, k => by
    show (forceOb x fun o => forceA r fun r => k (o :: r)) = _
    rw [forceOb_eq, forceA_eq]

noncomputable def forceSt (st : St A) (k : St A → Prop) : Prop := match st with
  | ⟨t, o, a⟩ => forceVs t fun t => forceO o fun o => forceA a fun a => k ⟨t, o, a⟩
theorem forceSt_eq (st : St A) (k : St A → Prop) : forceSt st k = k st := by cases st; rw [forceSt, forceVs_eq, forceO_eq, forceA_eq]

noncomputable def setObK (st : St A) (n : Name) (o : Option (Ob A)) (k : St A → Prop) : Prop := forceOb o fun o => match st, n with
  | ⟨t, p, a⟩, (0, i) => lsetK a i o fun l => k ⟨t, p, l⟩
  | ⟨t, p, a⟩, (s + 1, g) => lsetK p s (g, o) fun l => k ⟨t, l, a⟩
theorem setObK_eq (st : St A) (n : Name) (o : Option (Ob A)) (k : St A → Prop) : setObK st n o k = k (st.setOb n o) := by
  unfold setObK St.setOb
  rw [forceOb_eq]
  split
  · rw [lsetK_eq]
  · rw [lsetK_eq]

noncomputable def setObsK (l : Objs A) (st : St A) (k : St A → Prop) : Prop :=
  List.rec (motive := fun _ => St A → (St A → Prop) → Prop) (fun st k => k st) (fun x _ ih st k => setObK st x.1 x.2 fun st => ih st k) l st k
theorem setObsK_eq : ∀ (l : Objs A) (st : St A) (k : St A → Prop), setObsK l st k = k (l.foldl (fun s x => s.setOb x.1 x.2) st)
  | [], _, _ => rfl
  | x :: r, st, k => (setObK_eq st x.1 x.2 fun st => setObsK r st k).trans (setObsK_eq r _ k)

/-- The state behind an operation, reckoned out. -/
noncomputable def appK (st : St A) (dst : Option Tmp) (e : Eff A) (k : St A → Prop) : Prop := setObsK e.objs st fun st => match st, dst with
  | ⟨t, p, a⟩, some d => forceV e.dst fun v => lsetK t d v fun l => k ⟨l, p, a⟩
  | ⟨t, p, a⟩, none => k ⟨t, p, a⟩
theorem appK_eq (st : St A) (dst : Option Tmp) (e : Eff A) (k : St A → Prop) : appK st dst e k = k (st.app dst e) := by
  unfold appK St.app
  rw [setObsK_eq]
  generalize List.foldl (fun s x => St.setOb s x.1 x.2) st e.objs = s
  obtain ⟨t, p, a⟩ := s
  cases dst with
  | some d => simp only [forceV_eq, lsetK_eq, St.put]
  | none => rfl

noncomputable def putK (st : St A) (dst : Option Tmp) (v : V) (k : St A → Prop) : Prop := match st, dst with
  | ⟨t, p, a⟩, some d => lsetK t d v fun l => k ⟨l, p, a⟩
  | ⟨t, p, a⟩, none => k ⟨t, p, a⟩
theorem putK_eq (st : St A) (dst : Option Tmp) (v : V) (k : St A → Prop) : putK st dst v k = k (st.put dst v) := by
  unfold putK St.put
  split
  · rw [lsetK_eq]
  · rfl

/-- An operation whose operands are reckoned out first. -/
noncomputable def vopF (T : TT) (flat : Nat → Bool) (d : Name) (ev : Operand → V) (o : Oper) : Rd A (Eff A) :=
  match o.op with
  | .store t p x => forceV (ev p) fun p => forceV (ev x) fun x => (vstore (T.at t) p x).bind fun l => .ret { dst := .undef, objs := l }
  | .buildSlice t len ps => match (T.at t).kind with
    | .slice e => .when (decide (len * (T.at e).size ≤ 16777216) && !((T.at e).size == 0)) ((vrowOf (T.at e).zero (List.replicate len (T.at e).zero) (ps.toList.map fun p => (p.1, ev p.2))).bind fun es =>
      forceEs es fun es => forceN (T.at e).size fun z => .ret { dst := .rsl d z 0 len, objs := [(d, some (.row z es false))] })
    | _ => .fail
  | .call c => match c.callee, c.args.toList, c.argTypes.toList with
    | .builtin .append, [s, x], [t, u] => match (T.at t).kind, (T.at u).kind with
      | .slice e, .slice _ => .when (!((T.at e).size == 0) && t == u) <| forceV (ev s) fun s => forceV (ev x) fun x => (vappend d (T.at e) s x).bind fun r => .ret { dst := r.1, objs := r.2 }
      | _, _ => .fail
    | _, _, _ => vop T flat d ev o
  | _ => vop T flat d ev o

theorem vopF_eq (T : TT) (flat : Nat → Bool) (d : Name) (ev : Operand → V) (o : Oper) : vopF T flat d ev o = (vop T flat d ev o : Rd A (Eff A)) := by
  unfold vopF
  split
  · rename_i h; simp only [forceV_eq, vop, h]
  · rename_i h; simp only [forceEs_eq, forceN_eq, vop, h]; split <;> (rename_i hk; simp only [hk])
  · rename_i h
    split
    · rename_i h1 h2 h3; simp only [forceV_eq, vop, h, h1, h2, h3]; split <;> simp_all only
    · rfl
  · rfl

/-- What an operation comes to, at a slot, its name reckoned out first. -/
noncomputable def vstepF (T : TT) (flat : Nat → Bool) (G : Nat → V) (st : St A) (o : Oper) : Rd A (Eff A) :=
  match o.dst with
  | some s => match lget st.objs s with
    | some p => forceN (p.1 + 1) fun g => vopF T flat (s + 1, g) (evV G st) o
    | none => .fail
  | none => match o.op with
    | .store _ _ _ => vopF T flat (0, 0) (evV G st) o
    | .call c => match c.callee with
      | .builtin .copy => vopF T flat (0, 0) (evV G st) o
      | _ => .fail
    | _ => .fail

theorem vstepF_eq (T : TT) (flat : Nat → Bool) (G : Nat → V) (st : St A) (o : Oper) : vstepF T flat G st o = vstep T flat G st o := by
  unfold vstepF vstep
  simp only [forceN_eq, vopF_eq]
  rfl


/-- An argument as a value that names no row: the row stays from now on as it is. -/
noncomputable def snapc : V → Rd A (V × Objs A)
  | .rsl n sz i len => .look n fun
    | .row sz' es _ => .when (sz == sz') (.need (i + len ≤ es.length) (.ret (.lst sz ((es.drop i).take len), [(n, some (.row sz es true))])))
    | _ => .fail
  | v => .ret (v, [])

noncomputable def snaps (l : List V) : Rd A (List V × Objs A) :=
  List.rec (motive := fun _ => Rd A (List V × Objs A)) (.ret ([], [])) (fun v _ ih => (snapc v).bind fun x => ih.bind fun y => .ret (x.1 :: y.1, x.2 ++ y.2)) l
theorem snaps_cons (v : V) (r : List V) : (snaps (v :: r) : Rd A (List V × Objs A)) = (snapc v).bind fun x => (snaps r).bind fun y => .ret (x.1 :: y.1, x.2 ++ y.2) := rfl

noncomputable def snap : V → Rd A (V × Objs A)
  | .agg cs => (snaps cs).bind fun x => .ret (.agg x.1, x.2)
  | .tup cs => (snaps cs).bind fun x => .ret (.tup x.1, x.2)
  | v => snapc v

noncomputable def snapAll (l : List V) : Rd A (List V × Objs A) :=
  List.rec (motive := fun _ => Rd A (List V × Objs A)) (.ret ([], [])) (fun v _ ih => (snap v).bind fun x => ih.bind fun y => .ret (x.1 :: y.1, x.2 ++ y.2)) l
theorem snapAll_cons (v : V) (r : List V) : (snapAll (v :: r) : Rd A (List V × Objs A)) = (snap v).bind fun x => (snapAll r).bind fun y => .ret (x.1 :: y.1, x.2 ++ y.2) := rfl


/-- Rows are as they were, but for the mark. -/
def SameRows (st st' : St A) : Prop := ∀ n sz es fz, st.get n = some (.row sz es fz) → ∃ fz', st'.get n = some (.row sz es fz')

theorem SameRows.refl (st : St A) : SameRows st st := fun _ _ _ fz h => ⟨fz, h⟩
theorem SameRows.freeze {st st' : St A} (h : SameRows st st') {n : Name} {sz : Nat} {es : List (List V)} {fz : Bool} (hn : st'.get n = some (.row sz es fz)) : SameRows st (st'.setOb n (some (.row sz es true))) := by
  intro n' sz' es' fz' h'
  obtain ⟨f2, h2⟩ := h n' sz' es' fz' h'
  by_cases e : n' = n
  · subst e
    rw [hn] at h2; cases h2
    obtain ⟨n1, g⟩ := n'
    cases n1 with
    | zero =>
      have hlt : g < st'.arena.length := by
        simp only [St.get] at hn
        split at hn
        · rename_i x hx; exact (List.getElem?_eq_some_iff.1 hx).1
        · cases hn
      exact ⟨true, by simp [St.get, St.setOb, lset_eq, hlt]⟩
    | succ s =>
      have hs := St.get_slot_gen hn
      exact ⟨true, by rw [St.get_setOb_slot hs]; simp⟩
  · obtain ⟨n1, g⟩ := n
    cases n1 with
    | zero =>
      obtain ⟨m1, m2⟩ := n'
      cases m1 with
      | zero =>
        have hne : ¬ g = m2 := fun e' => e (by rw [e'])
        refine ⟨f2, ?_⟩
        simp only [St.get, St.setOb, lset_eq] at h2 ⊢
        rw [List.getElem?_set_ne hne]; exact h2
      | succ m => exact ⟨f2, h2⟩
    | succ s =>
      have hs := St.get_slot_gen hn
      refine ⟨f2, ?_⟩
      rw [St.get_setOb_slot hs]
      by_cases h1 : n'.1 = s + 1
      · exfalso
        have : n'.2 = g := by
          obtain ⟨m1, m2⟩ := n'
          simp only at h1; subst h1
          have := St.get_slot_gen h2
          rw [hs] at this; cases this; rfl
        exact e (Prod.ext h1 this)
      · rw [if_neg h1]; exact h2

theorem snapc_sound {st₀ : St A} (hsr : SameRows st₀ st) (h : Rel R E st ρ M S a w) {v : V} {v' : Value} (hv : VRel ρ M v v') {x : V × Objs A} (hr : Rd.Runs st₀.get (snapc v) x ns) :
    ∃ M', M.le M' ∧ Rel R E (setObs st x.2) ρ M' S a w ∧ SameRows st₀ (setObs st x.2) ∧ VRel ρ M' x.1 v' := by
  cases v with
  | rsl n sz i len =>
    simp only [snapc] at hr
    obtain ⟨ob, ms, ho, hr⟩ := Runs.look hr
    cases ob with
    | row sz' es fz =>
      replace hr := Runs.when hr
      obtain ⟨hs, hr⟩ := hr
      replace hr := Runs.need hr
      obtain ⟨hb, hr⟩ := hr
      replace hr := Runs.ret hr
      subst hr
      obtain rfl : sz = sz' := by simpa using hs
      obtain ⟨f2, h2⟩ := hsr n sz es fz ho
      obtain ⟨M', q1, q2, q3⟩ := h.freeze h2
      exact ⟨M', q1, q2, hsr.freeze h2, q3 i len v' hb hv⟩
    | box => cases hr
    | abs => cases hr
  | _ => replace hr := Runs.ret hr; subst hr; exact ⟨M, Mem.le_refl _, h, hsr, hv⟩

theorem snaps_sound {st₀ : St A} : ∀ {vs : List V} {vs' : List Value} {st : St A} {M : Mem} {ns : List Name} {x : List V × Objs A}, SameRows st₀ st → Rel R E st ρ M S a w → VsRel ρ M vs vs' → Rd.Runs st₀.get (snaps vs) x ns →
    ∃ M', M.le M' ∧ Rel R E (setObs st x.2) ρ M' S a w ∧ SameRows st₀ (setObs st x.2) ∧ VsRel ρ M' x.1 vs' := by
  intro vs
  induction vs with
  | nil => intro vs' st M ns x hsr h hv hr; replace hr := Runs.ret hr; subst hr; exact ⟨M, Mem.le_refl _, h, hsr, hv⟩
  | cons v r ih =>
    intro vs' st M ns x hsr h hv hr
    obtain ⟨v', r', rfl, hv1, hv2⟩ := hv.uncons
    rw [snaps_cons] at hr
    obtain ⟨x1, n1, n2, h1, hr, _⟩ := hr.bind_inv
    obtain ⟨x2, n3, n4, h2, hr, _⟩ := hr.bind_inv
    replace hr := Runs.ret hr; subst hr
    obtain ⟨M1, a1, a2, a3, a4⟩ := snapc_sound hsr h hv1 h1
    obtain ⟨M2, b1, b2, b3, b4⟩ := ih a3 a2 (hv2.mono (Rho.le_refl _) a1) h2
    rw [setObs_append]
    exact ⟨M2, Mem.le_trans a1 b1, b2, b3, .cons (a4.mono (Rho.le_refl _) b1) b4⟩

theorem snap_sound {st₀ : St A} (hsr : SameRows st₀ st) (h : Rel R E st ρ M S a w) {v : V} {v' : Value} (hv : VRel ρ M v v') {x : V × Objs A} (hr : Rd.Runs st₀.get (snap v) x ns) :
    ∃ M', M.le M' ∧ Rel R E (setObs st x.2) ρ M' S a w ∧ SameRows st₀ (setObs st x.2) ∧ VRel ρ M' x.1 v' := by
  unfold snap at hr
  split at hr
  · obtain ⟨x1, n1, n2, h1, hr, _⟩ := hr.bind_inv
    replace hr := Runs.ret hr; subst hr
    cases hv with
    | agg q1 q2 =>
      obtain ⟨M1, a1, a2, a3, a4⟩ := snaps_sound hsr h ⟨q1, q2⟩ h1
      exact ⟨M1, a1, a2, a3, .agg a4.1 a4.2⟩
  · obtain ⟨x1, n1, n2, h1, hr, _⟩ := hr.bind_inv
    replace hr := Runs.ret hr; subst hr
    cases hv with
    | tup q1 q2 =>
      obtain ⟨M1, a1, a2, a3, a4⟩ := snaps_sound hsr h ⟨q1, q2⟩ h1
      exact ⟨M1, a1, a2, a3, .tup a4.1 a4.2⟩
  · exact snapc_sound hsr h hv hr

theorem snapAll_sound {st₀ : St A} : ∀ {vs : List V} {vs' : List Value} {st : St A} {M : Mem} {ns : List Name} {x : List V × Objs A}, SameRows st₀ st → Rel R E st ρ M S a w → VsRel ρ M vs vs' → Rd.Runs st₀.get (snapAll vs) x ns →
    ∃ M', M.le M' ∧ Rel R E (setObs st x.2) ρ M' S a w ∧ SameRows st₀ (setObs st x.2) ∧ VsRel ρ M' x.1 vs' := by
  intro vs
  induction vs with
  | nil => intro vs' st M ns x hsr h hv hr; replace hr := Runs.ret hr; subst hr; exact ⟨M, Mem.le_refl _, h, hsr, hv⟩
  | cons v r ih =>
    intro vs' st M ns x hsr h hv hr
    obtain ⟨v', r', rfl, hv1, hv2⟩ := hv.uncons
    rw [snapAll_cons] at hr
    obtain ⟨x1, n1, n2, h1, hr, _⟩ := hr.bind_inv
    obtain ⟨x2, n3, n4, h2, hr, _⟩ := hr.bind_inv
    replace hr := Runs.ret hr; subst hr
    obtain ⟨M1, a1, a2, a3, a4⟩ := snap_sound hsr h hv1 h1
    obtain ⟨M2, b1, b2, b3, b4⟩ := ih a3 a2 (hv2.mono (Rho.le_refl _) a1) h2
    rw [setObs_append]
    exact ⟨M2, Mem.le_trans a1 b1, b2, b3, .cons (a4.mono (Rho.le_refl _) b1) b4⟩

/-- What is reckoned with throughout: the program, its types, its variables. -/
structure Cx (A : Type) where
  P : Program
  T : TT
  flat : Nat → Bool
  G : Nat → V
  R : Rep A
  hT : TOk P T
  hF : FOk P T flat
  ar : FuncId → Bool := fun _ => false

/-- Is it a call of a Go function by its name? -/
def callOf (o : Oper) : Option (FuncId × List Operand) :=
  match o.op with
  | .call c => match c.callee with
    | .value (.func f) => some (f, c.args.toList)
    | _ => none
  | _ => none

def PureEs (es : List (List V)) : Prop := ∀ e ∈ es, ∀ v ∈ e, PureV v

/-- That a cell names no object, and k. -/
def pureC (v : V) (k : Prop) : Prop := match v with
  | .int _ _ => k
  | .bool _ => k
  | .nilp => k
  | .nils => k
  | .undef => k
  | .fn _ => k
  | .lst _ es => PureEs es ∧ k
  | .lpt _ es _ _ => PureEs es ∧ k
  | _ => False
theorem pureC_ok {v : V} {k : Prop} (h : pureC v k) : PureV v ∧ k := by
  unfold pureC at h
  split at h
  · exact ⟨.int _ _, h⟩
  · exact ⟨.bool _, h⟩
  · exact ⟨.nilp, h⟩
  · exact ⟨.nils, h⟩
  · exact ⟨.undef, h⟩
  · exact ⟨.fn _, h⟩
  · exact ⟨.lst h.1, h.2⟩
  · exact ⟨.lpt h.1, h.2⟩
  · exact h.elim

noncomputable def pureCs (l : List V) (k : Prop) : Prop := List.rec (motive := fun _ => Prop) k (fun v _ ih => pureC v ih) l
theorem pureCs_ok {k : Prop} : ∀ {l : List V}, pureCs l k → (∀ v ∈ l, PureV v) ∧ k
  | [], h => ⟨PureV.nil_list, h⟩
  | v :: r, h => by
    obtain ⟨h1, h2⟩ := pureC_ok (k := pureCs r k) h
    obtain ⟨h3, h4⟩ := pureCs_ok h2
    exact ⟨PureV.cons_list h1 h3, h4⟩

def pureG (v : V) (k : Prop) : Prop := match v with
  | .agg cs => pureCs cs k
  | v => pureC v k
theorem pureG_ok {v : V} {k : Prop} (h : pureG v k) : PureV v ∧ k := by
  unfold pureG at h
  split at h
  · obtain ⟨h1, h2⟩ := pureCs_ok h; exact ⟨.agg h1, h2⟩
  · exact pureC_ok h

noncomputable def pureGs (l : List V) (k : Prop) : Prop := List.rec (motive := fun _ => Prop) k (fun v _ ih => pureG v ih) l
theorem pureGs_ok {k : Prop} : ∀ {l : List V}, pureGs l k → (∀ v ∈ l, PureV v) ∧ k
  | [], h => ⟨PureV.nil_list, h⟩
  | v :: r, h => by
    obtain ⟨h1, h2⟩ := pureG_ok (k := pureGs r k) h
    obtain ⟨h3, h4⟩ := pureGs_ok h2
    exact ⟨PureV.cons_list h1 h3, h4⟩

def pureK (v : V) (k : Prop) : Prop := match v with
  | .tup vs => pureGs vs k
  | v => pureG v k
theorem pureK_ok {v : V} {k : Prop} (h : pureK v k) : PureV v ∧ k := by
  unfold pureK at h
  split at h
  · obtain ⟨h1, h2⟩ := pureGs_ok h; exact ⟨.tup h1, h2⟩
  · exact pureG_ok h

noncomputable def pureKs (l : List V) (k : Prop) : Prop := List.rec (motive := fun _ => Prop) k (fun v _ ih => pureK v ih) l
theorem pureKs_ok {k : Prop} : ∀ {l : List V}, pureKs l k → (∀ v ∈ l, PureV v) ∧ k
  | [], h => ⟨PureV.nil_list, h⟩
  | v :: r, h => by
    obtain ⟨h1, h2⟩ := pureK_ok (k := pureKs r k) h
    obtain ⟨h3, h4⟩ := pureKs_ok h2
    exact ⟨PureV.cons_list h1 h3, h4⟩

noncomputable def memN (n : Name) (l : List Name) : Bool := List.rec false (fun m _ ih => (Nat.beq m.1 n.1 && Nat.beq m.2 n.2) || ih) l
theorem memN_cons (n m : Name) (r : List Name) : memN n (m :: r) = ((Nat.beq m.1 n.1 && Nat.beq m.2 n.2) || memN n r) := rfl
theorem memN_iff {n : Name} : ∀ {l : List Name}, memN n l = true ↔ n ∈ l
  | [] => by simp [memN]
  | m :: r => by
    rw [memN_cons, Bool.or_eq_true, Bool.and_eq_true, memN_iff, List.mem_cons]
    simp only [Nat.beq_eq]
    constructor
    · rintro (⟨h1, h2⟩ | h)
      · exact .inl (Prod.ext h1.symm h2.symm)
      · exact .inr h
    · rintro (h | h)
      · subst h; exact .inl ⟨rfl, rfl⟩
      · exact .inr h
/-- The objects at which arguments point. -/
noncomputable def refsOf (vs : List V) : List Name := List.rec [] (fun v _ ih => match v with
  | .ref n _ => match memN n ih with
    | true => ih
    | false => n :: ih
  | _ => ih) vs
theorem refsOf_nodup : ∀ vs : List V, (refsOf vs).Nodup
  | [] => List.nodup_nil
  | v :: r => by
    have ih := refsOf_nodup r
    show (match v with
      | .ref n _ => match memN n (refsOf r) with
        | true => refsOf r
        | false => n :: refsOf r
      | _ => refsOf r).Nodup
    split
    · rename_i n _
      split
      · exact ih
      · rename_i h
        refine List.nodup_cons.2 ⟨fun hn => ?_, ih⟩
        rw [memN_iff.2 hn] at h; cases h
    · exact ih
noncomputable def lookAll (l : List Name) : Rd A (List (Ob A)) := List.rec (.ret []) (fun n _ ih => .look n fun o => ih.bind fun os => .ret (o :: os)) l
theorem lookAll_runs {f : Name → Option (Ob A)} : ∀ {l : List Name} {os : List (Ob A)} {ns : List Name}, Rd.Runs f (lookAll l) os ns → os.length = l.length ∧ ∀ p ∈ l.zip os, f p.1 = some p.2
  | [], os, ns, h => by
    replace h := Runs.ret h; subst h
    exact ⟨rfl, fun p hp => by cases hp⟩
  | n :: r, os, ns, h => by
    obtain ⟨o, ms, ho, h⟩ := Runs.look h
    obtain ⟨os', n1, n2, h1, h, _⟩ := h.bind_inv
    replace h := Runs.ret h; subst h
    obtain ⟨h2, h3⟩ := lookAll_runs h1
    refine ⟨by simp [h2], fun p hp => ?_⟩
    rw [List.zip_cons_cons, List.mem_cons] at hp
    rcases hp with rfl | hp
    · exact ho
    · exact h3 p hp

/-- What a call does that is handed objects. -/
def XEff (C : Cx A) (st : St A) (dst : Option Tmp) (f : FuncId) (vs : List V) (obs : List (Ob A)) (eff : Eff A) : Prop := match dst with
  | none => ∃ r obs', (∀ d, XTriple C.P C.G C.R f vs (refsOf vs) obs d r obs' none) ∧ eff = { dst := r, objs := ((refsOf vs).zip obs').map fun p => (p.1, some p.2) }
  | some s => match lget st.objs s with
    | some p => ∃ r obs' nw, XTriple C.P C.G C.R f vs (refsOf vs) obs (s + 1, p.1 + 1) r obs' nw ∧ eff = { dst := r, objs := ((refsOf vs).zip obs' ++ newOb (s + 1, p.1 + 1) nw).map fun p => (p.1, some p.2) }
    | none => False

/-- A call that is handed objects, to be reckoned out. -/
noncomputable def xone (C : Cx A) (st : St A) (dst : Option Tmp) (f : FuncId) (x : List V × Objs A) (ns : List Name) (K : Eff A → List Name → Prop) : Prop := match x.2 with
  | [] => forceVs x.1 fun vs => (lookAll (refsOf vs)).wp st.get fun obs n2 => match dst with
    | none => ∃ r obs', (∀ d, XTriple C.P C.G C.R f vs (refsOf vs) obs d r obs' none) ∧ K { dst := r, objs := ((refsOf vs).zip obs').map fun p => (p.1, some p.2) } (ns ++ n2)
    | some s => match lget st.objs s with
      | some p => forceN (p.1 + 1) fun g => ∃ r obs' nw, XTriple C.P C.G C.R f vs (refsOf vs) obs (s + 1, g) r obs' nw ∧ K { dst := r, objs := ((refsOf vs).zip obs' ++ newOb (s + 1, g) nw).map fun p => (p.1, some p.2) } (ns ++ n2)
      | none => False
  | _ => False

theorem xone_eff {C : Cx A} {dst : Option Tmp} {f : FuncId} {x : List V × Objs A} {ns : List Name} {K : Eff A → List Name → Prop} (h : xone C st dst f x ns K) :
    x.2 = [] ∧ ∃ obs n2 eff, Rd.Runs st.get (lookAll (refsOf x.1)) obs n2 ∧ XEff C st dst f x.1 obs eff ∧ K eff (ns ++ n2) := by
  unfold xone at h
  split at h
  · rename_i hx
    refine ⟨hx, ?_⟩
    rw [forceVs_eq] at h
    obtain ⟨obs, n2, h1, h⟩ := Rd.wp_runs h
    split at h
    · obtain ⟨r, obs', h2, h3⟩ := h
      exact ⟨obs, n2, _, h1, ⟨r, obs', h2, rfl⟩, h3⟩
    · rename_i s
      split at h
      · rename_i p hp
        rw [forceN_eq] at h
        obtain ⟨r, obs', nw, h2, h3⟩ := h
        refine ⟨obs, n2, _, h1, ?_, h3⟩
        unfold XEff
        simp only [hp]
        exact ⟨r, obs', nw, h2, rfl⟩
      · exact h.elim
  · exact h.elim

/-- One operation: K is told what it does, and at which objects it looked. -/
noncomputable def vone (C : Cx A) (st : St A) (o : Oper) (K : Eff A → List Name → Prop) : Prop :=
  match callOf o with
  | some (f, xs) => forceVs (xs.map (evV C.G st)) fun vs => (snapAll vs).wp st.get fun x ns => match C.ar f with
    | true => xone C st o.dst f x ns K
    | false => forceVs x.1 fun vs => pureKs vs (∃ r, PTriple C.P C.G f vs r ∧ K { dst := r, objs := x.2 } ns)
  | none => (vstepF C.T C.flat C.G st o).wp st.get K

theorem run_callFunc {P : Program} {f : FuncId} (h : FnOk P f) (args : Array Value) (w : World) : (callFunc f args).run P w = .ok (.enter f args) w := by
  obtain ⟨fn, h1, h2, h3⟩ := h
  have h4 : fn.body ≠ none := by rintro e; rw [e] at h3; simp at h3
  unfold callFunc
  simp only [Sem.run_bind, run_program, Result.andThen_ok, h1, h2, h3]
  simp

/-- A step's meaning: from a frame and a world of which the state tells, to one of which the other state tells. -/
def StepTo (C : Cx A) (E : Env) (o : Oper) (st st' : St A) : Prop :=
  ∀ a w, Sat C.R E st a w → ∀ (next : Act → World → Prop) (Q : Exit → Act → World → Prop), (∀ a' w', Sat C.R E st' a' w' → next a' w') → o.wp C.P a w next Q

structure EOk (C : Cx A) (E : Env) : Prop where
  G : GOk C.G E.M0

theorem XEff.sound {C : Cx A} (hE : EOk C E) {dst : Option Tmp} {f : FuncId} {vs : List V} {vs' : List Value} {obs : List (Ob A)} {n2 : List Name} {eff : Eff A} (hlook : Rd.Runs st.get (lookAll (refsOf vs)) obs n2)
    (h : XEff C st dst f vs obs eff) (hr : Rel C.R E st ρ M S a w) (hv : VsRel ρ M vs vs') :
    Calls C.P f vs'.toArray w (fun e w' => ∃ v, e = .returned v ∧ Sat C.R E (st.app dst eff) (a.put dst v) w') ∧ FnOk C.P f := by
  obtain ⟨hlen, hos⟩ := lookAll_runs hlook
  have hobs : ∀ p ∈ (refsOf vs).zip obs, ObRel C.R ρ M w p.1 (S p.1) p.2 := fun p hp => hr.objs _ _ (hos p hp)
  have hdis : ∀ p ∈ (refsOf vs).zip obs, ∀ q ∈ (refsOf vs).zip obs, p.1 ≠ q.1 → ∀ b ∈ S p.1, b ∉ S q.1 := fun p hp q hq hne => hr.disj _ _ _ _ (hos p hp) (hos q hq) hne
  have hblt : ∀ p ∈ (refsOf vs).zip obs, ∀ b ∈ S p.1, b < w.heap.size := fun p hp => hr.blt _ _ (hos p hp)
  have hG : GOk C.G M := fun g => (hE.G g).mono (Rho.le_refl _) hr.M0
  unfold XEff at h
  split at h
  · obtain ⟨r, obs', hx, rfl⟩ := h
    obtain ⟨hf, hl2, hx⟩ := hx (st.objs.length + 1, 1)
    have hd : ρ (st.objs.length + 1, 1) = none := hr.fresh _ _ fun p hp => by simp at hp
    refine ⟨(hx w M ρ S vs' hG hr.mem hv hd (refsOf_nodup vs) hobs hdis hblt).mono fun e w' he => ?_, hf⟩
    obtain ⟨r', M', ρ', S', rfl, X, hn, hrr⟩ := he
    simp only [newOb, List.append_nil] at X
    obtain ⟨S'', hrel⟩ := hr.xcall hl2 hlen.symm (refsOf_nodup vs) hos hd (by simp) X (hn rfl)
    exact ⟨r', rfl, ρ', M', S'', hrel.put none hrr⟩
  · rename_i s
    split at h
    · rename_i p hp
      obtain ⟨r, obs', nw, hx, rfl⟩ := h
      obtain ⟨hf, hl2, hx⟩ := hx
      rw [lget_eq] at hp
      have hd : ρ (s + 1, p.1 + 1) = none := hr.fresh _ _ fun q hq => by rw [hp] at hq; cases hq; omega
      refine ⟨(hx w M ρ S vs' hG hr.mem hv hd (refsOf_nodup vs) hobs hdis hblt).mono fun e w' he => ?_, hf⟩
      obtain ⟨r', M', ρ', S', rfl, X, hn, hrr⟩ := he
      cases nw with
      | none =>
        simp only [newOb, List.append_nil] at X ⊢
        obtain ⟨S'', hrel⟩ := hr.xcall hl2 hlen.symm (refsOf_nodup vs) hos hd (by simp) X (hn rfl)
        exact ⟨r', rfl, ρ', M', S'', hrel.put _ hrr⟩
      | some nw =>
        simp only [newOb] at X ⊢
        obtain ⟨S'', hrel⟩ := hr.xcallNew hl2 hlen.symm (refsOf_nodup vs) hos (show st.objs[s]? = some (p.1, p.2) from hp) (Nat.lt_succ_self _) X
        exact ⟨r', rfl, ρ', M', S'', hrel.put _ hrr⟩
    · exact h.elim

theorem callOf_call {o : Oper} {f : FuncId} {xs : List Operand} (h : callOf o = some (f, xs)) : ∃ args ats, o.op = .call ⟨.value (.func f), args, ats⟩ ∧ xs = args.toList := by
  unfold callOf at h
  split at h
  · rename_i c hc
    obtain ⟨callee, args, ats⟩ := c
    simp only at h
    split at h
    · cases h
      exact ⟨args, ats, hc, rfl⟩
    · cases h
  · cases h

theorem vone_sound {C : Cx A} (hE : EOk C E) {o : Oper} {K : Eff A → List Name → Prop} (h : vone C st o K) : ∃ eff ns, K eff ns ∧ StepTo C E o st (st.app o.dst eff) := by
  unfold vone at h
  split at h
  · rename_i f xs hc
    rw [forceVs_eq] at h
    obtain ⟨x, ns, h1, h⟩ := Rd.wp_runs h
    split at h
    · obtain ⟨hx0, obs, n2, eff, h2, h3, hK⟩ := xone_eff h
      refine ⟨_, _, hK, ?_⟩
      rintro a w ⟨ρ, M, S, hr⟩ next Q hn
      obtain ⟨M1, q1, q2, q3, q4⟩ := snapAll_sound (SameRows.refl st) hr (hr.evs hE.G xs) h1
      rw [hx0] at q2
      replace q2 : Rel C.R E st ρ M1 S a w := q2
      obtain ⟨dst, op, type, pos, after, guard⟩ := o
      obtain ⟨args, ats, hop, rfl⟩ := callOf_call hc
      simp only at hop
      subst hop
      unfold Oper.wp
      have hargs : (#[] ++ args.map a.eval ++ #[] : Array Value) = (args.toList.map a.eval).toArray := by simp; rw [← Array.toList_map]
      obtain ⟨hcall, hf⟩ := h3.sound hE h2 q2 q4
      rw [execOp_call_go, run_callFunc hf, Oper.upon_enter, hargs]
      refine hcall.mono fun e w' he => ?_
      obtain ⟨v, rfl, hs⟩ := he
      exact hn _ _ hs
    · rw [forceVs_eq] at h
      obtain ⟨hp, r, ht, hK⟩ := pureKs_ok h
      refine ⟨_, ns, hK, ?_⟩
      rintro a w ⟨ρ, M, S, hr⟩ next Q hn
      obtain ⟨M1, q1, q2, q3, q4⟩ := snapAll_sound (SameRows.refl st) hr (hr.evs hE.G xs) h1
      obtain ⟨dst, op, type, pos, after, guard⟩ := o
      obtain ⟨args, ats, hop, rfl⟩ := callOf_call hc
      simp only at hop
      subst hop
      unfold Oper.wp
      have hargs : (#[] ++ args.map a.eval ++ #[] : Array Value) = (args.toList.map a.eval).toArray := by simp; rw [← Array.toList_map]
      have hpure : VsRel (fun _ => none) M1 x.1 (args.toList.map a.eval) := ⟨q4.1, fun i v v' hv hv' => hp v (List.mem_of_getElem? hv) _ _ _ (q4.2 i v v' hv hv')⟩
      rcases ht with ht | ht
      · rw [execOp_call_go, run_callFunc ht.1]
        rw [Oper.upon_enter]
        rw [hargs]
        refine (ht.2 w M1 _ (fun g => (hE.G g).mono (Rho.le_refl _) (Mem.le_trans hr.M0 q1)) q2.mem hpure).mono fun e w' he => ?_
        obtain ⟨r', M2, rfl, hg, hrr⟩ := he
        refine hn _ _ ⟨ρ, M2, S, ?_⟩
        exact (q2.grown hg).put dst (hrr.mono (fun _ _ e => by cases e) (Mem.le_refl _))
      · obtain ⟨v, hv, hvr⟩ := ht w M1 _ q2.mem hpure
        rw [execOp_call_go, hargs, hv, Oper.upon_value]
        exact hn _ _ ⟨ρ, M1, S, q2.put dst (hvr.mono (fun _ _ e => by cases e) (Mem.le_refl _))⟩
  · rw [vstepF_eq] at h
    obtain ⟨eff, ns, h1, hK⟩ := Rd.wp_runs h
    refine ⟨eff, ns, hK, ?_⟩
    rintro a w ⟨ρ, M, S, hr⟩ next Q hn
    exact (vop_sound C.hT C.hF hE.G hr h1).wp hn

end Go.Vm
