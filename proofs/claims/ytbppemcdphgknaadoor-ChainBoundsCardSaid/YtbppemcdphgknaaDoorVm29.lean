/- The machine 'Vm', part 29: calls that are handed a row for good; results that are rows of their own. -/
import Derived.Test.YtbppemcdphgknaaDoorVm28
set_option linter.unusedVariables false
set_option linter.unusedSimpArgs false
namespace Go.Vm
open Go
section
variable {P : Program} {A : Type} {R : Rep A} {E : Env} {st : St A} {ρ : Rho} {M : Mem} {a : Act} {w : World} {G : Nat → V}
/-- A contract of a call that is handed its first argument, a row, for good; out of the function's body. -/
theorem CTriple.of_body [Deep A] {C : Cx A} {f : FuncId} {fn : Func} {c : Code} (hf : C.P.funcs[f]? = some fn) (hb : fn.body = some c) (hn : (fn.name == "runtime.NumGoroutine") = false) (hm : C.P.follows .mixedOrders = true) {sz len : Nat} {es : List (List V)} {rest : List V} {r : V}
    (hes : PureEs es) (hrest : ∀ v ∈ rest, PureV v)
    (h : ∀ E, EOk C E → forceSt (entryO fn.ntmps 0 (.rsl (0, 0) sz 0 len :: rest) [.row sz es false]) fun st => vcode C E c st (vend C fn r)) (n : Name) : CTriple C.P C.G C.R f (.rsl n sz 0 len :: rest) n (.row sz es false) r := by
  refine ⟨⟨fn, hf, hn, by rw [hb]; rfl⟩, fun w M ρ S args' hG hM hargs hob hblt => ?_⟩
  simp only [forceSt_eq] at h
  let ρi : Rho := fun m => if m = (0, 0) then ρ n else none
  have hρ0 : ρi (0, 0) = ρ n := if_pos rfl
  obtain ⟨v0, rs, rfl, hv0, hvr⟩ := hargs.uncons
  have hargs1 : VsRel ρi M (.rsl (0, 0) sz 0 len :: rest) (v0 :: rs) := by
    refine .cons ?_ ⟨hvr.1, fun i v v' hv hv' => (hrest v (List.mem_of_getElem? hv) _ _ _ (hvr.2 i v v' hv hv')).mono (fun _ _ e => by cases e) (Mem.le_refl _)⟩
    cases hv0 with
    | rsl e h1 h2 => exact .rsl (hρ0.trans e) h1 h2
    | rsl0 => exact .rsl0
  have hob1 : ObRel C.R ρi M w (0, 0) S (.row sz es false : Ob A) := by
    rcases hob with ⟨b, o, c', ty, cs', h1, h2, h3, h4, h5, h6, h7, h8⟩ | ⟨h1, h2, b, o, h3⟩
    · refine .inl ⟨b, o, c', ty, cs', h1, hρ0.trans h2, h3, h4, h5, h6, fun i k e v he hv => ?_, h8⟩
      obtain ⟨v', q1, q2⟩ := h7 i k e v he hv
      exact ⟨v', q1, (hes e (List.mem_of_getElem? he) v (List.mem_of_getElem? hv) _ _ _ q2).mono (fun _ _ e => by cases e) (Mem.le_refl _)⟩
    · exact .inr ⟨h1, h2, b, o, hρ0.trans h3⟩
  let E : Env := { w0 := w, M0 := M, ρ0 := ρi, S0 := S }
  have hE : EOk C E := ⟨hG⟩
  have hlen : (V.rsl (0, 0) sz 0 len :: rest).length = (v0 :: rs).length := hargs1.1
  have hget : ∀ m ob, (entryA fn.ntmps (.rsl (0, 0) sz 0 len :: rest) [(.row sz es false : Ob A)]).get m = some ob → m = (0, 0) ∧ ob = .row sz es false := by
    rintro ⟨n1, g⟩ ob hg
    cases n1 with
    | zero =>
      simp only [entryA, St.get, List.getElem?_map] at hg
      cases g with
      | zero => simp at hg; exact ⟨rfl, hg.symm⟩
      | succ g => simp at hg
    | succ s =>
      have := St.get_slot_gen hg
      simp only [entryA] at this
      rw [List.getElem?_replicate] at this
      split at this <;> simp at this
  have hs : Sat C.R E (entryA fn.ntmps (.rsl (0, 0) sz 0 len :: rest) [(.row sz es false : Ob A)]) { tmps := (v0 :: rs).toArray ++ Array.replicate (fn.ntmps - (v0 :: rs).toArray.size) undef, defers := [] } w := by
    refine ⟨ρi, M, fun _ => S, {
      defers := rfl
      tmps := ?_
      mem := hM
      objs := fun m ob hg => by
        obtain ⟨rfl, rfl⟩ := hget m ob hg
        exact hob1
      disj := fun m m' ob ob' h1 h2 hne => by
        obtain ⟨rfl, _⟩ := hget m ob h1
        obtain ⟨rfl, _⟩ := hget m' ob' h2
        exact absurd rfl hne
      blt := fun m ob hg => hblt
      own := fun m ob hg b hb => .inl hb
      fresh := fun s g _ => if_neg (fun e => by cases e)
      hsize := Nat.le_refl _
      keep := fun _ _ _ => rfl
      os := rfl
      tape := rfl
      output := rfl
      M0 := Mem.le_refl _
      Mnew := fun _ _ _ h => .inl h
      ρ0 := fun _ _ h => h }⟩
    simp only [entryA, Array.toList_append, Array.toList_replicate, List.size_toArray, hlen]
    refine hargs1.append ⟨by simp, fun i v v' hv hv' => ?_⟩
    rw [List.getElem?_replicate] at hv
    split at hv
    · cases hv; exact .undef _
    · cases hv
  have hs2 : Sat C.R E (entryO fn.ntmps 0 (.rsl (0, 0) sz 0 len :: rest) [(.row sz es false : Ob A)]) { tmps := (v0 :: rs).toArray ++ Array.replicate (fn.ntmps - (v0 :: rs).toArray.size) undef, defers := [] } w := hs
  refine calls_of_wp hf hb (wp_mono (vcode_sound hE hm (h E hE) _ _ hs2) fun e a' w' ⟨h1, st', h2, h3⟩ => ?_)
  have fin : ∀ {vs : List V} {n1 : List Name}, Rd.Runs st'.get (vres C st' fn.results.toList) vs n1 → (forceVs vs fun vs => (snapAll vs).wp st'.get fun x _ => forceVs x.1 fun vs => pureKs vs (retOf vs = r)) →
      a'.defers = [] ∧ ∃ v, (results fn a'.tmps).run C.P w' = .ok v w' ∧ ∃ r' M', Ending.returned v = .returned r' ∧ EPost M S w M' w' ∧ VRel (fun _ => none) M' r r' := by
    intro vs n1 k1 k2
    obtain ⟨ρg, M1, Sg, hr⟩ := h3
    rw [forceVs_eq] at k2
    obtain ⟨x, n2, k3, k2⟩ := Rd.wp_runs k2
    rw [forceVs_eq] at k2
    obtain ⟨hp, hret⟩ := pureKs_ok k2
    obtain ⟨vs', q1, q2⟩ := vres_sound hE hr k1
    obtain ⟨M2, r1, r2, _, r4⟩ := snapAll_sound (SameRows.refl st') hr q2 k3
    have hrun : (results fn a'.tmps).run C.P w' = .ok (if h : vs'.toArray.size = 1 then vs'.toArray[0] else .tuple vs'.toArray) w' := by
      rw [results_eq, Sem.run_bind, Array.mapM_eq_mapM_toList, Sem.run_map, q1]
      rfl
    refine ⟨hr.defers, _, hrun, _, M2, rfl, {
      size := r2.hsize
      heap := fun b hb hb' => r2.keep b hb hb'
      hos := r2.os
      tape := r2.tape
      output := r2.output
      le := r2.M0
      new := fun b o v hv => by
        rcases r2.Mnew b o v hv with h | h | h
        · exact .inl h
        · exact .inr (.inl h)
        · exact .inr (.inr h)
      mem := r2.mem }, ?_⟩
    have hpure : VsRel (fun _ => none) M2 x.1 vs' := ⟨r4.1, fun i v v' hv hv' => hp v (List.mem_of_getElem? hv) _ _ _ (r4.2 i v v' hv hv')⟩
    subst hret
    match hx : x.1, hpure with
    | [], hpure => obtain rfl := hpure.nil_inv; exact .tup rfl (fun i v v' hv => by simp at hv)
    | [v], hpure =>
      obtain ⟨v', r', rfl, p1, p2⟩ := hpure.uncons
      obtain rfl := p2.nil_inv
      exact p1
    | v :: u :: l, hpure =>
      obtain ⟨v', r', rfl, p1, p2⟩ := hpure.uncons
      obtain ⟨u', r'', rfl, p3, p4⟩ := p2.uncons
      have := VRel.tup (ρ := fun _ => none) (M := M2) hpure.1 hpure.2
      simpa [retOf] using this
  rcases h1 with rfl | rfl | ⟨id, rfl⟩
  · obtain ⟨vs, n1, k1, k2⟩ := Rd.wp_runs h2
    exact fin k1 k2
  · obtain ⟨vs, n1, k1, k2⟩ := Rd.wp_runs h2
    exact fin k1 k2
  · exact h2.elim
/-- The end of a function whose result is a row of its own. -/
noncomputable def rend [Deep A] (C : Cx A) (fn : Func) (sz len : Nat) (es : List (List V)) (e : Exit) (st : St A) : Prop := match e with
  | .exit _ => False
  | _ => (vres C st fn.results.toList).wp st.get fun vs _ => forceVs vs fun vs => ∃ n0 : Name, n0.1 ≠ 0 ∧ vs = [.rsl n0 sz 0 len] ∧ st.get n0 = some (.row sz es false)
/-- A contract of a call whose result is a row of its own. -/
theorem XTriple.of_rowBody [Deep A] {C : Cx A} {f : FuncId} {fn : Func} {c : Code} (hf : C.P.funcs[f]? = some fn) (hb : fn.body = some c) (hn : (fn.name == "runtime.NumGoroutine") = false) (hm : C.P.follows .mixedOrders = true) {args : List V} {sz len : Nat} {es : List (List V)}
    (hargs0 : ∀ v ∈ args, PureV v) (hes : PureEs es)
    (h : ∀ E, EOk C E → forceSt (entry fn.ntmps args) fun st => vcode C E c st (rend C fn sz len es)) (d : Name) : XTriple C.P C.G C.R f args [] [] d (.rsl d sz 0 len) [] (some (.row sz es false)) := by
  refine ⟨⟨fn, hf, hn, by rw [hb]; rfl⟩, rfl, fun w M ρ S args' hG hM hargs hd _ _ _ _ => ?_⟩
  simp only [forceSt_eq] at h
  let E : Env := { w0 := w, M0 := M, ρ0 := fun _ => none, S0 := [] }
  have hE : EOk C E := ⟨hG⟩
  have hargs1 : VsRel (fun _ => none) M args args' := ⟨hargs.1, fun i v v' hv hv' => hargs0 v (List.mem_of_getElem? hv) _ _ _ (hargs.2 i v v' hv hv')⟩
  have hlen : args.length = args'.length := hargs.1
  have hget : ∀ n ob, (entry (A := A) fn.ntmps args).get n = some ob → False := by
    rintro ⟨n1, g⟩ ob hn
    cases n1 with
    | zero => simp [entry, St.get] at hn
    | succ s =>
      have := St.get_slot_gen hn
      simp only [entry] at this
      rw [List.getElem?_replicate] at this
      split at this <;> simp at this
  have hs : Sat C.R E (entry fn.ntmps args) { tmps := args'.toArray ++ Array.replicate (fn.ntmps - args'.toArray.size) undef, defers := [] } w := by
    refine ⟨fun _ => none, M, fun _ => [], {
      defers := rfl
      tmps := ?_
      mem := hM
      objs := fun n ob hn => (hget n ob hn).elim
      disj := fun n _ ob _ hn => (hget n ob hn).elim
      blt := fun n ob hn => (hget n ob hn).elim
      own := fun n ob hn => (hget n ob hn).elim
      fresh := fun _ _ _ => rfl
      hsize := Nat.le_refl _
      keep := fun _ _ _ => rfl
      os := rfl
      tape := rfl
      output := rfl
      M0 := Mem.le_refl _
      Mnew := fun _ _ _ h => .inl h
      ρ0 := fun _ _ h => by cases h }⟩
    simp only [entry, Array.toList_append, Array.toList_replicate, List.size_toArray, hlen]
    refine hargs1.append ⟨by simp, fun i v v' hv hv' => ?_⟩
    rw [List.getElem?_replicate] at hv
    split at hv
    · cases hv; exact .undef _
    · cases hv
  refine calls_of_wp hf hb (wp_mono (vcode_sound hE hm (h E hE) _ _ hs) fun e a' w' ⟨h1, st', h2, h3⟩ => ?_)
  have fin : ∀ {vs : List V} {n1 : List Name}, Rd.Runs st'.get (vres C st' fn.results.toList) vs n1 → (forceVs vs fun vs => ∃ n0 : Name, n0.1 ≠ 0 ∧ vs = [.rsl n0 sz 0 len] ∧ st'.get n0 = some (.row sz es false)) →
      a'.defers = [] ∧ ∃ v, (results fn a'.tmps).run C.P w' = .ok v w' ∧ ∃ r' M' ρ' S', Ending.returned v = .returned r' ∧ XPost C.R ρ M S w (([] : List Name).zip ([] : List (Ob A))) d (([] : List Name).zip ([] : List (Ob A)) ++ newOb d (some (.row sz es false))) ρ' M' S' w' ∧
        ((some (.row sz es false : Ob A)) = none → ρ' d = none) ∧ VRel ρ' M' (.rsl d sz 0 len) r' := by
    intro vs n1 k1 k2
    obtain ⟨ρg, M1, Sg, hr⟩ := h3
    rw [forceVs_eq] at k2
    obtain ⟨n0, k3, k4, k5⟩ := k2
    obtain ⟨vs', q1, q2⟩ := vres_sound hE hr k1
    have hrun : (results fn a'.tmps).run C.P w' = .ok (if h : vs'.toArray.size = 1 then vs'.toArray[0] else .tuple vs'.toArray) w' := by
      rw [results_eq, Sem.run_bind, Array.mapM_eq_mapM_toList, Sem.run_map, q1]
      rfl
    subst k4
    obtain ⟨v', r', rfl, p1, p2⟩ := q2.uncons
    obtain rfl := p2.nil_inv
    let ρ' : Rho := fun n => if n = d then ρg n0 else ρ n
    have hρd : ρ' d = ρg n0 := if_pos rfl
    have hob := hr.objs n0 _ k5
    refine ⟨hr.defers, _, hrun, v', M1, ρ', fun _ => Sg n0, rfl, {
      le := hr.M0
      mem := hr.mem
      size := hr.hsize
      hos := hr.os
      tape := hr.tape
      output := hr.output
      rho := fun n hn => if_neg hn
      heap := fun b hb _ => hr.keep b hb (by simp [E])
      new := fun b o v hv => by
        rcases hr.Mnew b o v hv with h | h | h
        · exact .inl h
        · exact .inr (.inl h)
        · cases h
      objs := fun p hp => by
        simp only [List.zip_nil_left, List.nil_append, newOb, List.mem_singleton] at hp
        subst hp
        rcases hob with ⟨b, o, c', ty, cs', h1, h2, h3, h4, h5, h6, h7, h8⟩ | ⟨h1, h2, b, o, h3⟩
        · refine .inl ⟨b, o, c', ty, cs', h1, hρd.trans h2, h3, h4, h5, h6, fun i k e v he hv => ?_, h8⟩
          obtain ⟨v', q1, q2⟩ := h7 i k e v he hv
          exact ⟨v', q1, (hes e (List.mem_of_getElem? he) v (List.mem_of_getElem? hv) _ _ _ q2).mono (fun _ _ e => by cases e) (Mem.le_refl _)⟩
        · exact .inr ⟨h1, h2, b, o, hρd.trans h3⟩
      own := fun p hp b hb => by
        rcases hr.own n0 _ k5 b hb with h | h
        · cases h
        · exact .inr h
      disj := fun p hp q hq hne => by
        simp only [List.zip_nil_left, List.nil_append, newOb, List.mem_singleton] at hp hq
        subst hp; subst hq
        exact absurd rfl hne
      blt := fun p hp b hb => hr.blt n0 _ k5 b hb }, (fun h => by cases h), ?_⟩
    cases p1 with
    | rsl e h1 h2 => exact .rsl (hρd.trans e) h1 h2
    | rsl0 => exact .rsl0
  rcases h1 with rfl | rfl | ⟨id, rfl⟩
  · obtain ⟨vs, n1, k1, k2⟩ := Rd.wp_runs h2
    exact fin k1 k2
  · obtain ⟨vs, n1, k1, k2⟩ := Rd.wp_runs h2
    exact fin k1 k2
  · exact h2.elim
end
end Go.Vm
