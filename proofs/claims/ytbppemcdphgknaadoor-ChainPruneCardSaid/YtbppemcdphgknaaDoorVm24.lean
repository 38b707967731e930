/- The machine 'Vm', part 24: contracts of functions that are handed objects. -/
import Derived.Test.YtbppemcdphgknaaDoorVm23
set_option linter.unusedVariables false
set_option linter.unusedSimpArgs false
namespace Go.Vm
open Go
set_option linter.unusedSimpArgs false

variable {P : Program} {A : Type} {R : Rep A} {E : Env} {st : St A} {ρ : Rho} {M : Mem} {a : Act} {w : World} {G : Nat → V}

def okA (m : Nat) : V → Prop
  | .agg cs => ∀ c ∈ cs, okC m c
  | v => okC m v
def okG (m : Nat) : V → Prop
  | .tup vs => ∀ v ∈ vs, okA m v
  | v => okA m v
def renA1 (φ : Name → Name) : V → V
  | .agg cs => .agg (cs.map (renC1 φ))
  | v => renC1 φ v
def renG1 (φ : Name → Name) : V → V
  | .tup vs => .tup (vs.map (renA1 φ))
  | v => renA1 φ v
def renO1 (φ : Name → Name) : Ob A → Ob A
  | .box cs => .box (cs.map (renC1 φ))
  | .row z es f => .row z es f
  | .abs x => .abs x
  | .prow xs => .prow xs

theorem renA1_up {m : Nat} {φ : Name → Name} {ρ2 : Rho} (h2 : ∀ n, okN m n → ρ2 (φ n) = ρ n) {v : V} {v' : Value} (hv : VRel ρ M v v') (hk : okA m v) : VRel ρ2 M (renA1 φ v) v' := by
  unfold okA at hk
  unfold renA1
  split
  · cases hv with
    | agg q1 q2 => exact .agg (renCs1_up h2 ⟨q1, q2⟩ hk).1 (renCs1_up h2 ⟨q1, q2⟩ hk).2
  · rename_i hne
    split at hk
    · exact absurd rfl (hne _)
    · exact renC1_up h2 hv hk
theorem renA1_down {m : Nat} {φ : Name → Name} {ρ2 : Rho} (h2 : ∀ n, okN m n → ρ2 (φ n) = ρ n) {v : V} {v' : Value} (hv : VRel ρ2 M (renA1 φ v) v') (hk : okA m v) : VRel ρ M v v' := by
  unfold okA at hk
  unfold renA1 at hv
  split at hv
  · cases hv with
    | agg q1 q2 => exact .agg (renCs1_down h2 ⟨q1, q2⟩ hk).1 (renCs1_down h2 ⟨q1, q2⟩ hk).2
  · rename_i hne
    split at hk
    · exact absurd rfl (hne _)
    · exact renC1_down h2 hv hk
theorem renAs1_up {m : Nat} {φ : Name → Name} {ρ2 : Rho} (h2 : ∀ n, okN m n → ρ2 (φ n) = ρ n) : ∀ {l : List V} {l' : List Value}, VsRel ρ M l l' → (∀ v ∈ l, okA m v) → VsRel ρ2 M (l.map (renA1 φ)) l'
  | [], l', h, _ => by rw [h.nil_inv]; exact .nil
  | v :: r, l', h, hk => by
    obtain ⟨v', r', rfl, h1, h3⟩ := h.uncons
    exact .cons (renA1_up h2 h1 (hk v List.mem_cons_self)) (renAs1_up h2 h3 fun v hv => hk v (List.mem_cons_of_mem _ hv))
theorem renAs1_down {m : Nat} {φ : Name → Name} {ρ2 : Rho} (h2 : ∀ n, okN m n → ρ2 (φ n) = ρ n) : ∀ {l : List V} {l' : List Value}, VsRel ρ2 M (l.map (renA1 φ)) l' → (∀ v ∈ l, okA m v) → VsRel ρ M l l'
  | [], l', h, _ => by rw [VsRel.nil_inv h]; exact .nil
  | v :: r, l', h, hk => by
    rw [List.map_cons] at h
    obtain ⟨v', r', rfl, h1, h3⟩ := h.uncons
    exact .cons (renA1_down h2 h1 (hk v List.mem_cons_self)) (renAs1_down h2 h3 fun v hv => hk v (List.mem_cons_of_mem _ hv))
theorem renG1_up {m : Nat} {φ : Name → Name} {ρ2 : Rho} (h2 : ∀ n, okN m n → ρ2 (φ n) = ρ n) {v : V} {v' : Value} (hv : VRel ρ M v v') (hk : okG m v) : VRel ρ2 M (renG1 φ v) v' := by
  unfold okG at hk
  unfold renG1
  split
  · cases hv with
    | tup q1 q2 => exact .tup (renAs1_up h2 ⟨q1, q2⟩ hk).1 (renAs1_up h2 ⟨q1, q2⟩ hk).2
  · rename_i hne
    split at hk
    · exact absurd rfl (hne _)
    · exact renA1_up h2 hv hk

theorem renO1_up {m : Nat} {φ : Name → Name} {ρ2 : Rho} (h2 : ∀ n, okN m n → ρ2 (φ n) = ρ n) {n n' : Name} (hn : ρ2 n' = ρ n) {S : List Nat} {ob : Ob A} (h : ObRel R ρ M w n S ob) (hk : okOb m ob) : ObRel R ρ2 M w n' S (renO1 φ ob) := by
  cases ob with
  | box cs =>
    obtain ⟨b, T, cs', e1, e2, e3, e4, e5⟩ := h
    exact ⟨b, T, cs', e1, by rw [hn, List.length_map]; exact e2, e3, renCs1_up h2 e4 hk, e5⟩
  | row z es f =>
    rcases h with ⟨b, o, c, T, cs', e1, e2, e3, e4, e5, e6, e7, e8⟩ | ⟨q1, q2, b, o, q3⟩
    case inr => exact .inr ⟨q1, q2, b, o, hn.trans q3⟩
    refine .inl ⟨b, o, c, T, cs', e1, hn.trans e2, e3, e4, e5, e6, fun i k e v he hv => ?_, e8⟩
    obtain ⟨v', q1, q2⟩ := e7 i k e v he hv
    exact ⟨v', q1, (hk e (List.mem_of_getElem? he) v (List.mem_of_getElem? hv)).any q2⟩
  | abs x =>
    obtain ⟨b, e1, e2⟩ := h
    exact ⟨b, hn.trans e1, e2⟩
  | prow xs =>
    rcases h with ⟨b, o, c, T, cs', bs, Ss, e1, e2⟩ | ⟨q1, q2, b, o, q3⟩
    · exact .inl ⟨b, o, c, T, cs', bs, Ss, hn.trans e1, e2⟩
    · exact .inr ⟨q1, q2, b, o, hn.trans q3⟩
theorem renO1_down {m : Nat} {φ : Name → Name} {ρ2 : Rho} (h2 : ∀ n, okN m n → ρ2 (φ n) = ρ n) {n n' : Name} (hn : ρ2 n' = ρ n) {S : List Nat} {ob : Ob A} (h : ObRel R ρ2 M w n' S (renO1 φ ob)) (hk : okOb m ob) : ObRel R ρ M w n S ob := by
  cases ob with
  | box cs =>
    obtain ⟨b, T, cs', e1, e2, e3, e4, e5⟩ := h
    exact ⟨b, T, cs', e1, by rw [hn, List.length_map] at e2; exact e2, e3, renCs1_down h2 e4 hk, e5⟩
  | row z es f =>
    rcases h with ⟨b, o, c, T, cs', e1, e2, e3, e4, e5, e6, e7, e8⟩ | ⟨q1, q2, b, o, q3⟩
    case inr => exact .inr ⟨q1, q2, b, o, hn.symm.trans q3⟩
    refine .inl ⟨b, o, c, T, cs', e1, hn.symm.trans e2, e3, e4, e5, e6, fun i k e v he hv => ?_, e8⟩
    obtain ⟨v', q1, q2⟩ := e7 i k e v he hv
    exact ⟨v', q1, (hk e (List.mem_of_getElem? he) v (List.mem_of_getElem? hv)).any q2⟩
  | abs x =>
    obtain ⟨b, e1, e2⟩ := h
    exact ⟨b, hn.symm.trans e1, e2⟩
  | prow xs =>
    rcases h with ⟨b, o, c, T, cs', bs, Ss, e1, e2⟩ | ⟨q1, q2, b, o, q3⟩
    · exact .inl ⟨b, o, c, T, cs', bs, Ss, hn.symm.trans e1, e2⟩
    · exact .inr ⟨q1, q2, b, o, hn.symm.trans q3⟩

theorem renC1_id {v : V} : renC1 id v = v := by cases v <;> rfl
theorem renA1_id {v : V} : renA1 id v = v := by
  unfold renA1
  split
  · rw [show renC1 id = id from funext fun _ => renC1_id, List.map_id]
  · exact renC1_id
theorem renG1_id {v : V} : renG1 id v = v := by
  unfold renG1
  split
  · rw [show renA1 id = id from funext fun _ => renA1_id, List.map_id]
  · exact renA1_id
theorem renO1_id {ob : Ob A} : renO1 id ob = ob := by
  cases ob with
  | box cs => show Ob.box (cs.map (renC1 id)) = _; rw [show renC1 id = id from funext fun _ => renC1_id, List.map_id]
  | _ => rfl

def canon (m : Nat) : List Name := (List.range m).map fun j => (0, j)
theorem canon_get {m j : Nat} {n : Name} : (canon m)[j]? = some n ↔ j < m ∧ n = (0, j) := by
  unfold canon
  rw [List.getElem?_map]
  constructor
  · intro h
    by_cases hj : j < m
    · rw [List.getElem?_range hj] at h; exact ⟨hj, (Option.some.inj h).symm⟩
    · rw [List.getElem?_eq_none (by simp; omega)] at h; cases h
  · rintro ⟨h, rfl⟩
    rw [List.getElem?_range h]; rfl

theorem canon_nodup (m : Nat) : (canon m).Nodup := List.pairwise_map.2 (List.nodup_range.imp fun h e => h (by cases e; rfl))

theorem zip_iff {α β : Type} {l : List α} {l' : List β} {p : α × β} : p ∈ l.zip l' ↔ ∃ j : Nat, l[j]? = some p.1 ∧ l'[j]? = some p.2 := by
  rw [List.mem_iff_getElem?]
  constructor
  · rintro ⟨j, h⟩; exact ⟨j, List.getElem?_zip_eq_some.1 h⟩
  · rintro ⟨j, h⟩; exact ⟨j, List.getElem?_zip_eq_some.2 h⟩

/-- The contract of a function that is handed the objects 0 .. under these names, and makes at most one, whose name is the next. -/
def ATriple (P : Program) (G : Nat → V) (R : Rep A) (f : FuncId) (args : List V) (obs : List (Ob A)) (r : V) (obs' : List (Ob A)) (nw : Option (Ob A)) : Prop :=
  ((∀ v ∈ args, okA obs.length v) ∧ (∀ o ∈ obs, okOb obs.length o) ∧ okG (obs.length + 1) r ∧ (∀ o ∈ obs', okOb (obs.length + 1) o) ∧ (∀ o, nw = some o → okOb (obs.length + 1) o)) ∧
  XTriple P G R f args (canon obs.length) obs (0, obs.length) r obs' nw

theorem ATriple.at (l : List Name) (d : Name) {f : FuncId} {args : List V} {obs obs' : List (Ob A)} {r : V} {nw : Option (Ob A)} (h : ATriple P G R f args obs r obs' nw) (hl : l.length = obs.length) :
    XTriple P G R f (args.map (renA1 (nameAt (l ++ [d])))) l (obs.map (renO1 (nameAt (l ++ [d])))) d (renG1 (nameAt (l ++ [d])) r) (obs'.map (renO1 (nameAt (l ++ [d])))) (nw.map (renO1 (nameAt (l ++ [d])))) := by
  obtain ⟨⟨k1, k2, k3, k4, k5⟩, hf, hl2, hx⟩ := h
  refine ⟨hf, by simp [hl2], fun w M ρ S args' hG hM hv hd hnd hobs hdis hblt => ?_⟩
  have getl : ∀ {j : Nat}, j < obs.length → ∃ n, l[j]? = some n ∧ nameAt (l ++ [d]) (0, j) = n := fun {j} hj => by
    refine ⟨l[j]'(by omega), List.getElem?_eq_getElem _, nameAt_get ?_⟩
    rw [List.getElem?_append_left (by omega)]
    exact List.getElem?_eq_getElem _
  have getd : nameAt (l ++ [d]) (0, obs.length) = d := nameAt_get (by rw [List.getElem?_append_right (by omega), hl]; simp)
  generalize nameAt (l ++ [d]) = φ at *
  let ρc : Rho := fun n => if n.1 = 0 ∧ n.2 < obs.length then ρ (φ n) else none
  have hρ : ∀ n, okN obs.length n → ρ (φ n) = ρc n := fun n hn => by simp only [ρc]; rw [if_pos ⟨hn.1, hn.2⟩]
  have hv' : VsRel ρc M args args' := renAs1_down hρ hv k1
  have hzip : ∀ {j : Nat} {ob : Ob A} {n : Name}, l[j]? = some n → obs[j]? = some ob → (n, renO1 φ ob) ∈ l.zip (obs.map (renO1 φ)) := fun {j ob n} h1 h2 => zip_iff.2 ⟨j, h1, by rw [List.getElem?_map, h2]; rfl⟩
  have hlt : ∀ {j : Nat} {ob : Ob A}, obs[j]? = some ob → j < obs.length := fun {j ob} h => (List.getElem?_eq_some_iff.1 h).1
  have hnamed : ∀ {j : Nat} {n : Name}, l[j]? = some n → ∃ x, ρ n = some x := fun {j n} h => by
    have hj : j < obs.length := by have := (List.getElem?_eq_some_iff.1 h).1; omega
    exact (hobs _ (hzip h (List.getElem?_eq_getElem hj))).named
  have hdl : ∀ {j : Nat} {n : Name}, l[j]? = some n → n ≠ d := fun {j n} h e => by
    obtain ⟨x, hx⟩ := hnamed h
    rw [e, hd] at hx; cases hx
  refine (hx w M ρc (fun n => S (φ n)) args' hG hM hv' (by simp [ρc]) (canon_nodup _) ?_ ?_ ?_).mono fun e w' he => ?_
  · intro p hp
    obtain ⟨j, h1, h2⟩ := zip_iff.1 hp
    obtain ⟨hj, h1⟩ := canon_get.1 h1
    obtain ⟨n, h3, h4⟩ := getl hj
    rw [h1]
    have := hobs _ (hzip h3 h2)
    refine renO1_down hρ (n' := n) (by rw [← hρ _ ⟨rfl, hj⟩]; show ρ n = ρ (φ (0, j)); rw [h4]) ?_ (k2 _ (List.mem_of_getElem? h2))
    show ObRel R ρ M w n (S (φ (0, j))) _
    rw [h4]; exact this
  · intro p hp q hq hne
    obtain ⟨j, h1, h2⟩ := zip_iff.1 hp
    obtain ⟨hj, h1⟩ := canon_get.1 h1
    obtain ⟨n, h3, h4⟩ := getl hj
    obtain ⟨j', h1', h2'⟩ := zip_iff.1 hq
    obtain ⟨hj', h1'⟩ := canon_get.1 h1'
    obtain ⟨n', h3', h4'⟩ := getl hj'
    rw [h1, h1'] at hne ⊢
    show ∀ b ∈ S (φ (0, j)), b ∉ S (φ (0, j'))
    rw [h4, h4']
    refine hdis _ (hzip h3 h2) _ (hzip h3' h2') (fun e => hne ?_)
    simp only at e
    subst e
    have := (List.getElem?_inj (by omega) hnd).1 (h3.trans h3'.symm)
    rw [this]
  · intro p hp
    obtain ⟨j, h1, h2⟩ := zip_iff.1 hp
    obtain ⟨hj, h1⟩ := canon_get.1 h1
    obtain ⟨n, h3, h4⟩ := getl hj
    rw [h1]
    show ∀ b ∈ S (φ (0, j)), _
    rw [h4]
    exact hblt _ (hzip h3 h2)
  · obtain ⟨r', M', ρ', S', he, X, hn, hr⟩ := he
    let ρ2 : Rho := fun n => if n = d then ρ' (0, obs.length) else ρ n
    have h2 : ∀ n, okN (obs.length + 1) n → ρ2 (φ n) = ρ' n := fun n hn => by
      obtain ⟨n1, n2⟩ := n
      obtain ⟨h1, h3⟩ := hn
      simp only at h1 h3
      subst h1
      by_cases e : n2 = obs.length
      · subst e
        show (if φ (0, obs.length) = d then _ else _) = _
        rw [if_pos getd]
      · have hj : n2 < obs.length := by omega
        obtain ⟨n, q1, q2⟩ := getl hj
        show (if φ (0, n2) = d then _ else ρ (φ (0, n2))) = _
        rw [if_neg (by rw [q2]; exact hdl q1), X.rho (0, n2) (fun e' => e (by cases e'; rfl)), hρ _ ⟨rfl, hj⟩]
    let S2 : Name → List Nat := fun n => if n = d then S' (0, obs.length) else S' (0, l.idxOf n)
    have hS2 : ∀ {j : Nat} {n : Name}, l[j]? = some n → S2 n = S' (0, j) := fun {j n} h => by
      show (if n = d then _ else _) = _
      rw [if_neg (hdl h)]
      obtain ⟨hj, rfl⟩ := List.getElem?_eq_some_iff.1 h
      rw [List.Nodup.idxOf_getElem hnd]
    have hS2d : S2 d = S' (0, obs.length) := if_pos rfl
    -- the objects behind the call, one by one
    have each : ∀ p ∈ l.zip (obs'.map (renO1 φ)) ++ newOb d (nw.map (renO1 φ)), ∃ q ∈ (canon obs.length).zip obs' ++ newOb (0, obs.length) nw, p.2 = renO1 φ q.2 ∧ p.1 = φ q.1 ∧ S2 p.1 = S' q.1 ∧ okN (obs.length + 1) q.1 ∧ okOb (obs.length + 1) q.2 := by
      intro p hp
      rcases List.mem_append.1 hp with hp | hp
      · obtain ⟨j, q1, q2⟩ := zip_iff.1 hp
        rw [List.getElem?_map, Option.map_eq_some_iff] at q2
        obtain ⟨ob, q2, q3⟩ := q2
        have hj : j < obs.length := by have := (List.getElem?_eq_some_iff.1 q1).1; omega
        obtain ⟨n, q4, q5⟩ := getl hj
        rw [q1] at q4; cases q4
        exact ⟨((0, j), ob), List.mem_append_left _ (zip_iff.2 ⟨j, canon_get.2 ⟨hj, rfl⟩, q2⟩), q3.symm, q5.symm, hS2 q1, ⟨rfl, by simp only; omega⟩, k4 _ (List.mem_of_getElem? q2)⟩
      · cases hnw : nw with
        | none => rw [hnw] at hp; cases hp
        | some ob =>
          rw [hnw] at hp
          simp only [newOb, Option.map_some, List.mem_singleton] at hp
          subst hp
          exact ⟨((0, obs.length), ob), List.mem_append_right _ (by simp [newOb]), rfl, getd.symm, hS2d, ⟨rfl, by simp⟩, k5 _ hnw⟩
    have back : ∀ {b : Nat}, (∃ q ∈ (canon obs.length).zip obs, b ∈ S (φ q.1)) ↔ ∃ q ∈ l.zip (obs.map (renO1 φ)), b ∈ S q.1 := fun {b} => by
      constructor
      · rintro ⟨q, q1, q2⟩
        obtain ⟨j, q3, q4⟩ := zip_iff.1 q1
        obtain ⟨hj, q3⟩ := canon_get.1 q3
        obtain ⟨n, q5, q6⟩ := getl hj
        rw [q3] at q2
        exact ⟨_, hzip q5 q4, by simp only; rw [← q6]; exact q2⟩
      · rintro ⟨q, q1, q2⟩
        obtain ⟨j, q3, q4⟩ := zip_iff.1 q1
        rw [List.getElem?_map, Option.map_eq_some_iff] at q4
        obtain ⟨ob, q4, _⟩ := q4
        obtain ⟨n, q5, q6⟩ := getl (hlt q4)
        rw [q3] at q5; cases q5
        exact ⟨((0, j), ob), zip_iff.2 ⟨j, canon_get.2 ⟨hlt q4, rfl⟩, q4⟩, by simp only; rw [show φ (0, j) = q.1 from q6]; exact q2⟩
    refine ⟨r', M', ρ2, S2, he, {
      le := X.le
      mem := X.mem
      size := X.size
      hos := X.hos
      tape := X.tape
      output := X.output
      rho := fun n hn => if_neg hn
      heap := fun b hb hb' => X.heap b hb fun p hp hbp => by
        obtain ⟨q, q1, q2⟩ := back.1 ⟨p, hp, hbp⟩
        exact hb' q q1 q2
      new := fun b o v hv => by
        rcases X.new b o v hv with h | h | h
        · exact .inl h
        · exact .inr (.inl h)
        · exact .inr (.inr (back.1 h))
      objs := fun p hp => by
        obtain ⟨q, q1, q2, q3, q4, q5, q6⟩ := each p hp
        rw [q4, q2]
        exact renO1_up h2 (by rw [q3]; exact h2 _ q5) (X.objs q q1) q6
      own := fun p hp b hb => by
        obtain ⟨q, q1, q2, q3, q4, q5, q6⟩ := each p hp
        rw [q4] at hb
        rcases X.own q q1 b hb with h | h
        · exact .inl (back.1 h)
        · exact .inr h
      disj := fun p hp p' hp' hne b hb => by
        obtain ⟨q, q1, q2, q3, q4, q5, q6⟩ := each p hp
        obtain ⟨q', q1', q2', q3', q4', q5', q6'⟩ := each p' hp'
        rw [q4] at hb
        rw [q4']
        exact X.disj q q1 q' q1' (fun e => hne (by rw [q3, q3', e])) b hb
      blt := fun p hp b hb => by
        obtain ⟨q, q1, q2, q3, q4, q5, q6⟩ := each p hp
        rw [q4] at hb
        exact X.blt q q1 b hb }, fun hnw => ?_, renG1_up h2 hr k3⟩
    have : nw = none := by cases nw <;> simp_all
    show (if d = d then _ else _) = _
    rw [if_pos rfl]
    exact hn this

theorem okC_mono {m m' : Nat} (hm : m ≤ m') {v : V} (h : okC m v) : okC m' v := by
  cases v <;> simp only [okC, okN] at * <;> first | exact h | omega
theorem okA_mono {m m' : Nat} (hm : m ≤ m') {v : V} (h : okA m v) : okA m' v := by
  unfold okA at *
  split <;> (rename_i hv; first | exact fun c hc => okC_mono hm (h c hc) | (split at h <;> first | (exact absurd rfl (hv _)) | exact okC_mono hm h))
theorem okG_mono {m m' : Nat} (hm : m ≤ m') {v : V} (h : okG m v) : okG m' v := by
  unfold okG at *
  split <;> (rename_i hv; first | exact fun c hc => okA_mono hm (h c hc) | (split at h <;> first | (exact absurd rfl (hv _)) | exact okA_mono hm h))
theorem okOb_mono {m m' : Nat} (hm : m ≤ m') {ob : Ob A} (h : okOb m ob) : okOb m' ob := by
  cases ob with
  | box cs => exact fun c hc => okC_mono hm (h c hc)
  | row z es f => exact h
  | abs x => exact h
  | prow xs => exact h

/-- What is asked at the end of a function that was handed m objects. -/
def aok (m : Nat) (r : V) (obs' : List (Ob A)) (nw : Option (Ob A)) (vs : List V) (st2 : St A) : Prop := match nw with
  | none => retOf vs = r ∧ st2.arena = obs'.map some
  | some ob => ∃ n0 : Name, n0.1 ≠ 0 ∧ vs = [.ref n0 0] ∧ r = .ref (0, m) 0 ∧ st2.get n0 = some ob ∧ st2.arena = obs'.map some

/-- The end of a function that was handed m objects. -/
noncomputable def aend [Deep A] (C : Cx A) (fn : Func) (m : Nat) (r : V) (obs' : List (Ob A)) (nw : Option (Ob A)) (e : Exit) (st : St A) : Prop := match e with
  | .exit _ => False
  | _ => (vres C st fn.results.toList).wp st.get fun vs _ => forceVs vs fun vs => (snapAll vs).wp st.get fun x _ => forceVs x.1 fun vs => setObsK x.2 st fun st2 => aok m r obs' nw vs st2

def entryA (n : Nat) (args : List V) (obs : List (Ob A)) : St A := { tmps := args ++ List.replicate (n - args.length) .undef, objs := List.replicate n (0, none), arena := obs.map some }

/-- .. as it is met at a call. -/
theorem ATriple.call {f : FuncId} {args : List V} {obs obs' : List (Ob A)} {r : V} {nw : Option (Ob A)} (h : ATriple P G R f args obs r obs' nw) {vs : List V} {d : Name} {obs0 : List (Ob A)} (hl : (rootsOf vs).length = obs.length)
    (hv : args.map (renA1 (nameAt (rootsOf vs ++ [d]))) = vs) (ho : obs.map (renO1 (nameAt (rootsOf vs ++ [d]))) = obs0) :
    XTriple P G R f vs (rootsOf vs) obs0 d (renG1 (nameAt (rootsOf vs ++ [d])) r) (obs'.map (renO1 (nameAt (rootsOf vs ++ [d])))) (nw.map (renO1 (nameAt (rootsOf vs ++ [d])))) := by
  have := h.at (rootsOf vs) d hl
  rw [hv, ho] at this
  exact this
end Go.Vm
