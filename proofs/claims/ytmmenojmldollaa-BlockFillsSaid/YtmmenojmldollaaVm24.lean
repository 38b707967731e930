/- The machine 'Vm', part 24: contracts of functions that are handed objects. -/
import Derived.Test.YtmmenojmldollaaVm23
set_option linter.unusedVariables false
set_option linter.unusedSimpArgs false
namespace Go.Vm
open Go
set_option linter.unusedSimpArgs false

variable {P : Program} {A : Type} {R : Rep A} {E : Env} {st : St A} {ρ : Rho} {M : Mem} {a : Act} {w : World} {C : Cx A} {G : Nat → V}

def okN (m : Nat) (n : Name) : Prop := n.1 = 0 ∧ n.2 < m
/-- A cell that names handed objects alone. -/
def okC (m : Nat) : V → Prop
  | .ref n _ => okN m n
  | .rpt n _ _ _ => okN m n
  | .rsl n _ _ _ => okN m n
  | .asl n _ _ _ _ => okN m n
  | .lst _ es => PureEs es
  | .lpt _ es _ _ => PureEs es
  | .agg _ => False
  | .tup _ => False
  | _ => True
def okA (m : Nat) : V → Prop
  | .agg cs => ∀ c ∈ cs, okC m c
  | v => okC m v
def okG (m : Nat) : V → Prop
  | .tup vs => ∀ v ∈ vs, okA m v
  | v => okA m v
def okOb (m : Nat) : Ob A → Prop
  | .box cs => ∀ c ∈ cs, okC m c
  | .row _ es _ => PureEs es
  | .abs _ => True

def renC1 (φ : Name → Name) : V → V
  | .ref n o => .ref (φ n) o
  | .rpt n z i k => .rpt (φ n) z i k
  | .rsl n z i l => .rsl (φ n) z i l
  | .asl n z o l c => .asl (φ n) z o l c
  | v => v
def renA1 (φ : Name → Name) : V → V
  | .agg cs => .agg (cs.map (renC1 φ))
  | v => renC1 φ v
def renG1 (φ : Name → Name) : V → V
  | .tup vs => .tup (vs.map (renA1 φ))
  | v => renA1 φ v
def renO1 (φ : Name → Name) : Ob A → Ob A
  | .box cs => .box (cs.map (renC1 φ))
  | .row z es f => .row z es f
  | .abs x => .abs x

theorem renC1_up {m : Nat} {φ : Name → Name} {ρ2 : Rho} (h2 : ∀ n, okN m n → ρ2 (φ n) = ρ n) {v : V} {v' : Value} (hv : VRel ρ M v v') (hk : okC m v) : VRel ρ2 M (renC1 φ v) v' := by
  cases hv with
  | ref e => exact .ref ((h2 _ hk).trans e)
  | rpt e => exact .rpt ((h2 _ hk).trans e)
  | rsl e a b => exact .rsl ((h2 _ hk).trans e) a b
  | asl e a => exact .asl ((h2 _ hk).trans e) a
  | rsl0 => exact .rsl0
  | asl0 => exact .asl0
  | undef => exact .undef _
  | int => exact .int _ _
  | bool => exact .bool _
  | nilp => exact .nilp
  | nils => exact .nils
  | lst0 => exact .lst0
  | fn f => exact .fn f
  | lst vals a b c d => exact (PureV.lst hk).any (.lst vals a b c d)
  | lpt vals a b c => exact (PureV.lpt hk).any (.lpt vals a b c)
  | agg => exact hk.elim
  | tup => exact hk.elim

theorem renC1_down {m : Nat} {φ : Name → Name} {ρ2 : Rho} (h2 : ∀ n, okN m n → ρ2 (φ n) = ρ n) {v : V} {v' : Value} (hv : VRel ρ2 M (renC1 φ v) v') (hk : okC m v) : VRel ρ M v v' := by
  cases v with
  | ref n o => cases hv with | ref e => exact .ref ((h2 _ hk).symm.trans e)
  | rpt n z i k => cases hv with | rpt e => exact .rpt ((h2 _ hk).symm.trans e)
  | rsl n z i l =>
    cases hv with
    | rsl e a b => exact .rsl ((h2 _ hk).symm.trans e) a b
    | rsl0 => exact .rsl0
  | asl n z o l c =>
    cases hv with
    | asl e a => exact .asl ((h2 _ hk).symm.trans e) a
    | asl0 => exact .asl0
  | undef => exact .undef _
  | int k n => exact (PureV.int k n).any hv
  | bool b => exact (PureV.bool b).any hv
  | nilp => exact PureV.nilp.any hv
  | nils => exact PureV.nils.any hv
  | fn f => exact (PureV.fn f).any hv
  | lst z es => exact (PureV.lst hk).any hv
  | lpt z es i k => exact (PureV.lpt hk).any hv
  | agg => exact hk.elim
  | tup => exact hk.elim

theorem renCs1_up {m : Nat} {φ : Name → Name} {ρ2 : Rho} (h2 : ∀ n, okN m n → ρ2 (φ n) = ρ n) : ∀ {l : List V} {l' : List Value}, VsRel ρ M l l' → (∀ v ∈ l, okC m v) → VsRel ρ2 M (l.map (renC1 φ)) l'
  | [], l', h, _ => by rw [h.nil_inv]; exact .nil
  | v :: r, l', h, hk => by
    obtain ⟨v', r', rfl, h1, h3⟩ := h.uncons
    exact .cons (renC1_up h2 h1 (hk v List.mem_cons_self)) (renCs1_up h2 h3 fun v hv => hk v (List.mem_cons_of_mem _ hv))
theorem renCs1_down {m : Nat} {φ : Name → Name} {ρ2 : Rho} (h2 : ∀ n, okN m n → ρ2 (φ n) = ρ n) : ∀ {l : List V} {l' : List Value}, VsRel ρ2 M (l.map (renC1 φ)) l' → (∀ v ∈ l, okC m v) → VsRel ρ M l l'
  | [], l', h, _ => by rw [VsRel.nil_inv h]; exact .nil
  | v :: r, l', h, hk => by
    rw [List.map_cons] at h
    obtain ⟨v', r', rfl, h1, h3⟩ := h.uncons
    exact .cons (renC1_down h2 h1 (hk v List.mem_cons_self)) (renCs1_down h2 h3 fun v hv => hk v (List.mem_cons_of_mem _ hv))

theorem renA1_up {m : Nat} {φ : Name → Name} {ρ2 : Rho} (h2 : ∀ n, okN m n → ρ2 (φ n) = ρ n) {v : V} {v' : Value} (hv : VRel ρ M v v') (hk : okA m v) : VRel ρ2 M (renA1 φ v) v' := by
  unfold okA at hk
  unfold renA1
  split
  · cases hv with
    | agg q1 q2 => exact .agg (renCs1_up h2 ⟨q1, q2⟩ hk).1 (renCs1_up h2 ⟨q1, q2⟩ hk).2
  · rename_i hne
    split at hk
    · exact absurd rfl (hne _)
    · exact renC1_up h2 hv hk
theorem renA1_down {m : Nat} {φ : Name → Name} {ρ2 : Rho} (h2 : ∀ n, okN m n → ρ2 (φ n) = ρ n) {v : V} {v' : Value} (hv : VRel ρ2 M (renA1 φ v) v') (hk : okA m v) : VRel ρ M v v' := by
  unfold okA at hk
  unfold renA1 at hv
  split at hv
  · cases hv with
    | agg q1 q2 => exact .agg (renCs1_down h2 ⟨q1, q2⟩ hk).1 (renCs1_down h2 ⟨q1, q2⟩ hk).2
  · rename_i hne
    split at hk
    · exact absurd rfl (hne _)
    · exact renC1_down h2 hv hk
theorem renAs1_up {m : Nat} {φ : Name → Name} {ρ2 : Rho} (h2 : ∀ n, okN m n → ρ2 (φ n) = ρ n) : ∀ {l : List V} {l' : List Value}, VsRel ρ M l l' → (∀ v ∈ l, okA m v) → VsRel ρ2 M (l.map (renA1 φ)) l'
  | [], l', h, _ => by rw [h.nil_inv]; exact .nil
  | v :: r, l', h, hk => by
    obtain ⟨v', r', rfl, h1, h3⟩ := h.uncons
    exact .cons (renA1_up h2 h1 (hk v List.mem_cons_self)) (renAs1_up h2 h3 fun v hv => hk v (List.mem_cons_of_mem _ hv))
theorem renAs1_down {m : Nat} {φ : Name → Name} {ρ2 : Rho} (h2 : ∀ n, okN m n → ρ2 (φ n) = ρ n) : ∀ {l : List V} {l' : List Value}, VsRel ρ2 M (l.map (renA1 φ)) l' → (∀ v ∈ l, okA m v) → VsRel ρ M l l'
  | [], l', h, _ => by rw [VsRel.nil_inv h]; exact .nil
  | v :: r, l', h, hk => by
    rw [List.map_cons] at h
    obtain ⟨v', r', rfl, h1, h3⟩ := h.uncons
    exact .cons (renA1_down h2 h1 (hk v List.mem_cons_self)) (renAs1_down h2 h3 fun v hv => hk v (List.mem_cons_of_mem _ hv))
theorem renG1_up {m : Nat} {φ : Name → Name} {ρ2 : Rho} (h2 : ∀ n, okN m n → ρ2 (φ n) = ρ n) {v : V} {v' : Value} (hv : VRel ρ M v v') (hk : okG m v) : VRel ρ2 M (renG1 φ v) v' := by
  unfold okG at hk
  unfold renG1
  split
  · cases hv with
    | tup q1 q2 => exact .tup (renAs1_up h2 ⟨q1, q2⟩ hk).1 (renAs1_up h2 ⟨q1, q2⟩ hk).2
  · rename_i hne
    split at hk
    · exact absurd rfl (hne _)
    · exact renA1_up h2 hv hk

theorem renO1_up {m : Nat} {φ : Name → Name} {ρ2 : Rho} (h2 : ∀ n, okN m n → ρ2 (φ n) = ρ n) {n n' : Name} (hn : ρ2 n' = ρ n) {S : List Nat} {ob : Ob A} (h : ObRel R ρ M w n S ob) (hk : okOb m ob) : ObRel R ρ2 M w n' S (renO1 φ ob) := by
  cases ob with
  | box cs =>
    obtain ⟨b, T, cs', e1, e2, e3, e4, e5⟩ := h
    exact ⟨b, T, cs', e1, by rw [hn, List.length_map]; exact e2, e3, renCs1_up h2 e4 hk, e5⟩
  | row z es f =>
    obtain ⟨b, o, c, T, cs', e1, e2, e3, e4, e5, e6, e7, e8⟩ := h
    refine ⟨b, o, c, T, cs', e1, hn.trans e2, e3, e4, e5, e6, fun i k e v he hv => ?_, e8⟩
    obtain ⟨v', q1, q2⟩ := e7 i k e v he hv
    exact ⟨v', q1, (hk e (List.mem_of_getElem? he) v (List.mem_of_getElem? hv)).any q2⟩
  | abs x =>
    obtain ⟨b, e1, e2, e3⟩ := h
    exact ⟨b, hn.trans e1, e2, e3⟩
theorem renO1_down {m : Nat} {φ : Name → Name} {ρ2 : Rho} (h2 : ∀ n, okN m n → ρ2 (φ n) = ρ n) {n n' : Name} (hn : ρ2 n' = ρ n) {S : List Nat} {ob : Ob A} (h : ObRel R ρ2 M w n' S (renO1 φ ob)) (hk : okOb m ob) : ObRel R ρ M w n S ob := by
  cases ob with
  | box cs =>
    obtain ⟨b, T, cs', e1, e2, e3, e4, e5⟩ := h
    exact ⟨b, T, cs', e1, by rw [hn, List.length_map] at e2; exact e2, e3, renCs1_down h2 e4 hk, e5⟩
  | row z es f =>
    obtain ⟨b, o, c, T, cs', e1, e2, e3, e4, e5, e6, e7, e8⟩ := h
    refine ⟨b, o, c, T, cs', e1, hn.symm.trans e2, e3, e4, e5, e6, fun i k e v he hv => ?_, e8⟩
    obtain ⟨v', q1, q2⟩ := e7 i k e v he hv
    exact ⟨v', q1, (hk e (List.mem_of_getElem? he) v (List.mem_of_getElem? hv)).any q2⟩
  | abs x =>
    obtain ⟨b, e1, e2, e3⟩ := h
    exact ⟨b, hn.symm.trans e1, e2, e3⟩

theorem renC1_id {v : V} : renC1 id v = v := by cases v <;> rfl
theorem renA1_id {v : V} : renA1 id v = v := by
  unfold renA1
  split
  · rw [show renC1 id = id from funext fun _ => renC1_id, List.map_id]
  · exact renC1_id
theorem renG1_id {v : V} : renG1 id v = v := by
  unfold renG1
  split
  · rw [show renA1 id = id from funext fun _ => renA1_id, List.map_id]
  · exact renA1_id
theorem renO1_id {ob : Ob A} : renO1 id ob = ob := by
  unfold renO1
  split
  · rw [show renC1 id = id from funext fun _ => renC1_id, List.map_id]
  · rfl
  · rfl

def canon (m : Nat) : List Name := (List.range m).map fun j => (0, j)
theorem canon_get {m j : Nat} {n : Name} : (canon m)[j]? = some n ↔ j < m ∧ n = (0, j) := by
  unfold canon
  rw [List.getElem?_map]
  constructor
  · intro h
    by_cases hj : j < m
    · rw [List.getElem?_range hj] at h; exact ⟨hj, (Option.some.inj h).symm⟩
    · rw [List.getElem?_eq_none (by simp; omega)] at h; cases h
  · rintro ⟨h, rfl⟩
    rw [List.getElem?_range h]; rfl

theorem canon_nodup (m : Nat) : (canon m).Nodup := List.pairwise_map.2 (List.nodup_range.imp fun h e => h (by cases e; rfl))

theorem zip_iff {α β : Type} {l : List α} {l' : List β} {p : α × β} : p ∈ l.zip l' ↔ ∃ j : Nat, l[j]? = some p.1 ∧ l'[j]? = some p.2 := by
  rw [List.mem_iff_getElem?]
  constructor
  · rintro ⟨j, h⟩; exact ⟨j, List.getElem?_zip_eq_some.1 h⟩
  · rintro ⟨j, h⟩; exact ⟨j, List.getElem?_zip_eq_some.2 h⟩

/-- The contract of a function that is handed the objects 0 .. under these names, and makes at most one, whose name is the next. -/
def ATriple (P : Program) (G : Nat → V) (R : Rep A) (f : FuncId) (args : List V) (obs : List (Ob A)) (r : V) (obs' : List (Ob A)) (nw : Option (Ob A)) : Prop :=
  ((∀ v ∈ args, okA obs.length v) ∧ (∀ o ∈ obs, okOb obs.length o) ∧ okG (obs.length + 1) r ∧ (∀ o ∈ obs', okOb (obs.length + 1) o) ∧ (∀ o, nw = some o → okOb (obs.length + 1) o)) ∧
  XTriple P G R f args (canon obs.length) obs (0, obs.length) r obs' nw

def nameAt (l : List Name) (n : Name) : Name := match n with
  | (0, j) => match lget l j with
    | some m => m
    | none => n
  | n => n
theorem nameAt_get {l : List Name} {j : Nat} {n : Name} (h : l[j]? = some n) : nameAt l (0, j) = n := by
  simp [nameAt, lget_eq, h]

theorem ATriple.at (l : List Name) (d : Name) {f : FuncId} {args : List V} {obs obs' : List (Ob A)} {r : V} {nw : Option (Ob A)} (h : ATriple P G R f args obs r obs' nw) (hl : l.length = obs.length) :
    XTriple P G R f (args.map (renA1 (nameAt (l ++ [d])))) l (obs.map (renO1 (nameAt (l ++ [d])))) d (renG1 (nameAt (l ++ [d])) r) (obs'.map (renO1 (nameAt (l ++ [d])))) (nw.map (renO1 (nameAt (l ++ [d])))) := by
  obtain ⟨⟨k1, k2, k3, k4, k5⟩, hf, hl2, hx⟩ := h
  refine ⟨hf, by simp [hl2], fun w M ρ S args' hG hM hv hd hnd hobs hdis hblt => ?_⟩
  have getl : ∀ {j : Nat}, j < obs.length → ∃ n, l[j]? = some n ∧ nameAt (l ++ [d]) (0, j) = n := fun {j} hj => by
    refine ⟨l[j]'(by omega), List.getElem?_eq_getElem _, nameAt_get ?_⟩
    rw [List.getElem?_append_left (by omega)]
    exact List.getElem?_eq_getElem _
  have getd : nameAt (l ++ [d]) (0, obs.length) = d := nameAt_get (by rw [List.getElem?_append_right (by omega), hl]; simp)
  generalize nameAt (l ++ [d]) = φ at *
  let ρc : Rho := fun n => if n.1 = 0 ∧ n.2 < obs.length then ρ (φ n) else none
  have hρ : ∀ n, okN obs.length n → ρ (φ n) = ρc n := fun n hn => by simp only [ρc]; rw [if_pos ⟨hn.1, hn.2⟩]
  have hv' : VsRel ρc M args args' := renAs1_down hρ hv k1
  have hzip : ∀ {j : Nat} {ob : Ob A} {n : Name}, l[j]? = some n → obs[j]? = some ob → (n, renO1 φ ob) ∈ l.zip (obs.map (renO1 φ)) := fun {j ob n} h1 h2 => zip_iff.2 ⟨j, h1, by rw [List.getElem?_map, h2]; rfl⟩
  have hlt : ∀ {j : Nat} {ob : Ob A}, obs[j]? = some ob → j < obs.length := fun {j ob} h => (List.getElem?_eq_some_iff.1 h).1
  have hnamed : ∀ {j : Nat} {n : Name}, l[j]? = some n → ∃ x, ρ n = some x := fun {j n} h => by
    have hj : j < obs.length := by have := (List.getElem?_eq_some_iff.1 h).1; omega
    exact (hobs _ (hzip h (List.getElem?_eq_getElem hj))).named
  have hdl : ∀ {j : Nat} {n : Name}, l[j]? = some n → n ≠ d := fun {j n} h e => by
    obtain ⟨x, hx⟩ := hnamed h
    rw [e, hd] at hx; cases hx
  refine (hx w M ρc (fun n => S (φ n)) args' hG hM hv' (by simp [ρc]) (canon_nodup _) ?_ ?_ ?_).mono fun e w' he => ?_
  · intro p hp
    obtain ⟨j, h1, h2⟩ := zip_iff.1 hp
    obtain ⟨hj, h1⟩ := canon_get.1 h1
    obtain ⟨n, h3, h4⟩ := getl hj
    rw [h1]
    have := hobs _ (hzip h3 h2)
    refine renO1_down hρ (n' := n) (by rw [← hρ _ ⟨rfl, hj⟩]; show ρ n = ρ (φ (0, j)); rw [h4]) ?_ (k2 _ (List.mem_of_getElem? h2))
    show ObRel R ρ M w n (S (φ (0, j))) _
    rw [h4]; exact this
  · intro p hp q hq hne
    obtain ⟨j, h1, h2⟩ := zip_iff.1 hp
    obtain ⟨hj, h1⟩ := canon_get.1 h1
    obtain ⟨n, h3, h4⟩ := getl hj
    obtain ⟨j', h1', h2'⟩ := zip_iff.1 hq
    obtain ⟨hj', h1'⟩ := canon_get.1 h1'
    obtain ⟨n', h3', h4'⟩ := getl hj'
    rw [h1, h1'] at hne ⊢
    show ∀ b ∈ S (φ (0, j)), b ∉ S (φ (0, j'))
    rw [h4, h4']
    refine hdis _ (hzip h3 h2) _ (hzip h3' h2') (fun e => hne ?_)
    simp only at e
    subst e
    have := (List.getElem?_inj (by omega) hnd).1 (h3.trans h3'.symm)
    rw [this]
  · intro p hp
    obtain ⟨j, h1, h2⟩ := zip_iff.1 hp
    obtain ⟨hj, h1⟩ := canon_get.1 h1
    obtain ⟨n, h3, h4⟩ := getl hj
    rw [h1]
    show ∀ b ∈ S (φ (0, j)), _
    rw [h4]
    exact hblt _ (hzip h3 h2)
  · obtain ⟨r', M', ρ', S', he, X, hn, hr⟩ := he
    let ρ2 : Rho := fun n => if n = d then ρ' (0, obs.length) else ρ n
    have h2 : ∀ n, okN (obs.length + 1) n → ρ2 (φ n) = ρ' n := fun n hn => by
      obtain ⟨n1, n2⟩ := n
      obtain ⟨h1, h3⟩ := hn
      simp only at h1 h3
      subst h1
      by_cases e : n2 = obs.length
      · subst e
        show (if φ (0, obs.length) = d then _ else _) = _
        rw [if_pos getd]
      · have hj : n2 < obs.length := by omega
        obtain ⟨n, q1, q2⟩ := getl hj
        show (if φ (0, n2) = d then _ else ρ (φ (0, n2))) = _
        rw [if_neg (by rw [q2]; exact hdl q1), X.rho (0, n2) (fun e' => e (by cases e'; rfl)), hρ _ ⟨rfl, hj⟩]
    let S2 : Name → List Nat := fun n => if n = d then S' (0, obs.length) else S' (0, l.idxOf n)
    have hS2 : ∀ {j : Nat} {n : Name}, l[j]? = some n → S2 n = S' (0, j) := fun {j n} h => by
      show (if n = d then _ else _) = _
      rw [if_neg (hdl h)]
      obtain ⟨hj, rfl⟩ := List.getElem?_eq_some_iff.1 h
      rw [List.Nodup.idxOf_getElem hnd]
    have hS2d : S2 d = S' (0, obs.length) := if_pos rfl
    -- the objects behind the call, one by one
    have each : ∀ p ∈ l.zip (obs'.map (renO1 φ)) ++ newOb d (nw.map (renO1 φ)), ∃ q ∈ (canon obs.length).zip obs' ++ newOb (0, obs.length) nw, p.2 = renO1 φ q.2 ∧ p.1 = φ q.1 ∧ S2 p.1 = S' q.1 ∧ okN (obs.length + 1) q.1 ∧ okOb (obs.length + 1) q.2 := by
      intro p hp
      rcases List.mem_append.1 hp with hp | hp
      · obtain ⟨j, q1, q2⟩ := zip_iff.1 hp
        rw [List.getElem?_map, Option.map_eq_some_iff] at q2
        obtain ⟨ob, q2, q3⟩ := q2
        have hj : j < obs.length := by have := (List.getElem?_eq_some_iff.1 q1).1; omega
        obtain ⟨n, q4, q5⟩ := getl hj
        rw [q1] at q4; cases q4
        exact ⟨((0, j), ob), List.mem_append_left _ (zip_iff.2 ⟨j, canon_get.2 ⟨hj, rfl⟩, q2⟩), q3.symm, q5.symm, hS2 q1, ⟨rfl, by simp only; omega⟩, k4 _ (List.mem_of_getElem? q2)⟩
      · cases hnw : nw with
        | none => rw [hnw] at hp; cases hp
        | some ob =>
          rw [hnw] at hp
          simp only [newOb, Option.map_some, List.mem_singleton] at hp
          subst hp
          exact ⟨((0, obs.length), ob), List.mem_append_right _ (by simp [newOb]), rfl, getd.symm, hS2d, ⟨rfl, by simp⟩, k5 _ hnw⟩
    have back : ∀ {b : Nat}, (∃ q ∈ (canon obs.length).zip obs, b ∈ S (φ q.1)) ↔ ∃ q ∈ l.zip (obs.map (renO1 φ)), b ∈ S q.1 := fun {b} => by
      constructor
      · rintro ⟨q, q1, q2⟩
        obtain ⟨j, q3, q4⟩ := zip_iff.1 q1
        obtain ⟨hj, q3⟩ := canon_get.1 q3
        obtain ⟨n, q5, q6⟩ := getl hj
        rw [q3] at q2
        exact ⟨_, hzip q5 q4, by simp only; rw [← q6]; exact q2⟩
      · rintro ⟨q, q1, q2⟩
        obtain ⟨j, q3, q4⟩ := zip_iff.1 q1
        rw [List.getElem?_map, Option.map_eq_some_iff] at q4
        obtain ⟨ob, q4, _⟩ := q4
        obtain ⟨n, q5, q6⟩ := getl (hlt q4)
        rw [q3] at q5; cases q5
        exact ⟨((0, j), ob), zip_iff.2 ⟨j, canon_get.2 ⟨hlt q4, rfl⟩, q4⟩, by simp only; rw [show φ (0, j) = q.1 from q6]; exact q2⟩
    refine ⟨r', M', ρ2, S2, he, {
      le := X.le
      mem := X.mem
      size := X.size
      hos := X.hos
      tape := X.tape
      output := X.output
      rho := fun n hn => if_neg hn
      heap := fun b hb hb' => X.heap b hb fun p hp hbp => by
        obtain ⟨q, q1, q2⟩ := back.1 ⟨p, hp, hbp⟩
        exact hb' q q1 q2
      new := fun b o v hv => by
        rcases X.new b o v hv with h | h | h
        · exact .inl h
        · exact .inr (.inl h)
        · exact .inr (.inr (back.1 h))
      objs := fun p hp => by
        obtain ⟨q, q1, q2, q3, q4, q5, q6⟩ := each p hp
        rw [q4, q2]
        exact renO1_up h2 (by rw [q3]; exact h2 _ q5) (X.objs q q1) q6
      own := fun p hp b hb => by
        obtain ⟨q, q1, q2, q3, q4, q5, q6⟩ := each p hp
        rw [q4] at hb
        rcases X.own q q1 b hb with h | h
        · exact .inl (back.1 h)
        · exact .inr h
      disj := fun p hp p' hp' hne b hb => by
        obtain ⟨q, q1, q2, q3, q4, q5, q6⟩ := each p hp
        obtain ⟨q', q1', q2', q3', q4', q5', q6'⟩ := each p' hp'
        rw [q4] at hb
        rw [q4']
        exact X.disj q q1 q' q1' (fun e => hne (by rw [q3, q3', e])) b hb
      blt := fun p hp b hb => by
        obtain ⟨q, q1, q2, q3, q4, q5, q6⟩ := each p hp
        rw [q4] at hb
        exact X.blt q q1 b hb }, fun hnw => ?_, renG1_up h2 hr k3⟩
    have : nw = none := by cases nw <;> simp_all
    show (if d = d then _ else _) = _
    rw [if_pos rfl]
    exact hn this

theorem okC_mono {m m' : Nat} (hm : m ≤ m') {v : V} (h : okC m v) : okC m' v := by
  cases v <;> simp only [okC, okN] at * <;> first | exact h | omega
theorem okA_mono {m m' : Nat} (hm : m ≤ m') {v : V} (h : okA m v) : okA m' v := by
  unfold okA at *
  split <;> (rename_i hv; first | exact fun c hc => okC_mono hm (h c hc) | (split at h <;> first | (exact absurd rfl (hv _)) | exact okC_mono hm h))
theorem okG_mono {m m' : Nat} (hm : m ≤ m') {v : V} (h : okG m v) : okG m' v := by
  unfold okG at *
  split <;> (rename_i hv; first | exact fun c hc => okA_mono hm (h c hc) | (split at h <;> first | (exact absurd rfl (hv _)) | exact okA_mono hm h))
theorem okOb_mono {m m' : Nat} (hm : m ≤ m') {ob : Ob A} (h : okOb m ob) : okOb m' ob := by
  cases ob with
  | box cs => exact fun c hc => okC_mono hm (h c hc)
  | row z es f => exact h
  | abs x => exact h

/-- What is asked at the end of a function that was handed m objects. -/
def aok (m : Nat) (r : V) (obs' : List (Ob A)) (nw : Option (Ob A)) (vs : List V) (st2 : St A) : Prop := match nw with
  | none => retOf vs = r ∧ st2.arena = obs'.map some
  | some ob => ∃ n0 : Name, n0.1 ≠ 0 ∧ vs = [.ref n0 0] ∧ r = .ref (0, m) 0 ∧ st2.get n0 = some ob ∧ st2.arena = obs'.map some

/-- The end of a function that was handed m objects. -/
noncomputable def aend (C : Cx A) (fn : Func) (m : Nat) (r : V) (obs' : List (Ob A)) (nw : Option (Ob A)) (e : Exit) (st : St A) : Prop := match e with
  | .exit _ => False
  | _ => (vres C st fn.results.toList).wp st.get fun vs _ => forceVs vs fun vs => (snapAll vs).wp st.get fun x _ => forceVs x.1 fun vs => setObsK x.2 st fun st2 => aok m r obs' nw vs st2

def entryA (n : Nat) (args : List V) (obs : List (Ob A)) : St A := { tmps := args ++ List.replicate (n - args.length) .undef, objs := List.replicate n (0, none), arena := obs.map some }

/-- Such a function's contract, out of its body. -/
theorem ATriple.of_body {f : FuncId} {fn : Func} {c : Code} (hf : C.P.funcs[f]? = some fn) (hb : fn.body = some c) (hn : (fn.name == "runtime.NumGoroutine") = false) (hm : C.P.follows .mixedOrders = true) {args : List V} {r : V}
    {obs obs' : List (Ob A)} {nw : Option (Ob A)} (hl : obs'.length = obs.length) (k1 : ∀ v ∈ args, okA obs.length v) (k2 : ∀ o ∈ obs, okOb obs.length o) (k3 : nw = none → okG obs.length r) (k4 : ∀ o ∈ obs', okOb obs.length o)
    (k5 : ∀ o, nw = some o → okOb obs.length o ∧ r = .ref (0, obs.length) 0)
    (h : ∀ E, EOk C E → forceSt (entryA fn.ntmps args obs) fun st => vcode C E c st (aend C fn obs.length r obs' nw)) : ATriple C.P C.G C.R f args obs r obs' nw := by
  have k3' : okG (obs.length + 1) r := by
    cases hnw : nw with
    | none => exact okG_mono (Nat.le_succ _) (k3 hnw)
    | some o => rw [(k5 o hnw).2]; exact ⟨rfl, Nat.lt_succ_self _⟩
  refine ⟨⟨k1, k2, k3', fun o ho => okOb_mono (Nat.le_succ _) (k4 o ho), fun o ho => okOb_mono (Nat.le_succ _) (k5 o ho).1⟩, ⟨fn, hf, hn, by rw [hb]; rfl⟩, hl, fun w M ρ S args' hG hM hv hd hnd hobs hdis hblt => ?_⟩
  simp only [forceSt_eq] at h
  have hz : ∀ {j : Nat} {ob : Ob A}, obs[j]? = some ob → ((0, j), ob) ∈ (canon obs.length).zip obs := fun {j ob} h => zip_iff.2 ⟨j, canon_get.2 ⟨(List.getElem?_eq_some_iff.1 h).1, rfl⟩, h⟩
  let ρi : Rho := fun n => if n.1 = 0 ∧ n.2 < obs.length then ρ n else none
  have hρi : ∀ n, okN obs.length n → ρi (id n) = ρ n := fun n hn => if_pos hn
  have hρi' : ∀ n, okN obs.length n → ρ (id n) = ρi n := fun n hn => (if_pos hn).symm
  have e1 : ∀ v, renA1 id v = v := fun _ => renA1_id
  have hargs : VsRel ρi M args args' := by
    have := renAs1_up (φ := id) (ρ2 := ρi) hρi hv k1
    rwa [show renA1 id = id from funext e1, List.map_id] at this
  let E : Env := { w0 := w, M0 := M, ρ0 := ρi, S0 := (List.range obs.length).flatMap fun j => S (0, j) }
  have hS0 : ∀ {b : Nat}, b ∈ E.S0 ↔ ∃ p ∈ (canon obs.length).zip obs, b ∈ S p.1 := fun {b} => by
    show b ∈ (List.range obs.length).flatMap (fun j => S (0, j)) ↔ _
    rw [List.mem_flatMap]
    constructor
    · rintro ⟨j, h1, h2⟩
      have hj := List.mem_range.1 h1
      exact ⟨_, hz (List.getElem?_eq_getElem hj), h2⟩
    · rintro ⟨p, h1, h2⟩
      obtain ⟨j, h3, h4⟩ := zip_iff.1 h1
      obtain ⟨hj, h3⟩ := canon_get.1 h3
      exact ⟨j, List.mem_range.2 hj, by rw [← h3]; exact h2⟩
  have hE : EOk C E := ⟨hG⟩
  have hlen : args.length = args'.length := hargs.1
  have hget : ∀ n ob, (entryA fn.ntmps args obs).get n = some ob → ∃ j, n = (0, j) ∧ obs[j]? = some ob := by
    rintro ⟨n1, g⟩ ob hn
    cases n1 with
    | zero =>
      simp only [entryA, St.get, List.getElem?_map] at hn
      cases ho : obs[g]? with
      | none => rw [ho] at hn; simp at hn
      | some o => rw [ho] at hn; simp at hn; subst hn; exact ⟨g, rfl, ho⟩
    | succ s =>
      have := St.get_slot_gen hn
      simp only [entryA] at this
      rw [List.getElem?_replicate] at this
      split at this <;> simp at this
  have hs : Sat C.R E (entryA fn.ntmps args obs) { tmps := args'.toArray ++ Array.replicate (fn.ntmps - args'.toArray.size) undef, defers := [] } w := by
    refine ⟨ρi, M, S, {
      defers := rfl
      tmps := ?_
      mem := hM
      objs := fun n ob hn => by
        obtain ⟨j, rfl, ho⟩ := hget n ob hn
        have hj := (List.getElem?_eq_some_iff.1 ho).1
        have := renO1_up (φ := id) (ρ2 := ρi) hρi (n' := (0, j)) (hρi (0, j) ⟨rfl, hj⟩) (hobs _ (hz ho)) (k2 _ (List.mem_of_getElem? ho))
        rwa [renO1_id] at this
      disj := fun n n' ob ob' h1 h2 hne => by
        obtain ⟨j, rfl, ho⟩ := hget n ob h1
        obtain ⟨j', rfl, ho'⟩ := hget n' ob' h2
        exact hdis _ (hz ho) _ (hz ho') hne
      blt := fun n ob hn => by
        obtain ⟨j, rfl, ho⟩ := hget n ob hn
        exact hblt _ (hz ho)
      own := fun n ob hn b hb => by
        obtain ⟨j, rfl, ho⟩ := hget n ob hn
        exact .inl (hS0.2 ⟨_, hz ho, hb⟩)
      fresh := fun _ _ _ => rfl
      hsize := Nat.le_refl _
      keep := fun _ _ _ => rfl
      os := rfl
      tape := rfl
      output := rfl
      M0 := Mem.le_refl _
      Mnew := fun _ _ _ h => .inl h
      ρ0 := fun _ _ h => h }⟩
    simp only [entryA, Array.toList_append, Array.toList_replicate, List.size_toArray, hlen]
    refine hargs.append ⟨by simp, fun i v v' hv hv' => ?_⟩
    rw [List.getElem?_replicate] at hv
    split at hv
    · cases hv; exact .undef _
    · cases hv
  refine calls_of_wp hf hb (wp_mono (vcode_sound hE hm (h E hE) _ _ hs) fun e a' w' ⟨h1, st', h2, h3⟩ => ?_)
  have fin : ∀ {vs : List V} {n1 : List Name}, Rd.Runs st'.get (vres C st' fn.results.toList) vs n1 → (forceVs vs fun vs => (snapAll vs).wp st'.get fun x _ => forceVs x.1 fun vs => setObsK x.2 st' fun st2 => aok obs.length r obs' nw vs st2) →
      a'.defers = [] ∧ ∃ v, (results fn a'.tmps).run C.P w' = .ok v w' ∧ ∃ r' M' ρ' S', Ending.returned v = .returned r' ∧
        XPost C.R ρ M S w ((canon obs.length).zip obs) (0, obs.length) ((canon obs.length).zip obs' ++ newOb (0, obs.length) nw) ρ' M' S' w' ∧ (nw = none → ρ' (0, obs.length) = none) ∧ VRel ρ' M' r r' := by
    intro vs n1 q1 q2
    obtain ⟨ρf, M1, Sf, hr⟩ := h3
    rw [forceVs_eq] at q2
    obtain ⟨x, n2, q3, q2⟩ := Rd.wp_runs q2
    rw [forceVs_eq, setObsK_eq] at q2
    obtain ⟨vs', p1, p2⟩ := vres_sound hE hr q1
    obtain ⟨M2, r1, r2, _, r4⟩ := snapAll_sound (SameRows.refl st') hr p2 q3
    replace q2 : aok obs.length r obs' nw x.1 (setObs st' x.2) := q2
    have hrun : (results fn a'.tmps).run C.P w' = .ok (if h : vs'.toArray.size = 1 then vs'.toArray[0] else .tuple vs'.toArray) w' := by
      rw [results_eq, Sem.run_bind, Array.mapM_eq_mapM_toList, Sem.run_map, p1]
      rfl
    have hret : VRel ρf M2 (retOf x.1) (if h : vs'.toArray.size = 1 then vs'.toArray[0] else .tuple vs'.toArray) := by
      match hx : x.1, r4 with
      | [], r4 => obtain rfl := r4.nil_inv; exact .tup rfl (fun i v v' hv => by simp at hv)
      | [v], r4 =>
        obtain ⟨v', r', rfl, z1, z2⟩ := r4.uncons
        obtain rfl := z2.nil_inv
        exact z1
      | v :: u :: l, r4 =>
        obtain ⟨v', r', rfl, z1, z2⟩ := r4.uncons
        obtain ⟨u', r'', rfl, z3, z4⟩ := z2.uncons
        have := VRel.tup (ρ := ρf) (M := M2) r4.1 r4.2
        simpa [retOf] using this
    have hρf : ∀ n, okN obs.length n → ρ (id n) = ρf n := fun n hn => by
      obtain ⟨n1, j⟩ := n
      obtain ⟨h1, h2⟩ := hn
      simp only at h1 h2
      subst h1
      obtain ⟨x, hx⟩ := (hobs _ (hz (List.getElem?_eq_getElem h2))).named
      have h3 : ρi (0, j) = some x := (hρi (0, j) ⟨rfl, h2⟩).trans hx
      exact hx.trans (r2.ρ0 j x h3).symm
    have har : (setObs st' x.2).arena = obs'.map some := by
      cases hnw : nw with
      | none => rw [hnw] at q2; exact q2.2
      | some ob => rw [hnw] at q2; obtain ⟨_, _, _, _, _, q⟩ := q2; exact q
    have hold : ∀ {j : Nat} {ob : Ob A}, obs'[j]? = some ob → (setObs st' x.2).get (0, j) = some ob := fun {j ob} h => by
      simp only [St.get, har, List.getElem?_map, h, Option.map_some]
    have base : ∀ (ρ' : Rho) (S' : Name → List Nat), (∀ n, n ≠ (0, obs.length) → ρ' n = ρ n) → (∀ j, j < obs.length → S' (0, j) = Sf (0, j)) →
        (∀ o, nw = some o → ∃ n0 : Name, n0.1 ≠ 0 ∧ (setObs st' x.2).get n0 = some o ∧ ρ' (0, obs.length) = ρf n0 ∧ S' (0, obs.length) = Sf n0) →
        XPost C.R ρ M S w ((canon obs.length).zip obs) (0, obs.length) ((canon obs.length).zip obs' ++ newOb (0, obs.length) nw) ρ' M2 S' w' := by
      intro ρ' S' g1 g2 g3
      have hρ' : ∀ n, okN obs.length n → ρ' (id n) = ρf n := fun n hn => by
        rw [← hρf n hn]
        exact g1 n fun e => by subst e; exact Nat.lt_irrefl _ hn.2
      have each : ∀ p ∈ (canon obs.length).zip obs' ++ newOb (0, obs.length) nw, ∃ n, (setObs st' x.2).get n = some p.2 ∧ ρ' p.1 = ρf n ∧ S' p.1 = Sf n ∧ okOb obs.length p.2 ∧ (p.1 = n ∧ n.1 = 0 ∨ n.1 ≠ 0 ∧ p.1 = (0, obs.length)) := by
        intro p hp
        rcases List.mem_append.1 hp with hp | hp
        · obtain ⟨j, y1, y2⟩ := zip_iff.1 hp
          obtain ⟨hj, y1⟩ := canon_get.1 y1
          exact ⟨(0, j), hold y2, by rw [y1]; exact hρ' (0, j) ⟨rfl, hj⟩, by rw [y1]; exact g2 j hj, k4 _ (List.mem_of_getElem? y2), .inl ⟨y1, rfl⟩⟩
        · cases hnw : nw with
          | none => rw [hnw] at hp; cases hp
          | some o =>
            rw [hnw] at hp
            simp only [newOb, List.mem_singleton] at hp
            subst hp
            obtain ⟨n0, y1, y2, y3, y4⟩ := g3 o hnw
            exact ⟨n0, y2, y3, y4, (k5 o hnw).1, .inr ⟨y1, rfl⟩⟩
      exact {
        le := r2.M0
        mem := r2.mem
        size := r2.hsize
        hos := r2.os
        tape := r2.tape
        output := r2.output
        rho := g1
        heap := fun b hb hb' => r2.keep b hb fun hc => by
          obtain ⟨p, y1, y2⟩ := hS0.1 hc
          exact hb' p y1 y2
        new := fun b o v hv => by
          rcases r2.Mnew b o v hv with h | h | h
          · exact .inl h
          · exact .inr (.inl h)
          · exact .inr (.inr (hS0.1 h))
        objs := fun p hp => by
          obtain ⟨n, y1, y2, y3, y4, y5⟩ := each p hp
          have := renO1_up (φ := id) (ρ2 := ρ') hρ' (n' := p.1) y2 (r2.objs n _ y1) y4
          rw [renO1_id] at this
          rw [y3]; exact this
        own := fun p hp b hb => by
          obtain ⟨n, y1, y2, y3, y4, y5⟩ := each p hp
          rw [y3] at hb
          rcases r2.own n _ y1 b hb with h | h
          · exact .inl (hS0.1 h)
          · exact .inr h
        disj := fun p hp q hq hne b hb => by
          obtain ⟨n, y1, y2, y3, y4, y5⟩ := each p hp
          obtain ⟨n', y1', y2', y3', y4', y5'⟩ := each q hq
          rw [y3] at hb
          rw [y3']
          refine r2.disj n n' _ _ y1 y1' (fun e => hne ?_) b hb
          subst e
          rcases y5 with ⟨z1, z2⟩ | ⟨z1, z2⟩ <;> rcases y5' with ⟨z3, z4⟩ | ⟨z3, z4⟩
          · rw [z1, z3]
          · exact absurd z2 z3
          · exact absurd z4 z1
          · rw [z2, z4]
        blt := fun p hp b hb => by
          obtain ⟨n, y1, y2, y3, y4, y5⟩ := each p hp
          rw [y3] at hb
          exact r2.blt n _ y1 b hb }
    refine ⟨hr.defers, _, hrun, ?_⟩
    cases hnw : nw with
    | none =>
      have hq : retOf x.1 = r := by rw [hnw] at q2; exact q2.1
      refine ⟨_, M2, ρ, Sf, rfl, ?_, fun _ => hd, ?_⟩
      · rw [← hnw]
        exact base ρ Sf (fun _ _ => rfl) (fun _ _ => rfl) fun o ho => by rw [hnw] at ho; cases ho
      · rw [hq] at hret
        have := renG1_up (φ := id) (ρ2 := ρ) hρf hret (k3 hnw)
        rwa [renG1_id] at this
    | some ob =>
      rw [hnw] at q2
      obtain ⟨n0, y1, y2, y3, y4, _⟩ := (q2 : ∃ n0 : Name, n0.1 ≠ 0 ∧ x.1 = [.ref n0 0] ∧ r = .ref (0, obs.length) 0 ∧ (setObs st' x.2).get n0 = some ob ∧ (setObs st' x.2).arena = obs'.map some)
      refine ⟨_, M2, fun n => if n = (0, obs.length) then ρf n0 else ρ n, fun n => if n = (0, obs.length) then Sf n0 else Sf n, rfl, ?_, fun h => (by cases h), ?_⟩
      · rw [← hnw]
        refine base _ _ (fun n hn => if_neg hn) (fun j hj => if_neg fun e => by cases e; exact Nat.lt_irrefl _ hj) fun o ho => ?_
        rw [hnw] at ho
        cases ho
        exact ⟨n0, y1, y4, if_pos rfl, if_pos rfl⟩
      · rw [y2] at hret
        rw [y3]
        simp only [retOf] at hret
        revert hret
        generalize (if h : vs'.toArray.size = 1 then vs'.toArray[0] else .tuple vs'.toArray) = val
        intro hret
        cases hret with
        | ref e => exact .ref (by rw [if_pos rfl]; exact e)
  rcases h1 with rfl | rfl | ⟨id, rfl⟩
  · obtain ⟨vs, n1, k1, k2⟩ := Rd.wp_runs h2
    exact fin k1 k2
  · obtain ⟨vs, n1, k1, k2⟩ := Rd.wp_runs h2
    exact fin k1 k2
  · exact h2.elim

/-- .. as it is met at a call. -/
theorem ATriple.call {f : FuncId} {args : List V} {obs obs' : List (Ob A)} {r : V} {nw : Option (Ob A)} (h : ATriple P G R f args obs r obs' nw) {vs : List V} {d : Name} {obs0 : List (Ob A)} (hl : (refsOf vs).length = obs.length)
    (hv : args.map (renA1 (nameAt (refsOf vs ++ [d]))) = vs) (ho : obs.map (renO1 (nameAt (refsOf vs ++ [d]))) = obs0) :
    XTriple P G R f vs (refsOf vs) obs0 d (renG1 (nameAt (refsOf vs ++ [d])) r) (obs'.map (renO1 (nameAt (refsOf vs ++ [d])))) (nw.map (renO1 (nameAt (refsOf vs ++ [d])))) := by
  have := h.at (refsOf vs) d hl
  rw [hv, ho] at this
  exact this
end Go.Vm
