/- Chapter 14: the slab and the reference, held against each other. -/
import Derived.Test.YtbppemcdphgknaaSlR
import Derived.Test.YtbppemcdphgknaaSlJ
set_option linter.unusedVariables false
set_option linter.unusedSimpArgs false
namespace Go.Proofs.Ytbppemcdphgknaa
open Go Go.Vm
set_option maxRecDepth 100000
set_option maxHeartbeats 40000000
set_option linter.unusedSimpArgs false
set_option linter.unusedVariables false
theorem fT_lt_iff {T : List Bool} : fT T < T.length ↔ cntT T < T.length := by
  induction T with
  | nil => simp [fT, cntT]
  | cons b r ih =>
    have hle : cntT r ≤ r.length := List.count_le_length
    cases b with
    | true => simp only [fT, cntT, if_true, List.length_cons, List.count_cons_self] at *; omega
    | false => simp [fT, cntT] at *; omega
theorem cnt_le (T : List Bool) : cntT T ≤ T.length := List.count_le_length
theorem cnt_set : ∀ {T : List Bool} {i : Nat} {b : Bool} (c : Bool), T[i]? = some b → cntT (T.set i c) + (if b then 1 else 0) = cntT T + (if c then 1 else 0)
  | [], i, b, c, h => by simp at h
  | x :: r, 0, b, c, h => by
    simp at h; subst h
    cases x <;> cases c <;> simp [cntT]
  | x :: r, i + 1, b, c, h => by
    have := cnt_set (T := r) (i := i) (b := b) c (by simpa using h)
    simp only [cntT, List.set_cons_succ, List.count_cons] at *
    omega
/-- The slab and the reference tell alike. -/
structure J (cap taken low : Int) (L : List Pl) (T : List Bool) (X : List (Option (List En))) (made : Int) (i : Nat) : Prop where
  inv : Inv low L
  capT : cap = T.length
  small : T.length ≤ 2000
  lenX : X.length = T.length
  tak : taken = cntT T
  pgs : (L.length : Int) = made * 8
  room : L.length ≤ i * 8
  has : ∀ j : Nat, (∃ p : Pl, L[j]? = some p ∧ p.t = true) ↔ T[j]? = some true
  same : ∀ (j : Nat) (p : Pl), L[j]? = some p → p.t = true → p.l.getD [] = (X.getD j none).getD []
  good : ∀ (j : Nat) (p : Pl), L[j]? = some p → p.t = true → (p.l.getD []).length ≤ 1000 ∧ ∀ e ∈ p.l.getD [], EnOk e
  goodX : ∀ (j : Nat) (x : Option (List En)), X[j]? = some x → (x.getD []).length ≤ 1000 ∧ ∀ e ∈ x.getD [], EnOk e
variable {cap taken low : Int} {L : List Pl} {T : List Bool} {X : List (Option (List En))} {made : Int} {i : Nat}
theorem J.yes (h : J cap taken low L T X made i) {a : Int} (ha : hasT T a = true) : Has L a ∧ T[a.toNat]? = some true := by
  simp only [hasT, Bool.and_eq_true, decide_eq_true_eq, List.getD_eq_getElem?_getD] at ha
  have : T[a.toNat]? = some true := by
    cases hb : T[a.toNat]? with
    | none => rw [hb] at ha; simp at ha
    | some b => rw [hb] at ha; simp at ha; rw [ha.2]
  exact ⟨⟨ha.1, (h.has _).2 this⟩, this⟩
theorem J.no (h : J cap taken low L T X made i) {a : Int} (ha : hasT T a = false) : No L a := by
  by_cases h0 : a < 0
  · exact .inl h0
  · refine .inr fun p hp => ?_
    cases ht : p.t with
    | false => rfl
    | true =>
      have := (h.has _).1 ⟨p, hp, ht⟩
      simp [hasT, List.getD_eq_getElem?_getD, this] at ha
      omega
theorem J.ffT (h : J cap taken low L T X made i) (hf : fT T < T.length) : ff L = fT T := by
  have hb : ∀ j, j < fT T → ∃ p, L[j]? = some p ∧ p.t = true := fun j hj => (h.has j).2 (fT_before T j hj)
  refine ff_unique ?_ hb fun p hp => ?_
  · rcases Nat.lt_or_ge L.length (fT T) with h1 | h1
    · obtain ⟨p, q1, _⟩ := hb _ h1
      rw [List.getElem?_eq_none (Nat.le_refl _)] at q1; cases q1
    · exact h1
  · cases ht : p.t with
    | false => rfl
    | true =>
      have := (h.has _).1 ⟨p, hp, ht⟩
      rw [fT_at T hf] at this; cases this
theorem J.full (h : J cap taken low L T X made i) (hf : fT T = T.length) : cap ≤ taken := by
  have := fT_lt_iff (T := T)
  have := cnt_le T
  rw [h.capT, h.tak]; omega
theorem J.more (h : J cap taken low L T X made i) (hf : fT T < T.length) : taken < cap := by
  have := (fT_lt_iff (T := T)).1 hf
  rw [h.capT, h.tak]; omega
theorem J.next (h : J cap taken low L T X made i) : J cap taken low L T X made (i + 1) := { h with room := by have := h.room; omega }
theorem set_get {α : Type} {l : List α} {i j : Nat} {x y : α} (h : (l.set i x)[j]? = some y) : (i = j ∧ y = x ∧ i < l.length) ∨ (i ≠ j ∧ l[j]? = some y) := by
  rw [List.getElem?_set] at h
  split at h
  · rename_i e
    split at h
    · cases h; exact .inl ⟨e, rfl, by omega⟩
    · cases h
  · rename_i e; exact .inr ⟨e, h⟩
theorem tk_get {L : List Pl} {j : Nat} {p : Pl} (h : (tk L)[j]? = some p) (ht : p.t = true) : (j = ff L ∧ p = ⟨true, none⟩) ∨ (j ≠ ff L ∧ L[j]? = some p) := by
  rw [tk_eq] at h
  split at h
  · rcases set_get h with ⟨e, rfl, _⟩ | ⟨e, h⟩
    · exact .inl ⟨e.symm, rfl⟩
    · exact .inr ⟨Ne.symm e, h⟩
  · rename_i hlt
    have hle := ff_le L
    by_cases hj : j < L.length
    · rw [List.getElem?_append_left hj] at h
      exact .inr ⟨by omega, h⟩
    · rw [List.getElem?_append_right (by omega)] at h
      by_cases h0 : j - L.length = 0
      · rw [h0] at h
        simp [newPg] at h
        exact .inl ⟨by omega, h.symm⟩
      · exfalso
        obtain ⟨m, hm⟩ : ∃ m, j - L.length = m + 1 := ⟨j - L.length - 1, by omega⟩
        rw [hm] at h
        simp only [newPg, List.getElem?_cons_succ, List.getElem?_replicate] at h
        split at h
        · cases h; cases ht
        · cases h
theorem tk_at (L : List Pl) : (tk L)[ff L]? = some ⟨true, none⟩ := by
  rw [tk_eq]
  split
  · rename_i h; rw [List.getElem?_set_self h]
  · rename_i h
    have hle := ff_le L
    rw [List.getElem?_append_right (by omega), show ff L - L.length = 0 by omega]; rfl
theorem tk_other {L : List Pl} {j : Nat} (hj : j ≠ ff L) {p : Pl} (h : L[j]? = some p) : (tk L)[j]? = some p := by
  rw [tk_eq]
  split
  · rw [List.getElem?_set_ne (Ne.symm hj)]; exact h
  · rw [List.getElem?_append_left (List.getElem?_eq_some_iff.1 h).1]; exact h
theorem J.take (h : J cap taken low L T X made i) (hi : i ≤ 200) (hf : fT T < T.length) :
    J cap (IntKind.i64.wrap (taken + 1)) (IntKind.i64.wrap ((ff L : Int) + 1)) (tk L) (T.set (fT T) true) (X.set (fT T) none) (if ((fT T / 8 + 1 : Nat) : Int) > made then ((fT T / 8 + 1 : Nat) : Int) else made) (i + 1) := by
  have hff := h.ffT hf
  have hat := fT_at T hf
  have hcs := cnt_set true hat
  have hroom := h.room
  have hpg := h.pgs
  have hfl := ff_le L
  have hw1 : IntKind.i64.wrap (taken + 1) = taken + 1 := by
    have := cnt_le T; have := h.small; have := h.tak
    exact wrap64 (by omega) (by omega)
  have hw2 : IntKind.i64.wrap ((ff L : Int) + 1) = (ff L : Int) + 1 := wrap64 (by omega) (by omega)
  rw [hw1, hw2]
  exact {
    inv := h.inv.take (by omega)
    capT := by rw [List.length_set]; exact h.capT
    small := by rw [List.length_set]; exact h.small
    lenX := by rw [List.length_set, List.length_set]; exact h.lenX
    tak := by have := h.tak; simp at hcs; omega
    pgs := by
      rw [tk_len]
      split <;> split <;> omega
    room := by rw [tk_len]; split <;> omega
    has := fun j => by
      constructor
      · rintro ⟨p, hp, ht⟩
        rcases tk_get hp ht with ⟨rfl, rfl⟩ | ⟨e, hp⟩
        · rw [hff, List.getElem?_set_self hf]
        · rw [List.getElem?_set_ne (by rw [← hff]; exact Ne.symm e)]
          exact (h.has j).1 ⟨p, hp, ht⟩
      · intro hj
        rcases set_get hj with ⟨rfl, _⟩ | ⟨e, hj⟩
        · exact ⟨_, by rw [← hff]; exact tk_at L, rfl⟩
        · obtain ⟨p, q1, q2⟩ := (h.has j).2 hj
          exact ⟨p, tk_other (by rw [hff]; exact Ne.symm e) q1, q2⟩
    same := fun j p hp ht => by
      rcases tk_get hp ht with ⟨rfl, rfl⟩ | ⟨e, hp⟩
      · rw [hff, List.getD_eq_getElem?_getD, List.getElem?_set_self (by rw [h.lenX]; exact hf)]; rfl
      · rw [List.getD_eq_getElem?_getD, List.getElem?_set_ne (by rw [← hff]; exact Ne.symm e), ← List.getD_eq_getElem?_getD]
        exact h.same j p hp ht
    good := fun j p hp ht => by
      rcases tk_get hp ht with ⟨rfl, rfl⟩ | ⟨e, hp⟩
      · simp
      · exact h.good j p hp ht
    goodX := fun j x hx => by
      rcases set_get hx with ⟨_, rfl, _⟩ | ⟨_, hx⟩
      · simp
      · exact h.goodX j x hx }
theorem J.put (h : J cap taken low L T X made i) {a : Int} (ha : Has L a) (hT : T[a.toNat]? = some true) {l : List En} (hl : l.length ≤ 1000) (hb : ∀ e ∈ l, EnOk e) :
    J cap taken low (L.set a.toNat ⟨true, some l⟩) T (X.set a.toNat (some l)) made (i + 1) := by
  obtain ⟨h0, p0, hp0, ht0⟩ := ha
  have hlt := (List.getElem?_eq_some_iff.1 hp0).1
  have hltT := (List.getElem?_eq_some_iff.1 hT).1
  exact {
    inv := h.inv.set _ _
    capT := h.capT
    small := h.small
    lenX := by rw [List.length_set]; exact h.lenX
    tak := h.tak
    pgs := by rw [List.length_set]; exact h.pgs
    room := by rw [List.length_set]; have := h.room; omega
    has := fun j => by
      constructor
      · rintro ⟨p, hp, ht⟩
        rcases set_get hp with ⟨rfl, _⟩ | ⟨e, hp⟩
        · exact hT
        · exact (h.has j).1 ⟨p, hp, ht⟩
      · intro hj
        by_cases e : a.toNat = j
        · subst e; exact ⟨_, List.getElem?_set_self hlt, rfl⟩
        · obtain ⟨p, q1, q2⟩ := (h.has j).2 hj
          exact ⟨p, by rw [List.getElem?_set_ne e]; exact q1, q2⟩
    same := fun j p hp ht => by
      rcases set_get hp with ⟨rfl, rfl, _⟩ | ⟨e, hp⟩
      · rw [List.getD_eq_getElem?_getD, List.getElem?_set_self (by rw [h.lenX]; exact hltT)]; rfl
      · rw [List.getD_eq_getElem?_getD, List.getElem?_set_ne e, ← List.getD_eq_getElem?_getD]
        exact h.same j p hp ht
    good := fun j p hp ht => by
      rcases set_get hp with ⟨_, rfl, _⟩ | ⟨_, hp⟩
      · exact ⟨hl, hb⟩
      · exact h.good j p hp ht
    goodX := fun j x hx => by
      rcases set_get hx with ⟨_, rfl, _⟩ | ⟨_, hx⟩
      · exact ⟨hl, hb⟩
      · exact h.goodX j x hx }
theorem J.free (h : J cap taken low L T X made i) {a : Int} (ha : Has L a) (hT : T[a.toNat]? = some true) :
    J cap (IntKind.i64.wrap (taken - 1)) (if a < low then a else low) (L.set a.toNat ⟨false, none⟩) (T.set a.toNat false) X made (i + 1) := by
  have hcs := cnt_set false hT
  obtain ⟨h0, p0, hp0, ht0⟩ := id ha
  have hlt := (List.getElem?_eq_some_iff.1 hp0).1
  have hltT := (List.getElem?_eq_some_iff.1 hT).1
  have hw1 : IntKind.i64.wrap (taken - 1) = taken - 1 := by
    have := cnt_le T; have := h.small; have := h.tak
    exact wrap64 (by omega) (by omega)
  rw [hw1]
  exact {
    inv := h.inv.unset ha
    capT := by rw [List.length_set]; exact h.capT
    small := by rw [List.length_set]; exact h.small
    lenX := by rw [List.length_set]; exact h.lenX
    tak := by have := h.tak; simp at hcs; omega
    pgs := by rw [List.length_set]; exact h.pgs
    room := by rw [List.length_set]; have := h.room; omega
    has := fun j => by
      constructor
      · rintro ⟨p, hp, ht⟩
        rcases set_get hp with ⟨_, rfl, _⟩ | ⟨e, hp⟩
        · cases ht
        · rw [List.getElem?_set_ne e]; exact (h.has j).1 ⟨p, hp, ht⟩
      · intro hj
        rcases set_get hj with ⟨_, e, _⟩ | ⟨e, hj⟩
        · cases e
        · obtain ⟨p, q1, q2⟩ := (h.has j).2 hj
          exact ⟨p, by rw [List.getElem?_set_ne e]; exact q1, q2⟩
    same := fun j p hp ht => by
      rcases set_get hp with ⟨_, rfl, _⟩ | ⟨e, hp⟩
      · cases ht
      · exact h.same j p hp ht
    good := fun j p hp ht => by
      rcases set_get hp with ⟨_, rfl, _⟩ | ⟨_, hp⟩
      · cases ht
      · exact h.good j p hp ht
    goodX := h.goodX }
theorem J.start (n : Int) : J (capOf n) 0 0 [] (List.replicate (capOf n).toNat false) (List.replicate (capOf n).toNat none) 0 0 := by
  obtain ⟨e1, e2, e3⟩ := cap14_eq n
  rw [← e1]
  exact {
    inv := inv0
    capT := by simp; omega
    small := by simp; omega
    lenX := by simp
    tak := by simp [cntT, List.count_replicate]
    pgs := rfl
    room := by simp
    has := fun j => by
      constructor
      · rintro ⟨p, hp, _⟩; simp at hp
      · intro hj; rw [List.getElem?_replicate] at hj; split at hj <;> cases hj
    same := fun j p hp => by simp at hp
    good := fun j p hp => by simp at hp
    goodX := fun j x hx => by rw [List.getElem?_replicate] at hx; split at hx <;> cases hx; simp }
end Go.Proofs.Ytbppemcdphgknaa
