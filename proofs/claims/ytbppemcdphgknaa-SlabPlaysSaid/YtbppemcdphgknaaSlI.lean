/- Chapter 14: the slab by its places, one behind the other. -/
import Derived.Test.YtbppemcdphgknaaSlH
set_option linter.unusedVariables false
set_option linter.unusedSimpArgs false
namespace Go.Proofs.Ytbppemcdphgknaa
open Go Go.Vm
set_option maxRecDepth 100000
set_option maxHeartbeats 40000000
set_option linter.unusedSimpArgs false
set_option linter.unusedVariables false
/-- The first place that is not taken. -/
def ff : List Pl → Nat
  | [] => 0
  | p :: r => if p.t then ff r + 1 else 0
/-- The places behind that one is taken. -/
def tk : List Pl → List Pl
  | [] => newPg
  | p :: r => if p.t then p :: tk r else ⟨true, none⟩ :: r
theorem ff_le : ∀ L : List Pl, ff L ≤ L.length
  | [] => Nat.le_refl _
  | p :: r => by
    have := ff_le r
    simp only [ff]; split <;> simp <;> omega
theorem ff_before : ∀ (L : List Pl) (i : Nat), i < ff L → ∃ p, L[i]? = some p ∧ p.t = true
  | [], i, h => by simp [ff] at h
  | p :: r, i, h => by
    simp only [ff] at h
    split at h
    · rename_i hp
      cases i with
      | zero => exact ⟨p, rfl, hp⟩
      | succ i => obtain ⟨q, h1, h2⟩ := ff_before r i (by omega); exact ⟨q, by simpa using h1, h2⟩
    · omega
theorem ff_at : ∀ (L : List Pl), ff L < L.length → ∃ p, L[ff L]? = some p ∧ p.t = false
  | [], h => by simp [ff] at h
  | p :: r, h => by
    simp only [ff] at h ⊢
    split at h
    · rename_i hp
      rw [if_pos hp]
      obtain ⟨q, h1, h2⟩ := ff_at r (by simpa using h)
      exact ⟨q, by simpa using h1, h2⟩
    · rename_i hp
      rw [if_neg hp]
      exact ⟨p, rfl, by simpa using hp⟩
theorem tk_eq : ∀ L : List Pl, tk L = if ff L < L.length then L.set (ff L) ⟨true, none⟩ else L ++ newPg
  | [] => rfl
  | p :: r => by
    simp only [tk, ff]
    split
    · rw [tk_eq r]
      by_cases h : ff r < r.length
      · rw [if_pos h, if_pos (by simpa using h)]; rfl
      · rw [if_neg h, if_neg (by simpa using h)]; rfl
    · rw [if_pos (by simp)]; rfl
theorem ff_unique {L : List Pl} {k : Nat} (hk : k ≤ L.length) (h : ∀ i, i < k → ∃ p, L[i]? = some p ∧ p.t = true) (h' : ∀ p, L[k]? = some p → p.t = false) : ff L = k := by
  have h1 := ff_before L
  have h2 := ff_at L
  have h3 := ff_le L
  rcases Nat.lt_trichotomy (ff L) k with h0 | h0 | h0
  · obtain ⟨p, q1, q2⟩ := h2 (by omega)
    obtain ⟨p', q3, q4⟩ := h (ff L) h0
    rw [q1] at q3; cases q3; rw [q2] at q4; cases q4
  · exact h0
  · obtain ⟨p, q1, q2⟩ := h1 k h0
    have := h' p q1
    rw [q2] at this; cases this
theorem chunks_len {α : Type} (sz : Nat) : ∀ (n : Nat) (l : List α), (chunks sz n l).length = n
  | 0, _ => rfl
  | n + 1, l => by simp [chunks, chunks_len sz n]
theorem chunks_get {α : Type} (sz : Nat) : ∀ (n : Nat) (l : List α) (j : Nat), j < n → (chunks sz n l)[j]? = some ((l.drop (j * sz)).take sz)
  | 0, _, j, h => by omega
  | n + 1, l, 0, _ => by simp [chunks]
  | n + 1, l, j + 1, h => by
    simp only [chunks, List.getElem?_cons_succ]
    rw [chunks_get sz n _ j (by omega), List.drop_drop]
    congr 3
    rw [Nat.succ_mul]; omega
def pg (L : List Pl) : List (List Pl) := chunks 8 (L.length / 8) L
theorem pg_len (L : List Pl) : (pg L).length = L.length / 8 := chunks_len 8 _ _
theorem pg_get {L : List Pl} (hL : L.length % 8 = 0) {i : Nat} (hi : i < L.length) : ∃ g, (pg L)[i / 8]? = some g ∧ g.length = 8 ∧ ∀ m, m < 8 → g[m]? = L[i / 8 * 8 + m]? := by
  refine ⟨_, chunks_get 8 _ L (i / 8) (by omega), by simp; omega, fun m hm => ?_⟩
  rw [List.getElem?_take, if_pos hm, List.getElem?_drop]
theorem pg_place {L : List Pl} (hL : L.length % 8 = 0) {i : Nat} {p : Pl} (hi : L[i]? = some p) : ∃ g, (pg L)[i / 8]? = some g ∧ g.length = 8 ∧ g[i % 8]? = some p := by
  obtain ⟨g, h1, h2, h3⟩ := pg_get hL (List.getElem?_eq_some_iff.1 hi).1
  refine ⟨g, h1, h2, ?_⟩
  rw [h3 _ (by omega), ← hi]
  congr 1; omega
theorem pg_set {L : List Pl} (hL : L.length % 8 = 0) {i : Nat} (hi : i < L.length) {g : List Pl} (hg : (pg L)[i / 8]? = some g) (p : Pl) : (pg L).set (i / 8) (g.set (i % 8) p) = pg (L.set i p) := by
  obtain ⟨g', h1, h2, h3⟩ := pg_get hL hi
  rw [hg] at h1; cases h1
  have hl : (L.set i p).length = L.length := by simp
  refine List.ext_getElem? fun j => ?_
  by_cases hj : j < L.length / 8
  · have e1 := chunks_get 8 (L.length / 8) (L.set i p) j hj
    have e2 := chunks_get 8 (L.length / 8) L j hj
    rw [List.getElem?_set]
    show _ = (chunks 8 ((L.set i p).length / 8) (L.set i p))[j]?
    rw [hl, e1]
    by_cases hji : i / 8 = j
    · rw [if_pos hji, if_pos (by rw [pg_len]; omega)]
      congr 1
      refine List.ext_getElem? fun m => ?_
      rw [List.getElem?_set, List.getElem?_take, List.getElem?_drop, List.getElem?_set]
      by_cases hm : m < 8
      · rw [if_pos hm]
        by_cases hmi : i % 8 = m
        · rw [if_pos hmi, if_pos (by omega), if_pos (by omega), if_pos (by omega)]
        · rw [if_neg hmi, if_neg (by omega), h3 m hm, hji]
      · rw [if_neg hm]
        by_cases hmi : i % 8 = m
        · omega
        · rw [if_neg hmi, List.getElem?_eq_none (by omega)]
    · rw [if_neg hji]
      show (pg L)[j]? = _
      unfold pg
      rw [e2]
      congr 1
      refine List.ext_getElem? fun m => ?_
      rw [List.getElem?_take, List.getElem?_drop, List.getElem?_take, List.getElem?_drop, List.getElem?_set]
      split
      · rw [if_neg (by omega)]
      · rfl
  · rw [List.getElem?_eq_none (by rw [List.length_set, pg_len]; omega), List.getElem?_eq_none (by rw [pg_len, hl]; omega)]
theorem pg_app {L : List Pl} (hL : L.length % 8 = 0) : pg (L ++ newPg) = pg L ++ [newPg] := by
  have hl : (L ++ newPg).length / 8 = L.length / 8 + 1 := by rw [List.length_append]; show (L.length + 8) / 8 = _; omega
  refine List.ext_getElem? fun j => ?_
  unfold pg
  rw [hl]
  by_cases hj : j < L.length / 8
  · rw [chunks_get 8 _ _ j (by omega), List.getElem?_append_left (by rw [chunks_len]; exact hj), chunks_get 8 _ _ j hj, List.drop_append_of_le_length (by omega), List.take_append_of_le_length (by simp; omega)]
  · by_cases hj2 : j = L.length / 8
    · subst hj2
      rw [chunks_get 8 _ _ _ (by omega), List.getElem?_append_right (by rw [chunks_len]; exact Nat.le_refl _), chunks_len]
      have : L.length / 8 * 8 = L.length := by omega
      rw [this, List.drop_left]
      simp [newPg]
    · rw [List.getElem?_eq_none (by rw [chunks_len]; omega), List.getElem?_eq_none (by simp [chunks_len]; omega)]
/-- A slab by its places, one behind the other. -/
def slF (cap taken low : Int) (L : List Pl) : DV := slD cap taken low (pg L)
structure Inv (low : Int) (L : List Pl) : Prop where
  len : L.length % 8 = 0
  max : L.length ≤ 4000
  low0 : 0 ≤ low
  low1 : low ≤ ff L
theorem Inv.pgl {low : Int} {L : List Pl} (h : Inv low L) : (pg L).length ≤ 900 := by rw [pg_len]; have := h.max; omega
theorem Inv.tkn {low : Int} {L : List Pl} (h : Inv low L) (j : Int) (h1 : 0 ≤ j) (h2 : j < ff L) : Tk (pg L) j := by
  obtain ⟨p, q1, q2⟩ := ff_before L j.toNat (by omega)
  obtain ⟨g, q3, q4, q5⟩ := pg_place h.len q1
  exact ⟨g, p, q3, q5, q2⟩
theorem Inv.free {low : Int} {L : List Pl} (h : Inv low L) {i : Int} (hi : i < 0 ∨ ∀ p, L[i.toNat]? = some p → p.t = false) : Fr (pg L) i := by
  by_cases h0 : i < 0
  · exact .inl h0
  · by_cases h1 : i.toNat < L.length
    · obtain ⟨g, q3, q4, q5⟩ := pg_place h.len (List.getElem?_eq_getElem h1)
      refine .inr (.inr ⟨g, _, by omega, q3, q5, ?_⟩)
      rcases hi with hi | hi
      · exact absurd hi h0
      · exact hi _ (List.getElem?_eq_getElem h1)
    · have := h.len
      exact .inr (.inl (by rw [pg_len]; omega))
theorem takeF {cap taken low : Int} {L : List Pl} (h : Inv low L) (hc : taken < cap) : ATriple Try.prog gv R0 13 [.ref (0, 0) 0] [.abs (slF cap taken low L)] (.tup [i64V (ff L), .bool true]) [.abs (slF cap (IntKind.i64.wrap (taken + 1)) (IntKind.i64.wrap ((ff L : Int) + 1)) (tk L))] none := by
  have hff := ff_le L
  have hlen := h.len
  rw [tk_eq]
  by_cases hlt : ff L < L.length
  · rw [if_pos hlt]
    obtain ⟨p, q1, q2⟩ := ff_at L hlt
    obtain ⟨g, q3, q4, q5⟩ := pg_place h.len q1
    have := take_old cap taken low (pg L) h.pgl h.low0 hc (ff L) h.low1 (fun j h1 h2 => h.tkn j (by have := h.low0; omega) h2) (G := g) (by simpa using q3) q4 (h.free (.inr fun p' hp' => by
      rw [Int.toNat_natCast, q1] at hp'; cases hp'; exact q2))
    rw [Int.toNat_natCast, pg_set h.len hlt q3] at this
    exact this
  · rw [if_neg hlt]
    have hk : ff L = L.length := by omega
    have := take_new cap taken low (pg L) h.pgl h.low0 hc (ff L) h.low1 (fun j h1 h2 => h.tkn j (by have := h.low0; omega) h2) (by rw [pg_len, hk]; omega) (h.free (.inr fun p' hp' => by
      rw [Int.toNat_natCast, hk, List.getElem?_eq_none (Nat.le_refl _)] at hp'; cases hp'))
    rw [← pg_app h.len] at this
    exact this
theorem takeFull {cap taken low : Int} {L : List Pl} (hc : cap ≤ taken) : ATriple Try.prog gv R0 13 [.ref (0, 0) 0] [.abs (slF cap taken low L)] (.tup [i64V 0, .bool false]) [.abs (slF cap taken low L)] none := take_full cap taken low (pg L) hc
def Has (L : List Pl) (i : Int) : Prop := 0 ≤ i ∧ ∃ p, L[i.toNat]? = some p ∧ p.t = true
theorem freeF {cap taken low : Int} {L : List Pl} (h : Inv low L) {i : Int} (hi : Has L i) : ATriple Try.prog gv R0 14 [.ref (0, 0) 0, i64V i] [.abs (slF cap taken low L)] (.bool true) [.abs (slF cap (IntKind.i64.wrap (taken - 1)) (if i < low then i else low) (L.set i.toNat ⟨false, none⟩))] none := by
  obtain ⟨h0, p, h1, h2⟩ := hi
  obtain ⟨g, q3, q4, q5⟩ := pg_place h.len h1
  have := free_ok cap taken low (pg L) (by have := h.pgl; omega) i h0 q3 q5 h2
  rw [pg_set h.len (List.getElem?_eq_some_iff.1 h1).1 q3] at this
  exact this
theorem putF {cap taken low : Int} {L : List Pl} (h : Inv low L) {i : Int} (hi : Has L i) (l : List En) (hll : l.length ≤ 1000) (hb : ∀ e ∈ l, EnOk e) : ATriple Try.prog gv R0 22 [.ref (0, 0) 0, i64V i, chV l] [.abs (slF cap taken low L)] (.bool true) [.abs (slF cap taken low (L.set i.toNat ⟨true, some l⟩))] none := by
  obtain ⟨h0, p, h1, h2⟩ := hi
  obtain ⟨g, q3, q4, q5⟩ := pg_place h.len h1
  have := put_ok cap taken low (pg L) (by have := h.pgl; omega) i h0 q3 q5 h2 l hll hb
  rw [pg_set h.len (List.getElem?_eq_some_iff.1 h1).1 q3] at this
  exact this
theorem getF {cap taken low : Int} {L : List Pl} (h : Inv low L) {i : Int} (h0 : 0 ≤ i) {p : Pl} (h1 : L[i.toNat]? = some p) (h2 : p.t = true) (hll : (p.l.getD []).length ≤ 1000) (hb : ∀ e ∈ p.l.getD [], EnOk e) :
    ATriple Try.prog gv R0 24 [.ref (0, 0) 0, i64V i] [.abs (slF cap taken low L)] (.tup [chV (p.l.getD []), .bool true]) [.abs (slF cap taken low L)] none := by
  obtain ⟨g, q3, q4, q5⟩ := pg_place h.len h1
  cases hpl : p.l with
  | none => exact get_nil cap taken low (pg L) (by have := h.pgl; omega) i h0 q3 q5 h2 hpl
  | some l => rw [hpl] at hll hb; exact get_ok cap taken low (pg L) (by have := h.pgl; omega) i h0 q3 q5 h2 hpl hll hb
def No (L : List Pl) (i : Int) : Prop := i < 0 ∨ ∀ p, L[i.toNat]? = some p → p.t = false
theorem freeN {cap taken low : Int} {L : List Pl} (h : Inv low L) {i : Int} (hi : No L i) : ATriple Try.prog gv R0 14 [.ref (0, 0) 0, i64V i] [.abs (slF cap taken low L)] (.bool false) [.abs (slF cap taken low L)] none := free_no cap taken low (pg L) (by have := h.pgl; omega) i (h.free hi)
theorem putN {cap taken low : Int} {L : List Pl} (h : Inv low L) {i : Int} (hi : No L i) (l : List En) : ATriple Try.prog gv R0 22 [.ref (0, 0) 0, i64V i, chV l] [.abs (slF cap taken low L)] (.bool false) [.abs (slF cap taken low L)] none := put_no cap taken low (pg L) (by have := h.pgl; omega) i (h.free hi) l
theorem getN {cap taken low : Int} {L : List Pl} (h : Inv low L) {i : Int} (hi : No L i) : ATriple Try.prog gv R0 24 [.ref (0, 0) 0, i64V i] [.abs (slF cap taken low L)] (.tup [.nils, .bool false]) [.abs (slF cap taken low L)] none := get_no cap taken low (pg L) (by have := h.pgl; omega) i (h.free hi)
theorem lenF (cap taken low : Int) (L : List Pl) : ATriple Try.prog gv R0 15 [.ref (0, 0) 0] [.abs (slF cap taken low L)] (i64V taken) [.abs (slF cap taken low L)] none := len_ok cap taken low (pg L)
theorem pagesF (cap taken low : Int) (L : List Pl) : ATriple Try.prog gv R0 16 [.ref (0, 0) 0] [.abs (slF cap taken low L)] (i64V (L.length / 8 : Nat)) [.abs (slF cap taken low L)] none := by
  have := pages_ok cap taken low (pg L)
  rw [pg_len] at this
  exact this
theorem newF (n : Int) : ATriple Try.prog gv R0 12 [i64V n] [] (.ref (0, 0) 0) [] (some (.abs (slF (capOf n) 0 0 []))) := new_ok n
theorem ff_take (L : List Pl) : ff L < ff (tk L) := by
  induction L with
  | nil => simp [ff, tk, newPg]
  | cons p r ih =>
    by_cases h : p.t = true
    · simp [tk, ff, h, ih]
    · have : p.t = false := by simpa using h
      simp [tk, ff, this]
theorem tk_len (L : List Pl) : (tk L).length = if ff L < L.length then L.length else L.length + 8 := by
  rw [tk_eq]; split <;> simp [newPg]
theorem Inv.take {low : Int} {L : List Pl} (h : Inv low L) (hm : L.length ≤ 3992) : Inv ((ff L : Int) + 1) (tk L) where
  len := by rw [tk_len]; have := h.len; split <;> omega
  max := by rw [tk_len]; split <;> omega
  low0 := by omega
  low1 := by have := ff_take L; omega
theorem Inv.set {low : Int} {L : List Pl} (h : Inv low L) (i : Nat) (l : Option (List En)) : Inv low (L.set i ⟨true, l⟩) where
  len := by simpa using h.len
  max := by simpa using h.max
  low0 := h.low0
  low1 := by
    have h1 := h.low1
    have hb := ff_before L
    have : ff L ≤ ff (L.set i ⟨true, l⟩) := by
      have hle := ff_le L
      rcases Nat.lt_or_ge (ff (L.set i ⟨true, l⟩)) (ff L) with h2 | h2
      · exfalso
        obtain ⟨p, q1, q2⟩ := ff_at (L.set i ⟨true, l⟩) (by simp; omega)
        obtain ⟨p', q3, q4⟩ := hb _ h2
        rw [List.getElem?_set] at q1
        split at q1
        · split at q1
          · cases q1; cases q2
          · cases q1
        · rw [q3] at q1; cases q1; rw [q2] at q4; cases q4
      · exact h2
    omega
theorem Inv.unset {low : Int} {L : List Pl} (h : Inv low L) {i : Int} (hi : Has L i) : Inv (if i < low then i else low) (L.set i.toNat ⟨false, none⟩) where
  len := by simpa using h.len
  max := by simpa using h.max
  low0 := by have := h.low0; have := hi.1; split <;> omega
  low1 := by
    obtain ⟨h0, p, h1, h2⟩ := hi
    have hlt := (List.getElem?_eq_some_iff.1 h1).1
    have hl := h.low1
    have : (if i < low then i else low) ≤ (ff (L.set i.toNat ⟨false, none⟩) : Int) := by
      by_cases hf : ff (L.set i.toNat ⟨false, none⟩) < L.length
      · obtain ⟨q, q1, q2⟩ := ff_at (L.set i.toNat ⟨false, none⟩) (by simpa using hf)
        rw [List.getElem?_set] at q1
        split at q1
        · rename_i e; split <;> omega
        · by_cases hlo : (ff (L.set i.toNat ⟨false, none⟩) : Int) < low
          · obtain ⟨p', q3, q4⟩ := ff_before L _ (show ff (L.set i.toNat ⟨false, none⟩) < ff L by omega)
            rw [q3] at q1; cases q1; rw [q2] at q4; cases q4
          · split <;> omega
      · have := ff_le L
        split <;> omega
    exact this
end Go.Proofs.Ytbppemcdphgknaa
