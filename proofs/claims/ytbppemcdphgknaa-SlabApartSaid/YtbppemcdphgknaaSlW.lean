/- Chapter 14: SlabApart: the places. -/
import Derived.Test.YtbppemcdphgknaaSlV
import Derived.Test.YtbppemcdphgknaaSlL
set_option linter.unusedVariables false
set_option linter.unusedSimpArgs false
namespace Go.Proofs.Ytbppemcdphgknaa
open Go Go.Vm
set_option maxRecDepth 100000
set_option maxHeartbeats 40000000
set_option linter.unusedSimpArgs false
set_option linter.unusedVariables false
def PG (g : Nat → Pl) (n : Nat) : List Pl := (List.range n).map g
theorem PG_len (g : Nat → Pl) (n : Nat) : (PG g n).length = n := by simp [PG]
theorem PG_get (g : Nat → Pl) (n i : Nat) : (PG g n)[i]? = if i < n then some (g i) else none := by
  by_cases h : i < n
  · simp [PG, h]
  · rw [if_neg h]; exact List.getElem?_eq_none (by rw [PG_len]; omega)
theorem PG_congr {f g : Nat → Pl} {n : Nat} (h : ∀ j, j < n → f j = g j) : PG f n = PG g n := List.map_congr_left fun j hj => by rw [h j (List.mem_range.1 hj)]
theorem PG_set (g : Nat → Pl) (n i : Nat) (p : Pl) : (PG g n).set i p = PG (fun j => if j = i then p else g j) n := by
  refine List.ext_getElem? fun m => ?_
  rw [List.getElem?_set, PG_get, PG_get, PG_len]
  by_cases e : i = m
  · subst e
    by_cases h : i < n
    · simp [h]
    · simp [h]
  · rw [if_neg e]
    by_cases h : m < n
    · simp [h, show ¬ m = i by omega]
    · simp [h]
theorem newPg_get (m : Nat) : newPg[m]? = if m < 8 then some (if m = 0 then ⟨true, none⟩ else ⟨false, none⟩) else none := by
  rcases m with _ | _ | _ | _ | _ | _ | _ | _ | m
  all_goals first | rfl | (rw [if_neg (by omega)]; exact List.getElem?_eq_none (by simp [newPg]))
def enX (x : Nat) : En := ⟨x, 3, 0, 0, 0, [], []⟩
def gA (x j : Nat) : Pl := if j < x then ⟨true, some [enX (j + 1)]⟩ else ⟨false, none⟩
abbrev LA (x : Nat) : List Pl := PG (gA x) (up8 x)
theorem LA_ff (x : Nat) : ff (LA x) = x := by
  have hu := up8_ge x
  refine ff_unique (by rw [PG_len]; exact hu) (fun i hi => ⟨gA x i, by rw [PG_get, if_pos (by omega)], by simp [gA, hi]⟩) fun p hp => ?_
  rw [PG_get] at hp
  split at hp
  · cases hp; simp [gA]
  · cases hp
theorem LA_next (x : Nat) : (tk (LA x)).set x ⟨true, some [enX (x + 1)]⟩ = LA (x + 1) := by
  have hu := up8_ge x
  rw [tk_eq, LA_ff, PG_len]
  refine List.ext_getElem? fun m => ?_
  by_cases h : x < up8 x
  · have hup : up8 (x + 1) = up8 x := by unfold up8 at h ⊢; omega
    rw [if_pos h, List.set_set, List.getElem?_set, PG_len, PG_get, PG_get, hup]
    by_cases e : x = m
    · subst e; rw [if_pos rfl, if_pos h, if_pos h]; simp [gA]
    · rw [if_neg e]
      by_cases h2 : m < up8 x
      · have e2 : (m < x + 1) = (m < x) := by apply propext; omega
        simp only [gA, e2]
      · rw [if_neg h2, if_neg h2]
  · have hx : up8 x = x := by omega
    have hup : up8 (x + 1) = x + 8 := by unfold up8 at hx ⊢; omega
    rw [if_neg h, List.getElem?_set, PG_get, hup]
    have hl : (LA x ++ newPg).length = x + 8 := by rw [List.length_append, PG_len, hx]; rfl
    rw [hl]
    by_cases e : x = m
    · subst e; rw [if_pos rfl, if_pos (by omega), if_pos (by omega)]; simp [gA]
    · rw [if_neg e]
      by_cases h2 : m < x
      · rw [List.getElem?_append_left (by rw [PG_len, hx]; exact h2), PG_get, hx, if_pos h2, if_pos (by omega)]
        simp [gA, h2, show m < x + 1 by omega]
      · rw [List.getElem?_append_right (by rw [PG_len]; omega), PG_len, hx, newPg_get]
        by_cases h3 : m < x + 8
        · rw [if_pos (by omega), if_pos h3, if_neg (by omega)]
          simp [gA, show ¬ m < x + 1 by omega]
        · rw [if_neg (by omega), if_neg h3]
theorem LA_inv {x : Nat} (hx : x ≤ 31) : Inv (x : Int) (LA x) := ⟨by rw [PG_len]; exact up8_8 x, by rw [PG_len]; have := up8_b (i := x) (by omega); omega, by omega, by rw [LA_ff]; omega⟩
/-- Taken, then put. -/
theorem takeA (cap : Int) (x : Nat) (hc : (x : Int) < cap) (hx : x ≤ 30) : ATriple Try.prog gv R0 13 [.ref (0, 0) 0] [.abs (slF cap x x (LA x))] (.tup [i64V x, .bool true]) [.abs (slF cap ((x + 1 : Nat) : Int) ((x + 1 : Nat) : Int) (tk (LA x)))] none := by
  have := takeF (LA_inv (x := x) (by omega)) hc
  rw [LA_ff, show IntKind.i64.wrap ((x : Int) + 1) = ((x + 1 : Nat) : Int) from wrap64 (by omega) (by omega)] at this
  exact this
def enZ (x : Nat) : List V := [i64V x, i64V 3, i64V 0, i64V 0, i64V 0, .nils, .nils]
theorem enZ_pure (x : Nat) : PureEs [enZ x] := fun e he v hv => by
  obtain rfl : e = enZ x := by simpa using he
  simp [enZ] at hv
  rcases hv with rfl | rfl | rfl | rfl
  · exact .int _ _
  · exact .int _ _
  · exact .int _ _
  · exact .nils
theorem enZ_copy (x : Nat) : PTriple Try.prog gv 44 [.lst 7 [enZ x]] (chV [enX x]) :=
  (copy_ok [enX x] (by simp) (by simp [EnOk, enX])).lst1 (.same (.same (.same (.same (.same (.nils (.nils .nil)))))))
theorem putA (cap : Int) (x : Nat) (hx : x ≤ 30) : ATriple Try.prog gv R0 22 [.ref (0, 0) 0, i64V x, .lst 7 [enZ (x + 1)]] [.abs (slF cap ((x + 1 : Nat) : Int) ((x + 1 : Nat) : Int) (tk (LA x)))] (.bool true) [.abs (slF cap ((x + 1 : Nat) : Int) ((x + 1 : Nat) : Int) (LA (x + 1)))] none := by
  have hi := (LA_inv (x := x) (by omega)).take (by rw [PG_len]; have := up8_b (i := x) (by omega); omega)
  rw [LA_ff] at hi
  have hat := tk_at (LA x)
  rw [LA_ff] at hat
  have := putFr hi (cap := cap) (taken := ((x + 1 : Nat) : Int)) (i := (x : Int)) ⟨by omega, _, by rw [Int.toNat_natCast]; exact hat, rfl⟩ [enX (x + 1)] (enZ (x + 1)) (enZ_copy _) (enZ_pure _) rfl
  rw [Int.toNat_natCast, LA_next] at this
  exact this
/-- All k places are taken and have what was put; then one is emptied, one given back. -/
def gB (k i j m : Nat) : Pl := if m = j then ⟨false, none⟩ else if m = i then ⟨true, some []⟩ else gA k m
def gC (k i j m : Nat) : Pl := if m = j then ⟨true, none⟩ else if m = i then ⟨true, some []⟩ else gA k m
theorem put0A (k i : Nat) (hk : k ≤ 31) (hi : i < k) : ATriple Try.prog gv R0 22 [.ref (0, 0) 0, i64V i, .nils] [.abs (slF k k k (LA k))] (.bool true) [.abs (slF k k k ((LA k).set i ⟨true, some []⟩))] none ∧ Inv (k : Int) ((LA k).set i ⟨true, some []⟩) := by
  have hu := up8_ge k
  have := putF0 (LA_inv hk) (cap := k) (taken := k) (i := (i : Int)) ⟨by omega, _, by rw [Int.toNat_natCast, PG_get, if_pos (by omega)], by simp [gA, hi]⟩
  rw [Int.toNat_natCast] at this
  exact ⟨this, (LA_inv hk).set i _⟩
theorem freeA (k i j : Nat) (hk : k ≤ 31) (hj : j < k) (h : Inv (k : Int) ((LA k).set i ⟨true, some []⟩)) : ATriple Try.prog gv R0 14 [.ref (0, 0) 0, i64V j] [.abs (slF k k k ((LA k).set i ⟨true, some []⟩))] (.bool true) [.abs (slF k ((k : Int) - 1) j (PG (gB k i j) (up8 k)))] none ∧ Inv (j : Int) (PG (gB k i j) (up8 k)) := by
  have hu := up8_ge k
  have hH : Has ((LA k).set i ⟨true, some []⟩) (j : Int) := ⟨by omega, _, by rw [Int.toNat_natCast, PG_set, PG_get, if_pos (by omega)], by by_cases e : j = i <;> simp [gA, e, hj]⟩
  have c := freeF h hH (cap := k) (taken := k)
  have hi := h.unset hH
  have e : ((LA k).set i ⟨true, some []⟩).set (j : Int).toNat ⟨false, none⟩ = PG (gB k i j) (up8 k) := by
    rw [Int.toNat_natCast, PG_set, PG_set]; rfl
  rw [e, if_pos (by omega)] at c hi
  rw [wrap64 (n := (k : Int) - 1) (by omega) (by omega)] at c
  exact ⟨c, hi⟩
theorem getA (k i j x : Nat) (hx : x < k) (h : Inv (j : Int) (PG (gB k i j) (up8 k))) : ATriple Try.prog gv R0 24 [.ref (0, 0) 0, i64V x] [.abs (slF k ((k : Int) - 1) j (PG (gB k i j) (up8 k)))] (if x = j then .tup [.nils, .bool false] else if x = i then .tup [chV [], .bool true] else .tup [chV [enX (x + 1)], .bool true]) [.abs (slF k ((k : Int) - 1) j (PG (gB k i j) (up8 k)))] none := by
  have hu := up8_ge k
  have hg : (PG (gB k i j) (up8 k))[x]? = some (gB k i j x) := by rw [PG_get, if_pos (by omega)]
  by_cases e : x = j
  · rw [if_pos e]
    exact getN h (.inr fun p hp => by rw [Int.toNat_natCast, hg] at hp; cases hp; simp [gB, e])
  · rw [if_neg e]
    by_cases e2 : x = i
    · rw [if_pos e2]
      have := getF h (cap := k) (taken := (k : Int) - 1) (i := (x : Int)) (p := ⟨true, some []⟩) (by omega) (by rw [Int.toNat_natCast, hg, gB, if_neg e, if_pos e2]) rfl (by simp) (by simp)
      exact this
    · rw [if_neg e2]
      have := getF h (cap := k) (taken := (k : Int) - 1) (i := (x : Int)) (p := ⟨true, some [enX (x + 1)]⟩) (by omega) (by rw [Int.toNat_natCast, hg, gB, if_neg e, if_neg e2, gA, if_pos hx]) rfl (by simp) (by simp [EnOk, enX])
      exact this
theorem takeB (k i j : Nat) (hk : k ≤ 31) (hj : j < k) (h : Inv (j : Int) (PG (gB k i j) (up8 k))) : ATriple Try.prog gv R0 13 [.ref (0, 0) 0] [.abs (slF k ((k : Int) - 1) j (PG (gB k i j) (up8 k)))] (.tup [i64V j, .bool true]) [.abs (slF k k ((j : Int) + 1) (PG (gC k i j) (up8 k)))] none ∧ Inv ((j : Int) + 1) (PG (gC k i j) (up8 k)) := by
  have hu := up8_ge k
  have hf : ff (PG (gB k i j) (up8 k)) = j := ff_unique (by rw [PG_len]; omega) (fun m hm => ⟨gB k i j m, by rw [PG_get, if_pos (by omega)], by rw [gB, if_neg (by omega)]; by_cases e : m = i <;> simp [gA, e, show m < k by omega]⟩) fun p hp => by
    rw [PG_get, if_pos (by omega)] at hp; cases hp; simp [gB]
  have ht : tk (PG (gB k i j) (up8 k)) = PG (gC k i j) (up8 k) := by
    rw [tk_eq, hf, PG_len, if_pos (by omega), PG_set]
    exact PG_congr fun m _ => by by_cases e : m = j <;> simp [gB, gC, e]
  have c := takeF h (cap := k) (taken := (k : Int) - 1) (by omega)
  have hi := h.take (by rw [PG_len]; have := up8_b (i := k) (by omega); omega)
  rw [hf, ht] at c hi
  rw [wrap64 (n := (j : Int) + 1) (by omega) (by omega), wrap64 (n := (k : Int) - 1 + 1) (by omega) (by omega), show (k : Int) - 1 + 1 = k by omega] at c
  exact ⟨c, hi⟩
theorem getC (k i j : Nat) (hk : k ≤ 31) (hj : j < k) (h : Inv ((j : Int) + 1) (PG (gC k i j) (up8 k))) : ATriple Try.prog gv R0 24 [.ref (0, 0) 0, i64V j] [.abs (slF k k ((j : Int) + 1) (PG (gC k i j) (up8 k)))] (.tup [chV [], .bool true]) [.abs (slF k k ((j : Int) + 1) (PG (gC k i j) (up8 k)))] none := by
  have hu := up8_ge k
  have := getF h (cap := k) (taken := k) (i := (j : Int)) (p := ⟨true, none⟩) (by omega) (by rw [Int.toNat_natCast, PG_get, if_pos (by omega), gC, if_pos rfl]) rfl (by simp) (by simp)
  exact this
end Go.Proofs.Ytbppemcdphgknaa
