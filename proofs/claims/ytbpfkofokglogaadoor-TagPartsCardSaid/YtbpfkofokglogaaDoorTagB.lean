/- A part of the proofs over the seat YtbpfkofokglogaaDoor. -/
import Derived.Test.YtbpfkofokglogaaDoorTagA
set_option linter.unusedVariables false
set_option linter.unusedSimpArgs false
namespace Go.Proofs.YtbpfkofokglogaaDoor
open Go Go.Vm
set_option maxRecDepth 100000
set_option linter.unusedSimpArgs false
abbrev ints (l : List Int) : V := .lst 1 (l.map fun x => [int1 x])
theorem pure_ints (l : List Int) : PureEs (l.map fun x => [int1 x]) := fun e he v hv => by
  obtain ⟨x, _, rfl⟩ := List.mem_map.1 he
  cases hv with
  | head => exact .int _ _
  | tail _ h => cases h
def netV : Int → List Int → Int × Bool
  | s, [] => (s, true)
  | s, x :: r => if (thenV s x).2 then netV (thenV s x).1 r else (0, false)
def modV (n m : Int) : Int := if n.tmod m < 0 then IntKind.i64.wrap (n.tmod m + m) else n.tmod m
def st19 (l : List Int) (n s : Int) : St Empty := mkSt 26 [(4, int1 s), (9, ints l), (10, .int .i64 (l.map fun x => [int1 x]).length), (11, int1 n)] [] []
theorem ok19 (l : List Int) (hl : l.length ≤ 1000000) : PTriple Tryd.prog gv 19 [ints l] (pair (netV 0 l)) := by
  refine PTriple.of_body (C := cx) Tryd.func19 rfl (by kernel_rfl) mixed fun E hE => ?_
  conv => whnf
  refine VLoop.norm [4, 9, 10, 11] [] ?_
  conv => whnf
  refine ⟨pure_ints l, ?_⟩
  conv => whnf
  refine VLoop.inv (fun (x : Int × Int) => st19 l x.1 x.2) (fun x => 0 ≤ x.1 ∧ x.1 ≤ l.length ∧ netV x.2 (l.drop x.1.toNat) = netV 0 l) (fun x => l.length - x.1.toNat) (0, 0) (by simp) rfl ?_
  rintro ⟨n, s⟩ ⟨h1, h2, h3⟩ ih
  simp only at h1 h2 h3 ih
  refine VLoop.unroll hE mixed ?_
  conv => whnf
  refine bcase_of (fun h => ?_) (fun h => ?_)
  · simp only [decide_eq_true_eq, List.length_map] at h
    have hlt : n.toNat < l.length := by omega
    obtain ⟨x, hx⟩ : ∃ x, l[n.toNat]? = some x := ⟨_, List.getElem?_eq_getElem hlt⟩
    have hd : l.drop n.toNat = x :: l.drop (n.toNat + 1) := by
      rw [List.drop_eq_getElem_cons hlt]
      rw [List.getElem?_eq_getElem hlt] at hx
      cases hx; rfl
    have hw : IntKind.i64.wrap (n + 1) = n + 1 := wrap64 (by omega) (by omega)
    rw [hd, netV] at h3
    repeat' (conv => whnf); first
     | refine ⟨_, rfl, ?_⟩
     | refine ⟨by first | decide | exact Nat.le_of_ble_eq_true rfl | omega, ?_⟩
     | refine ⟨⟨h1, by simpa using h⟩, ?_⟩
     | refine ⟨[int1 x], by rw [lget_eq]; simp [hx], ?_⟩
     | refine ⟨_, ok13 _ _, ?_⟩
     | (refine bcase_of (fun h => ?_) (fun h => ?_) <;> have hr := h <;> (try simp only [beq_iff_eq, beq_eq_false_iff_ne, bne_iff_ne, bne_eq_false_iff_eq, decide_eq_true_eq, decide_eq_false_iff_not, ne_eq] at h) <;> try (exfalso; first | omega | contradiction))
    all_goals (conv => whnf)
    · refine VLoop.norm [4, 9, 10, 11] [] ?_
      conv => whnf
      refine ⟨pure_ints l, ?_⟩
      conv => whnf
      refine ih (IntKind.i64.wrap (n + 1), (thenV s x).1) ?_ ?_
      · simp only [hw]
        refine ⟨by omega, by omega, ?_⟩
        rw [show (n + 1).toNat = n.toNat + 1 by omega]
        simpa [hr] using h3
      · simp only [hw]; omega
    · rw [← h3]; simp [hr, retOf]
  · simp only [decide_eq_false_iff_not, List.length_map] at h
    have hn : n.toNat = l.length := by omega
    rw [hn, List.drop_length, netV] at h3
    conv => whnf
    show pair (s, true) = _
    rw [h3]
theorem ok18 (n m : Int) (hm : m ≠ 0) : PTriple Tryd.prog gv 18 [int1 n, int1 m] (int1 (modV n m)) := by
  refine PTriple.of_body (C := cx) Tryd.func18 rfl (by kernel_rfl) mixed fun E hE => ?_
  repeat' (conv => whnf); first
   | refine ⟨_, rfl, ?_⟩
   | refine ⟨hm, ?_⟩
   | (refine bcase_of (fun h => ?_) (fun h => ?_) <;> (try simp only [decide_eq_true_eq, decide_eq_false_iff_not, ne_eq] at h) <;> try (exfalso; first | omega | contradiction))
  all_goals (conv => whnf)
  all_goals (simp [retOf, modV, *])
end Go.Proofs.YtbpfkofokglogaaDoor
