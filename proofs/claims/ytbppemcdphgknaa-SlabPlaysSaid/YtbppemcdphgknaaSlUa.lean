/- Chapter 14: SlabPlays: a turn. -/
import Derived.Test.YtbppemcdphgknaaSlT
set_option linter.unusedVariables false
set_option linter.unusedSimpArgs false
namespace Go.Proofs.Ytbppemcdphgknaa
open Go Go.Vm
set_option maxRecDepth 100000
set_option maxHeartbeats 40000000
set_option linter.unusedSimpArgs false
set_option linter.unusedVariables false
structure Ac where
  k : Int
  at_ : Int
  l : List En
def encA (a : Ac) : List V := [.int .u8 a.k, i64V a.at_, chV a.l]
abbrev acV (l : List Ac) : V := .lst 3 (l.map encA)
theorem pure_A (l : List Ac) : PureEs (l.map encA) := fun e he v hv => by
  obtain ⟨x, _, rfl⟩ := List.mem_map.1 he
  simp [encA] at hv
  rcases hv with rfl | rfl | rfl
  · exact .int _ _
  · exact .int _ _
  · exact .lst (pure_E _)
theorem none_ok : PTriple Try.prog gv 27 [] (.bool true) := by
  refine PTriple.of_body (C := cxL) Try.func27 rfl (by kernel_rfl) (mixedOf _) fun E hE => ?_
  repeat' (conv => whnf); first
   | (refine bcase_of (fun hr => ?_) (fun hr => ?_) <;> first | (exact absurd hr (by decide)) | skip)
   | (apply And.intro; · first | exact Nat.le_of_ble_eq_true rfl | (show indep _ _ = true; kernel_rfl) | decide | exact ⟨by decide, by decide⟩ | exact ⟨Nat.le_of_ble_eq_true rfl, allOne_of rfl⟩)
   | (apply Exists.intro; apply And.intro; · first | exact rfl)
   | (apply Exists.intro; apply Exists.intro; apply Exists.intro; apply And.intro; · first | (refine ATriple.callN (take_nil) ?_ ?_ ?_ <;> rfl) | (refine ATriple.callN (get_nil0 0) ?_ ?_ ?_ <;> rfl) | (refine ATriple.callN (put_nil 0) ?_ ?_ ?_ <;> rfl) | (refine ATriple.callN (free_nil 0) ?_ ?_ ?_ <;> rfl) | (refine ATriple.callN (len_nil) ?_ ?_ ?_ <;> rfl) | (refine ATriple.callN (pages_nil) ?_ ?_ ?_ <;> rfl))
   | fail
  all_goals (conv => whnf)
  all_goals rfl
theorem light_E {l : List En} (h : lightL l = true) : l.length ≤ 1000 ∧ ∀ e ∈ l, EnOk e := by
  simp only [lightL, Bool.and_eq_true, decide_eq_true_eq, List.all_eq_true] at h
  refine ⟨by omega, fun e he => ?_⟩
  have := h.2 e he
  simp only [lightB, Bool.and_eq_true, decide_eq_true_eq] at this
  exact ⟨by omega, by omega⟩
theorem sameX {k : List En} {x : Option (List En)} (h : k = x.getD []) (hk : ∀ e ∈ k, EnOk e) (hl : k.length ≤ 1000) : PTriple Try.prog gv 25 [chV k, lV x] (.bool true) := by
  cases x with
  | none =>
    have hn : k = [] := h
    subst hn
    have := same13_ok [] [] (by simp) (by simp) (by simp)
    simp only [decide_true] at this
    exact this.nilled (.same (.nils .nil))
  | some l =>
    have hn : k = l := h
    subst hn
    have := same13_ok k k hk hk (by omega)
    show PTriple Try.prog gv 25 [chV k, chV k] (.bool true)
    simpa using this
noncomputable def cxP : Cx DV := cxOf [(12, 1), (13, 1), (14, 1), (15, 1), (16, 1), (22, 1), (24, 1), (18, 1), (21, 3), (23, 3), (26, 3)]
structure ZP where
  i : Nat
  taken : Int
  low : Int
  L : List Pl
  T : List Bool
  X : List (Option (List En))
  made : Int
def stP (room : Int) (l : List Ac) (cap : Int) (N i : Nat) (taken low : Int) (L : List Pl) (T : List Bool) (X : List (Option (List En))) (made : Int) : St DV :=
  mkSt 163 [(0, i64V room), (1, acV l), (5, .ref (21, 1) 0), (6, .ref (23, 1) 0), (7, i64V i)] [(20, .abs (slF cap taken low L)), (22, .box (rsC (1, 1) (2, 1) N N made)), (0, .row 1 (rowB T) false), (1, .row 1 (rowX X) false)] []
/-- The body of the first loop. -/
def loopOf : Code → Option Code
  | .loop b => some b
  | .seq a b => match loopOf a with
    | some c => some c
    | none => loopOf b
  | .block _ b => loopOf b
  | _ => none
noncomputable def b4 : Code := ((Try.f4.body.bind loopOf).getD .skip)
end Go.Proofs.Ytbppemcdphgknaa
