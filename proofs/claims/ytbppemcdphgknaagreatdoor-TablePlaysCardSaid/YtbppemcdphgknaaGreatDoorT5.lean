/- A part of the proofs over the seat YtbppemcdphgknaaGreatDoor. -/
import Derived.Test.YtbppemcdphgknaaGreatDoorT4
set_option linter.unusedVariables false
set_option linter.unusedSimpArgs false
set_option maxRecDepth 100000
set_option maxHeartbeats 40000000
namespace Go.Proofs.YtbppemcdphgknaaGreatDoor
open Go Go.Vm
set_option maxRecDepth 100000
set_option maxHeartbeats 40000000
set_option linter.unusedSimpArgs false
set_option linter.unusedVariables false
variable {m keep cap : Int} {Tb : Tab} {i : Nat} {x : DV}
def AIn (a : Act) : Prop := KIn a.k ∧ EnIn a.c
def A64 (a : Act) : Prop := KIn a.k ∧ RIn a.c.p ∧ RIn a.c.q ∧ in64 a.c.a ∧ in64 a.c.b
theorem light_in {a : Act} (h : A64 a) (hl : lightB a.c.p a.c.q = true) : AIn a := by
 obtain ⟨h1, h2, h3, h4, h5⟩ := h
 simp only [lightB, Bool.and_eq_true, decide_eq_true_eq] at hl
 exact ⟨h1, by omega, by omega, h2, h3, h4, h5⟩
theorem lightA_in {l : List Act} (h : ∀ a ∈ l, A64 a) (hl : lightA l = true) : ∀ a ∈ l, AIn a := fun a ha => by
 simp only [lightA, Bool.and_eq_true, List.all_eq_true] at hl
 exact light_in (h a ha) (hl.2 a ha)
def growT (m keep cap : Int) (l : List Act) : Tab := l.foldl (doT m keep cap) []
theorem grow_snoc (l : List Act) (a : Act) : growT m keep cap (l ++ [a]) = doT m keep cap (growT m keep cap l) a := by simp [growT]
def stTP (M K C : Int) (l : List Act) (ver : Int) (x : DV) (Tb : Tab) (j : Nat) : St DV := mkSt 115 [(1, actsV l), (2, i64V ver), (7, .ref (21, 1) 0), (8, .ref (45, 1) 0), (9, i64V j)] [(20, .abs x), (44, .box (rtV M K C Tb))] []
theorem tablePlays_ok (M K C : Int) (l : List Act) (ver : Int) (hA : ∀ a ∈ l, A64 a) : PTriple Tryz.prog gv 4 [.agg [i64V M, i64V K, i64V C], actsV l, i64V ver] (.bool true) := by
 have pA := pure_A l
 have lA := lenA l
 have cL := light16 l
 have cW := wakes19
 have cN := none28
 have cG := good18 M K C
 cases hl : lightA l with
 | false =>
  rw [hl] at cL
  refine PTriple.of_body (C := cxL) Tryz.func4 rfl (by kernel_rfl) (mixedOf _) fun E hE => ?_
  repeat' (conv => whnf); first
   | (refine bcase_of (fun hr => ?_) (fun hr => ?_) <;> (try simp only [bs] at hr) <;> try (exfalso; first | omega | (simp at hr; done)))
   | (apply And.intro; · first | exact pA | exact nd14)
   | (apply Exists.intro; apply And.intro; · first | exact rfl | exact cL | exact cW | exact cN | exact cG)
   | fail
  all_goals (conv => whnf)
  all_goals rfl
 | true =>
 rw [hl] at cL
 replace hA := lightA_in hA hl
 have h50 : l.length ≤ 50 := by simp [lightA] at hl; exact hl.1
 by_cases hg : (1 ≤ M ∧ M ≤ 2) ∧ (2 ≤ K ∧ K ≤ 8) ∧ 0 ≤ C ∧ C ≤ 2000
 case neg =>
  rw [show goodT M K C = false from decide_eq_false hg] at cG
  have aN := tNew_no hg
  refine PTriple.of_body (C := cxL) Tryz.func4 rfl (by kernel_rfl) (mixedOf _) fun E hE => ?_
  repeat' (conv => whnf); first
   | (refine bcase_of (fun hr => ?_) (fun hr => ?_) <;> (try simp only [bs] at hr) <;> try (exfalso; first | omega | (simp at hr; done)))
   | (apply And.intro; · first | exact pA | exact nd14)
   | (apply Exists.intro; apply And.intro; · first | exact rfl | exact cL | exact cW | exact cN | exact cG)
   | (apply Exists.intro; apply Exists.intro; apply Exists.intro; apply And.intro; · first | (refine ATriple.callN (aN) ?_ ?_ ?_ <;> rfl))
   | fail
  all_goals (conv => whnf)
  all_goals rfl
 case pos =>
 rw [show goodT M K C = true from decide_eq_true hg] at cG
 obtain ⟨x0, aN, h0⟩ := tNew hg
 refine PTriple.of_body (C := cxL) Tryz.func4 rfl (by kernel_rfl) (mixedOf _) fun E hE => ?_
 repeat' (conv => whnf); first
  | (refine bcase_of (fun hr => ?_) (fun hr => ?_) <;> (try simp only [bs] at hr) <;> try (exfalso; first | omega | (simp at hr; done)))
  | (apply And.intro; · first | exact pA | exact ⟨rfl, by decide⟩ | exact (fun e he => nomatch he) | exact nd14)
  | (apply Exists.intro; apply And.intro; · first | exact rfl | exact cL | exact cW | exact cN | exact cG)
  | (apply Exists.intro; apply Exists.intro; apply Exists.intro; apply And.intro; · first | (refine ATriple.callN (aN) ?_ ?_ ?_ <;> rfl))
  | fail
 all_goals (conv => whnf)
 refine VLoop.weak [.nil (45, 1) 3 0 5, .snap (45, 1) 3] ?_
 repeat' (conv => whnf); first
  | (refine bcase_of (fun hr => ?_) (fun hr => ?_) <;> (try simp only [bs] at hr) <;> try (exfalso; first | omega | (simp at hr; done)))
  | (apply And.intro; · first | exact pA | exact ⟨rfl, by decide⟩ | exact (fun e he => nomatch he) | exact nd14)
  | (apply Exists.intro; apply And.intro; · first | exact rfl | exact cL | exact cW | exact cN | exact cG)
  | (apply Exists.intro; apply Exists.intro; apply Exists.intro; apply And.intro; · first | (refine ATriple.callN (aN) ?_ ?_ ?_ <;> rfl))
  | fail
 all_goals (conv => whnf)
 refine VLoop.norm [1, 2, 7, 8, 9] [20, 44] ?_
 repeat' (conv => whnf); first
  | (refine bcase_of (fun hr => ?_) (fun hr => ?_) <;> (try simp only [bs] at hr) <;> try (exfalso; first | omega | (simp at hr; done)))
  | (apply And.intro; · first | exact pA | exact ⟨rfl, by decide⟩ | exact (fun e he => nomatch he) | exact nd14)
  | (apply Exists.intro; apply And.intro; · first | exact rfl | exact cL | exact cW | exact cN | exact cG)
  | (apply Exists.intro; apply Exists.intro; apply Exists.intro; apply And.intro; · first | (refine ATriple.callN (aN) ?_ ?_ ?_ <;> rfl))
  | fail
 all_goals (conv => whnf)
 refine VLoop.inv (fun z : DV × Tab × Nat => stTP M K C l ver z.1 z.2.1 z.2.2) (fun z => z.2.2 ≤ l.length ∧ ∃ i', TB M K C z.2.1 i' z.1 ∧ i' ≤ z.2.2) (fun z => l.length - z.2.2) (x0, [], 0) ⟨Nat.zero_le _, 0, h0, Nat.le_refl _⟩ rfl ?_
 rintro ⟨x, Tb, j⟩ ⟨hj, i', hT, hi'⟩ ih
 simp only at hj hT hi' ih
 show VLoop _ _ _ (stTP M K C l ver x Tb j) _
 have pT := pure_Tb Tb
 have hw : IntKind.i64.wrap ((j : Int) + 1) = ((j + 1 : Nat) : Int) := wrap64 (by omega) (by omega)
 refine VLoop.unroll hE (mixedOf _) ?_
 cases hx : l[j]? with
 | none =>
  have hx' := List.getElem?_eq_none_iff.1 hx
  have k0 := told30 hT (k := 0) ⟨by omega, by omega⟩ ver
  repeat' (conv => whnf); first
   | (refine bcase_of (fun hr => ?_) (fun hr => ?_) <;> (try simp only [bs] at hr) <;> try (exfalso; first | omega | (simp at hr; done)))
   | (apply And.intro; · first | exact pA | exact ⟨by omega, by omega⟩ | exact ⟨rfl, by decide⟩ | exact pT | exact pT' | exact nA | exact nB | exact (fun e he => nomatch he) | exact nd14)
   | (apply Exists.intro; apply And.intro; · first | exact rfl | exact cW)
   | rw [hw]
   | (apply Exists.intro; apply And.intro; · first | (refine ATriple.callK (k0) ?_ ?_ ?_ ?_ <;> first | rfl | (intro d; rfl)))
   | fail
  all_goals (conv => whnf)
  all_goals rfl
 | some a =>
  have hjl := (List.getElem?_eq_some_iff.1 hx).1
  have ha := hA a (List.mem_of_getElem? hx)
  obtain ⟨x', i2, aD, hT', hi2⟩ := do29 hT (by omega) a ha.1 ha.2
  obtain ⟨T', hT2⟩ : ∃ z, z = doT M K C Tb a := ⟨_, rfl⟩
  rw [← hT2] at aD hT'
  have pT' := pure_Tb T'
  have gi := getA hx
  have hw1 : IntKind.i64.wrap (((l.map encA).length : Int) - 1) = ((l.length - 1 : Nat) : Int) := (wrap64 (by omega) (by omega)).trans (by omega)
  have hw2 : IntKind.i64.wrap (((l.length - 1 : Nat) : Int) - (j : Int)) = ((l.length - 1 - j : Nat) : Int) := (wrap64 (by omega) (by omega)).trans (by omega)
  obtain ⟨a2, hx2⟩ : ∃ a2, l[l.length - 1 - j]? = some a2 := ⟨_, List.getElem?_eq_getElem (by omega)⟩
  have g2 := getA hx2
  have ha2 := hA a2 (List.mem_of_getElem? hx2)
  have k1 := told30 hT' ha.1 a.ver
  have k2 := told30 hT' ha2.1 ver
  have k3 := told30 hT' ha.1 a.fl
  have nA := pure_R a.c.p
  have nB := pure_R a.c.q
  repeat' (conv => whnf); first
   | (refine bcase_of (fun hr => ?_) (fun hr => ?_) <;> (try simp only [bs] at hr) <;> try (exfalso; first | omega | (simp at hr; done)))
   | (apply And.intro; · first | exact pA | exact ⟨by omega, by omega⟩ | exact ⟨rfl, by decide⟩ | exact pT | exact pT' | exact nA | exact nB | exact (fun e he => nomatch he) | exact nd14)
   | (apply Exists.intro; apply And.intro; · first | exact rfl | exact gi | exact g2)
   | (apply Exists.intro; apply Exists.intro; apply Exists.intro; apply And.intro; · first | (refine ATriple.callN (aD) ?_ ?_ ?_ <;> rfl))
   | rw [hw]
   | rw [hw1]
   | rw [hw2]
   | (apply Exists.intro; apply And.intro; · first | (refine ATriple.callK (k1) ?_ ?_ ?_ ?_ <;> first | rfl | (intro d; rfl)) | (refine ATriple.callK (k2) ?_ ?_ ?_ ?_ <;> first | rfl | (intro d; rfl)) | (refine ATriple.callK (k3) ?_ ?_ ?_ ?_ <;> first | rfl | (intro d; rfl)))
   | fail
  all_goals (conv => whnf)
  all_goals refine VLoop.norm [1, 2, 7, 8, 9] [20, 44] ?_
  repeat' (conv => whnf); first
   | (refine bcase_of (fun hr => ?_) (fun hr => ?_) <;> (try simp only [bs] at hr) <;> try (exfalso; first | omega | (simp at hr; done)))
   | (apply And.intro; · first | exact pA | exact ⟨by omega, by omega⟩ | exact ⟨rfl, by decide⟩ | exact pT | exact pT' | exact nA | exact nB | exact (fun e he => nomatch he) | exact nd14)
   | (apply Exists.intro; apply And.intro; · first | exact rfl | exact gi | exact g2)
   | (apply Exists.intro; apply Exists.intro; apply Exists.intro; apply And.intro; · first | (refine ATriple.callN (aD) ?_ ?_ ?_ <;> rfl))
   | rw [hw]
   | rw [hw1]
   | rw [hw2]
   | (apply Exists.intro; apply And.intro; · first | (refine ATriple.callK (k1) ?_ ?_ ?_ ?_ <;> first | rfl | (intro d; rfl)) | (refine ATriple.callK (k2) ?_ ?_ ?_ ?_ <;> first | rfl | (intro d; rfl)) | (refine ATriple.callK (k3) ?_ ?_ ?_ ?_ <;> first | rfl | (intro d; rfl)))
   | fail
  all_goals (conv => whnf)
  all_goals exact ih (x', T', j + 1) ⟨by simp only; omega, i2, hT', by simp only; omega⟩ (by simp only; omega)
end Go.Proofs.YtbppemcdphgknaaGreatDoor
