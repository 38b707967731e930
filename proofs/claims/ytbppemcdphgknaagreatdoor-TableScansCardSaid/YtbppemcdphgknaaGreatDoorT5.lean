/- A part of the proofs over the seat YtbppemcdphgknaaGreatDoor. -/
import Derived.Test.YtbppemcdphgknaaGreatDoorT4
set_option linter.unusedVariables false
set_option linter.unusedSimpArgs false
set_option maxRecDepth 100000
set_option maxHeartbeats 40000000
namespace Go.Proofs.YtbppemcdphgknaaGreatDoor
open Go Go.Vm
set_option maxRecDepth 100000
set_option maxHeartbeats 40000000
set_option linter.unusedSimpArgs false
set_option linter.unusedVariables false
variable {m keep cap : Int} {Tb : Tab} {i : Nat} {x : DV}
def AIn (a : Act) : Prop := KIn a.k ∧ EnIn a.c
def A64 (a : Act) : Prop := KIn a.k ∧ RIn a.c.p ∧ RIn a.c.q ∧ in64 a.c.a ∧ in64 a.c.b
theorem light_in {a : Act} (h : A64 a) (hl : lightB a.c.p a.c.q = true) : AIn a := by
 obtain ⟨h1, h2, h3, h4, h5⟩ := h
 simp only [lightB, Bool.and_eq_true, decide_eq_true_eq] at hl
 exact ⟨h1, by omega, by omega, h2, h3, h4, h5⟩
theorem lightA_in {l : List Act} (h : ∀ a ∈ l, A64 a) (hl : lightA l = true) : ∀ a ∈ l, AIn a := fun a ha => by
 simp only [lightA, Bool.and_eq_true, List.all_eq_true] at hl
 exact light_in (h a ha) (hl.2 a ha)
def growT (m keep cap : Int) (l : List Act) : Tab := l.foldl (doT m keep cap) []
theorem grow_snoc (l : List Act) (a : Act) : growT m keep cap (l ++ [a]) = doT m keep cap (growT m keep cap l) a := by simp [growT]
def stTP (M K C : Int) (l : List Act) (ver : Int) (x : DV) (Tb : Tab) (j : Nat) : St DV := mkSt 115 [(1, actsV l), (2, i64V ver), (7, .ref (21, 1) 0), (8, .ref (45, 1) 0), (9, i64V j)] [(20, .abs x), (44, .box (rtV M K C Tb))] []
theorem tablePlays_ok (M K C : Int) (l : List Act) (ver : Int) (hA : ∀ a ∈ l, A64 a) : PTriple Tryz.prog gv 4 [.agg [i64V M, i64V K, i64V C], actsV l, i64V ver] (.bool true) := by
 have pA := pure_A l
 have lA := lenA l
 have cL := light16 l
 have cW := wakes19
 have cN := none28
 have cG := good18 M K C
 cases hl : lightA l with
 | false =>
  rw [hl] at cL
  refine PTriple.of_body (C := cxL) Tryz.func4 rfl (by kernel_rfl) (mixedOf _) fun E hE => ?_
  repeat' (conv => whnf); first
   | (refine bcase_of (fun hr => ?_) (fun hr => ?_) <;> (try simp only [bs] at hr) <;> try (exfalso; first | omega | (simp at hr; done)))
   | (apply And.intro; · first | exact pA | exact nd14)
   | (apply Exists.intro; apply And.intro; · first | exact rfl | exact cL | exact cW | exact cN | exact cG)
   | fail
  all_goals (conv => whnf)
  all_goals rfl
 | true =>
 rw [hl] at cL
 replace hA := lightA_in hA hl
 have h50 : l.length ≤ 50 := by simp [lightA] at hl; exact hl.1
 by_cases hg : (1 ≤ M ∧ M ≤ 2) ∧ (2 ≤ K ∧ K ≤ 8) ∧ 0 ≤ C ∧ C ≤ 2000
 case neg =>
  rw [show goodT M K C = false from decide_eq_false hg] at cG
  have aN := tNew_no hg
  refine PTriple.of_body (C := cxL) Tryz.func4 rfl (by kernel_rfl) (mixedOf _) fun E hE => ?_
  repeat' (conv => whnf); first
   | (refine bcase_of (fun hr => ?_) (fun hr => ?_) <;> (try simp only [bs] at hr) <;> try (exfalso; first | omega | (simp at hr; done)))
   | (apply And.intro; · first | exact pA | exact nd14)
   | (apply Exists.intro; apply And.intro; · first | exact rfl | exact cL | exact cW | exact cN | exact cG)
   | (apply Exists.intro; apply Exists.intro; apply Exists.intro; apply And.intro; · first | (refine ATriple.callN (aN) ?_ ?_ ?_ <;> rfl))
   | fail
  all_goals (conv => whnf)
  all_goals rfl
 case pos =>
 rw [show goodT M K C = true from decide_eq_true hg] at cG
 obtain ⟨x0, aN, h0⟩ := tNew hg
 refine PTriple.of_body (C := cxL) Tryz.func4 rfl (by kernel_rfl) (mixedOf _) fun E hE => ?_
 repeat' (conv => whnf); first
  | (refine bcase_of (fun hr => ?_) (fun hr => ?_) <;> (try simp only [bs] at hr) <;> try (exfalso; first | omega | (simp at hr; done)))
  | (apply And.intro; · first | exact pA | exact ⟨rfl, by decide⟩ | exact (fun e he => nomatch he) | exact nd14)
  | (apply Exists.intro; apply And.intro; · first | exact rfl | exact cL | exact cW | exact cN | exact cG)
  | (apply Exists.intro; apply Exists.intro; apply Exists.intro; apply And.intro; · first | (refine ATriple.callN (aN) ?_ ?_ ?_ <;> rfl))
  | fail
 all_goals (conv => whnf)
 refine VLoop.weak [.nil (45, 1) 3 0 5, .snap (45, 1) 3] ?_
 repeat' (conv => whnf); first
  | (refine bcase_of (fun hr => ?_) (fun hr => ?_) <;> (try simp only [bs] at hr) <;> try (exfalso; first | omega | (simp at hr; done)))
  | (apply And.intro; · first | exact pA | exact ⟨rfl, by decide⟩ | exact (fun e he => nomatch he) | exact nd14)
  | (apply Exists.intro; apply And.intro; · first | exact rfl | exact cL | exact cW | exact cN | exact cG)
  | (apply Exists.intro; apply Exists.intro; apply Exists.intro; apply And.intro; · first | (refine ATriple.callN (aN) ?_ ?_ ?_ <;> rfl))
  | fail
 all_goals (conv => whnf)
 refine VLoop.norm [1, 2, 7, 8, 9] [20, 44] ?_
 repeat' (conv => whnf); first
  | (refine bcase_of (fun hr => ?_) (fun hr => ?_) <;> (try simp only [bs] at hr) <;> try (exfalso; first | omega | (simp at hr; done)))
  | (apply And.intro; · first | exact pA | exact ⟨rfl, by decide⟩ | exact (fun e he => nomatch he) | exact nd14)
  | (apply Exists.intro; apply And.intro; · first | exact rfl | exact cL | exact cW | exact cN | exact cG)
  | (apply Exists.intro; apply Exists.intro; apply Exists.intro; apply And.intro; · first | (refine ATriple.callN (aN) ?_ ?_ ?_ <;> rfl))
  | fail
 all_goals (conv => whnf)
 refine VLoop.inv (fun z : DV × Tab × Nat => stTP M K C l ver z.1 z.2.1 z.2.2) (fun z => z.2.2 ≤ l.length ∧ ∃ i', TB M K C z.2.1 i' z.1 ∧ i' ≤ z.2.2) (fun z => l.length - z.2.2) (x0, [], 0) ⟨Nat.zero_le _, 0, h0, Nat.le_refl _⟩ rfl ?_
 rintro ⟨x, Tb, j⟩ ⟨hj, i', hT, hi'⟩ ih
 simp only at hj hT hi' ih
 show VLoop _ _ _ (stTP M K C l ver x Tb j) _
 have pT := pure_Tb Tb
 have hw : IntKind.i64.wrap ((j : Int) + 1) = ((j + 1 : Nat) : Int) := wrap64 (by omega) (by omega)
 refine VLoop.unroll hE (mixedOf _) ?_
 cases hx : l[j]? with
 | none =>
  have hx' := List.getElem?_eq_none_iff.1 hx
  have k0 := told30 hT (k := 0) ⟨by omega, by omega⟩ ver
  repeat' (conv => whnf); first
   | (refine bcase_of (fun hr => ?_) (fun hr => ?_) <;> (try simp only [bs] at hr) <;> try (exfalso; first | omega | (simp at hr; done)))
   | (apply And.intro; · first | exact pA | exact ⟨by omega, by omega⟩ | exact ⟨rfl, by decide⟩ | exact pT | exact pT' | exact nA | exact nB | exact (fun e he => nomatch he) | exact nd14)
   | (apply Exists.intro; apply And.intro; · first | exact rfl | exact cW)
   | rw [hw]
   | (apply Exists.intro; apply And.intro; · first | (refine ATriple.callK (k0) ?_ ?_ ?_ ?_ <;> first | rfl | (intro d; rfl)))
   | fail
  all_goals (conv => whnf)
  all_goals rfl
 | some a =>
  have hjl := (List.getElem?_eq_some_iff.1 hx).1
  have ha := hA a (List.mem_of_getElem? hx)
  obtain ⟨x', i2, aD, hT', hi2⟩ := do29 hT (by omega) a ha.1 ha.2
  obtain ⟨T', hT2⟩ : ∃ z, z = doT M K C Tb a := ⟨_, rfl⟩
  rw [← hT2] at aD hT'
  have pT' := pure_Tb T'
  have gi := getA hx
  have hw1 : IntKind.i64.wrap (((l.map encA).length : Int) - 1) = ((l.length - 1 : Nat) : Int) := (wrap64 (by omega) (by omega)).trans (by omega)
  have hw2 : IntKind.i64.wrap (((l.length - 1 : Nat) : Int) - (j : Int)) = ((l.length - 1 - j : Nat) : Int) := (wrap64 (by omega) (by omega)).trans (by omega)
  obtain ⟨a2, hx2⟩ : ∃ a2, l[l.length - 1 - j]? = some a2 := ⟨_, List.getElem?_eq_getElem (by omega)⟩
  have g2 := getA hx2
  have ha2 := hA a2 (List.mem_of_getElem? hx2)
  have k1 := told30 hT' ha.1 a.ver
  have k2 := told30 hT' ha2.1 ver
  have k3 := told30 hT' ha.1 a.fl
  have nA := pure_R a.c.p
  have nB := pure_R a.c.q
  repeat' (conv => whnf); first
   | (refine bcase_of (fun hr => ?_) (fun hr => ?_) <;> (try simp only [bs] at hr) <;> try (exfalso; first | omega | (simp at hr; done)))
   | (apply And.intro; · first | exact pA | exact ⟨by omega, by omega⟩ | exact ⟨rfl, by decide⟩ | exact pT | exact pT' | exact nA | exact nB | exact (fun e he => nomatch he) | exact nd14)
   | (apply Exists.intro; apply And.intro; · first | exact rfl | exact gi | exact g2)
   | (apply Exists.intro; apply Exists.intro; apply Exists.intro; apply And.intro; · first | (refine ATriple.callN (aD) ?_ ?_ ?_ <;> rfl))
   | rw [hw]
   | rw [hw1]
   | rw [hw2]
   | (apply Exists.intro; apply And.intro; · first | (refine ATriple.callK (k1) ?_ ?_ ?_ ?_ <;> first | rfl | (intro d; rfl)) | (refine ATriple.callK (k2) ?_ ?_ ?_ ?_ <;> first | rfl | (intro d; rfl)) | (refine ATriple.callK (k3) ?_ ?_ ?_ ?_ <;> first | rfl | (intro d; rfl)))
   | fail
  all_goals (conv => whnf)
  all_goals refine VLoop.norm [1, 2, 7, 8, 9] [20, 44] ?_
  repeat' (conv => whnf); first
   | (refine bcase_of (fun hr => ?_) (fun hr => ?_) <;> (try simp only [bs] at hr) <;> try (exfalso; first | omega | (simp at hr; done)))
   | (apply And.intro; · first | exact pA | exact ⟨by omega, by omega⟩ | exact ⟨rfl, by decide⟩ | exact pT | exact pT' | exact nA | exact nB | exact (fun e he => nomatch he) | exact nd14)
   | (apply Exists.intro; apply And.intro; · first | exact rfl | exact gi | exact g2)
   | (apply Exists.intro; apply Exists.intro; apply Exists.intro; apply And.intro; · first | (refine ATriple.callN (aD) ?_ ?_ ?_ <;> rfl))
   | rw [hw]
   | rw [hw1]
   | rw [hw2]
   | (apply Exists.intro; apply And.intro; · first | (refine ATriple.callK (k1) ?_ ?_ ?_ ?_ <;> first | rfl | (intro d; rfl)) | (refine ATriple.callK (k2) ?_ ?_ ?_ ?_ <;> first | rfl | (intro d; rfl)) | (refine ATriple.callK (k3) ?_ ?_ ?_ ?_ <;> first | rfl | (intro d; rfl)))
   | fail
  all_goals (conv => whnf)
  all_goals exact ih (x', T', j + 1) ⟨by simp only; omega, i2, hT', by simp only; omega⟩ (by simp only; omega)
end Go.Proofs.YtbppemcdphgknaaGreatDoor
/- Chapter 18: what is grown. -/
namespace Go.Proofs.YtbppemcdphgknaaGreatDoor
open Go Go.Vm
set_option maxRecDepth 100000
set_option maxHeartbeats 40000000
set_option linter.unusedSimpArgs false
set_option linter.unusedVariables false
variable {m keep cap : Int} {Tb : Tab} {i : Nat} {x : DV}
def stGr (M K C : Int) (l : List Act) (x : DV) (Tb : Tab) (j : Nat) : St DV := mkStX 45 0 [(1, actsV l), (7, .ref (17, 1) 0), (8, .ref (25, 1) 0), (9, i64V j)] [(16, .abs x), (24, .box (rtV M K C Tb))] []
theorem grow_take {M K C : Int} {l : List Act} {j : Nat} {a : Act} (h : l[j]? = some a) : growT M K C (l.take (j + 1)) = doT M K C (growT M K C (l.take j)) a := by
  rw [take_get h, grow_snoc]
theorem grown20 (M K C : Int) (l : List Act) (hA : ∀ a ∈ l, AIn a) (hl : l.length ≤ 50) (hg : (1 ≤ M ∧ M ≤ 2) ∧ (2 ≤ K ∧ K ≤ 8) ∧ 0 ≤ C ∧ C ≤ 2000) :
    ∃ x i, YTriple Tryz.prog gv R0 20 [.agg [i64V M, i64V K, i64V C], actsV l] (.tup [.ref (0, 0) 0, .ref (0, 1) 0, .bool true]) [.abs x, .box (rtV M K C (growT M K C l))] ∧ TB M K C (growT M K C l) i x ∧ i ≤ l.length := by
  have pA := pure_A l
  have lA := lenA l
  obtain ⟨x0, aN, h0⟩ := tNew hg
  have key : ∀ j, j ≤ l.length → ∃ xs : Nat → DV, (∀ k, k ≤ j → ∃ i, TB M K C (growT M K C (l.take k)) i (xs k) ∧ i ≤ k) ∧ xs 0 = x0 ∧ ∀ k a, k < j → l[k]? = some a → ATriple Tryz.prog gv R0 29 [.ref (0, 0) 0, .ref (0, 1) 0, actV a] [.abs (xs k), .box (rtV M K C (growT M K C (l.take k)))] (.bool true) [.abs (xs (k + 1)), .box (rtV M K C (growT M K C (l.take (k + 1))))] none := by
    intro j
    induction j with
    | zero => exact fun _ => ⟨fun _ => x0, fun k hk => ⟨0, by rw [show k = 0 by omega]; exact h0, by omega⟩, rfl, fun k a hk => by omega⟩
    | succ j ih =>
      intro hj
      obtain ⟨xs, h1, h2, h3⟩ := ih (by omega)
      obtain ⟨i, hT, hi⟩ := h1 j (Nat.le_refl _)
      obtain ⟨a, ha⟩ : ∃ a, l[j]? = some a := ⟨_, List.getElem?_eq_getElem (by omega)⟩
      have hin := hA a (List.mem_of_getElem? ha)
      obtain ⟨x', i2, aD, hT', hi2⟩ := do29 hT (by omega) a hin.1 hin.2
      rw [← grow_take ha] at aD hT'
      refine ⟨fun k => if k ≤ j then xs k else x', fun k hk => ?_, by simpa using h2, fun k b hk hb => ?_⟩
      · by_cases e : k ≤ j
        · simp only [if_pos e]; exact h1 k e
        · obtain rfl : k = j + 1 := by omega
          simp only [if_neg e]; exact ⟨i2, hT', by omega⟩
      · by_cases e : k < j
        · simp only [if_pos (show k ≤ j by omega), if_pos (show k + 1 ≤ j by omega)]; exact h3 k b e hb
        · obtain rfl : k = j := by omega
          rw [ha] at hb; cases hb
          simp only [if_pos (Nat.le_refl k), if_neg (show ¬ k + 1 ≤ k by omega)]; exact aD
  obtain ⟨xs, hxT, hx0, hxD⟩ := key l.length (Nat.le_refl _)
  obtain ⟨iF, hTF, hiF⟩ := hxT l.length (Nat.le_refl _)
  rw [List.take_length] at hTF
  have pF := pure_Tb (growT M K C l)
  refine ⟨xs l.length, iF, ?_, hTF, hiF⟩
  refine YTriple.of_body (C := cxL) Tryz.func20 rfl (by kernel_rfl) (mixedOf _) ?_ (by simp) ?_ ?_ 0 fun E hE => ?_
  · intro v hv
    simp only [List.mem_cons, List.not_mem_nil, or_false] at hv
    rcases hv with rfl | rfl
    · exact .agg fun v hv => by
        simp only [List.mem_cons, List.not_mem_nil, or_false] at hv
        rcases hv with rfl | rfl | rfl <;> exact .int _ _
    · exact .lst pA
  · simp [okG, okA, okC, okN]
  · simp [okOb, okC, pF]
  repeat' (conv => whnf); first
   | (refine bcase_of (fun hr => ?_) (fun hr => ?_) <;> (try simp only [bs] at hr) <;> try (exfalso; first | omega | (simp at hr; done)))
   | (apply And.intro; · first | exact pA | exact ⟨rfl, by decide⟩ | exact (fun e he => nomatch he) | exact nb rfl | (show indep _ _ = true; kernel_rfl) | decide | exact ⟨by decide, by decide⟩ | exact ⟨nb rfl, allOne_of rfl⟩ | exact allOne_of rfl | exact ⟨rfl, rfl⟩)
   | (apply Exists.intro; apply And.intro; · first | exact rfl)
   | (apply Exists.intro; apply Exists.intro; apply Exists.intro; apply And.intro; · first | (refine ATriple.callN (aN) ?_ ?_ ?_ <;> rfl))
   | fail
  all_goals (conv => whnf)
  refine VLoop.weak [.nil (25, 1) 3 0 5, .snap (25, 1) 3] ?_
  repeat' (conv => whnf); first
   | (refine bcase_of (fun hr => ?_) (fun hr => ?_) <;> (try simp only [bs] at hr) <;> try (exfalso; first | omega | (simp at hr; done)))
   | (apply And.intro; · first | exact pA | exact ⟨rfl, by decide⟩ | exact (fun e he => nomatch he) | exact nb rfl | (show indep _ _ = true; kernel_rfl) | decide | exact ⟨by decide, by decide⟩ | exact ⟨nb rfl, allOne_of rfl⟩ | exact allOne_of rfl | exact ⟨rfl, rfl⟩)
   | (apply Exists.intro; apply And.intro; · first | exact rfl)
   | (apply Exists.intro; apply Exists.intro; apply Exists.intro; apply And.intro; · first | (refine ATriple.callN (aN) ?_ ?_ ?_ <;> rfl))
   | fail
  all_goals (conv => whnf)
  refine VLoop.norm [1, 7, 8, 9] [16, 24] ?_
  repeat' (conv => whnf); first
   | (refine bcase_of (fun hr => ?_) (fun hr => ?_) <;> (try simp only [bs] at hr) <;> try (exfalso; first | omega | (simp at hr; done)))
   | (apply And.intro; · first | exact pA | exact ⟨rfl, by decide⟩ | exact (fun e he => nomatch he) | exact nb rfl | (show indep _ _ = true; kernel_rfl) | decide | exact ⟨by decide, by decide⟩ | exact ⟨nb rfl, allOne_of rfl⟩ | exact allOne_of rfl | exact ⟨rfl, rfl⟩)
   | (apply Exists.intro; apply And.intro; · first | exact rfl)
   | (apply Exists.intro; apply Exists.intro; apply Exists.intro; apply And.intro; · first | (refine ATriple.callN (aN) ?_ ?_ ?_ <;> rfl))
   | fail
  all_goals (conv => whnf)
  refine VLoop.inv (fun j : Nat => stGr M K C l (xs j) (growT M K C (l.take j)) j) (fun j => j ≤ l.length) (fun j => l.length - j) 0 (Nat.zero_le _) (by rw [← hx0]; rfl) ?_
  intro j hj ih
  obtain ⟨Tj, hTj⟩ : ∃ z, z = growT M K C (l.take j) := ⟨_, rfl⟩
  obtain ⟨Tn, hTn⟩ : ∃ z, z = growT M K C (l.take (j + 1)) := ⟨_, rfl⟩
  have hw : IntKind.i64.wrap ((j : Int) + 1) = ((j + 1 : Nat) : Int) := wrap64 (by omega) (by omega)
  cases hx : l[j]? with
  | none =>
    have hx' := List.getElem?_eq_none_iff.1 hx
    have hjl : j = l.length := by omega
    subst hjl
    rw [List.take_length]
    refine VLoop.unroll hE (mixedOf _) ?_
    repeat' (conv => whnf); first
     | (refine bcase_of (fun hr => ?_) (fun hr => ?_) <;> (try simp only [bs] at hr) <;> try (exfalso; first | omega | (simp at hr; done)))
     | (apply And.intro; · first | exact pA | exact ⟨by omega, by omega⟩ | exact ⟨rfl, by decide⟩ | exact pF | exact pT | exact pT' | exact nA | exact nB | exact (fun e he => nomatch he) | exact nb rfl | (show indep _ _ = true; kernel_rfl) | decide | exact ⟨by decide, by decide⟩ | exact ⟨nb rfl, allOne_of rfl⟩ | exact allOne_of rfl | exact ⟨rfl, rfl⟩)
     | (apply Exists.intro; apply And.intro; · first | exact rfl)
     | fail
    all_goals (conv => whnf)
    refine ⟨[], ?_⟩
    conv => whnf
    refine ⟨[(17, 1), (25, 1)], ⟨rfl, by decide, ?_⟩, rfl⟩
    intro p hp
    simp only [List.zip_cons_cons, List.zip_nil_right, List.mem_cons, List.not_mem_nil, or_false] at hp
    rcases hp with rfl | rfl <;> rfl
  | some a =>
    have hjl := (List.getElem?_eq_some_iff.1 hx).1
    have gi := getA hx
    have aD := hxD j a hjl hx
    have nA := pure_R a.c.p
    have nB := pure_R a.c.q
    have ihn := ih (j + 1) (by omega) (by omega)
    rw [← hTj, ← hTn] at aD
    rw [← hTn] at ihn
    rw [← hTj]
    have pT := pure_Tb Tj
    have pT' := pure_Tb Tn
    refine VLoop.unroll hE (mixedOf _) ?_
    repeat' (conv => whnf); first
     | (refine bcase_of (fun hr => ?_) (fun hr => ?_) <;> (try simp only [bs] at hr) <;> try (exfalso; first | omega | (simp at hr; done)))
     | (apply And.intro; · first | exact pA | exact ⟨by omega, by omega⟩ | exact ⟨rfl, by decide⟩ | exact pF | exact pT | exact pT' | exact nA | exact nB | exact (fun e he => nomatch he) | exact nb rfl | (show indep _ _ = true; kernel_rfl) | decide | exact ⟨by decide, by decide⟩ | exact ⟨nb rfl, allOne_of rfl⟩ | exact allOne_of rfl | exact ⟨rfl, rfl⟩)
     | (apply Exists.intro; apply And.intro; · first | exact rfl | exact gi)
     | (apply Exists.intro; apply Exists.intro; apply Exists.intro; apply And.intro; · first | (refine ATriple.callN (aD) ?_ ?_ ?_ <;> rfl))
     | rw [hw]
     | fail
    all_goals (conv => whnf)
    all_goals refine VLoop.norm [1, 7, 8, 9] [16, 24] ?_
    repeat' (conv => whnf); first
     | (refine bcase_of (fun hr => ?_) (fun hr => ?_) <;> (try simp only [bs] at hr) <;> try (exfalso; first | omega | (simp at hr; done)))
     | (apply And.intro; · first | exact pA | exact ⟨by omega, by omega⟩ | exact ⟨rfl, by decide⟩ | exact pF | exact pT | exact pT' | exact nA | exact nB | exact (fun e he => nomatch he) | exact nb rfl | (show indep _ _ = true; kernel_rfl) | decide | exact ⟨by decide, by decide⟩ | exact ⟨nb rfl, allOne_of rfl⟩ | exact allOne_of rfl | exact ⟨rfl, rfl⟩)
     | (apply Exists.intro; apply And.intro; · first | exact rfl | exact gi)
     | (apply Exists.intro; apply Exists.intro; apply Exists.intro; apply And.intro; · first | (refine ATriple.callN (aD) ?_ ?_ ?_ <;> rfl))
     | rw [hw]
     | fail
    all_goals (conv => whnf)
    all_goals exact ihn
end Go.Proofs.YtbppemcdphgknaaGreatDoor
/- Chapter 18, the plain law: scans. -/
namespace Go.Proofs.YtbppemcdphgknaaGreatDoor
open Go Go.Vm
set_option maxRecDepth 100000
set_option maxHeartbeats 40000000
set_option linter.unusedSimpArgs false
set_option linter.unusedVariables false
theorem doT_len {m keep cap : Int} (Tb : Tab) (a : Act) : (doT m keep cap Tb a).length ≤ Tb.length + 1 := by
  have hs : ∀ (k : Int) (l : List En), (setT cap Tb k l).length ≤ Tb.length + 1 := fun k l => by
    unfold setT
    split
    · split
      · have := List.length_filter_le (fun x : Int × List En => x.1 != k) Tb
        unfold del; omega
      · have : ∀ T : Tab, (ins T k l).length ≤ T.length + 1 := fun T => by
          induction T with
          | nil => simp [ins]
          | cons a r ih =>
            simp only [ins]
            split
            · simp; omega
            · split <;> simp
        exact this Tb
    · omega
  unfold doT tPut tUndo tPrune
  repeat' split
  all_goals first | exact hs _ _ | omega | (simp only; omega)
theorem growT_len {m keep cap : Int} (l : List Act) : (growT m keep cap l).length ≤ l.length := by
  suffices h : ∀ (l : List Act) (T : Tab), (l.foldl (doT m keep cap) T).length ≤ T.length + l.length by simpa [growT] using h l []
  intro l
  induction l with
  | nil => intro T; simp
  | cons a r ih =>
    intro T
    have h1 := ih (doT m keep cap T a)
    have h2 := doT_len (m := m) (keep := keep) (cap := cap) T a
    simp only [List.foldl_cons, List.length_cons]; omega
theorem nxT_next {Tb : Tab} (hs : Sr Tb) {j : Nat} {e : Int × List En} (h : Tb[j]? = some e) : nxT Tb (e.1 + 1) = Tb[j + 1]? := find_next hs h
theorem nxT_first {Tb : Tab} (h : ∀ e ∈ Tb, 0 ≤ e.1) : nxT Tb 0 = Tb[0]? := find_first h
theorem scanT_app (m ver : Int) (A B : Tab) : scanT m (A ++ B) ver = scanT m A ver ++ scanT m B ver := List.filterMap_append ..
theorem scanT_at {m ver : Int} {Tb : Tab} {j : Nat} {e : Int × List En} {c : En} (h : Tb[j]? = some e) (ha : atS m e.2 ver = some c) : (scanT m Tb ver)[(scanT m (Tb.take j) ver).length]? = some (e.1, c) := by
  have h1 : Tb = Tb.take j ++ (e :: Tb.drop (j + 1)) := by rw [← drop_get h, List.take_append_drop]
  have h2 : scanT m Tb ver = scanT m (Tb.take j) ver ++ scanT m (e :: Tb.drop (j + 1)) ver := by rw [← scanT_app, ← h1]
  rw [h2, List.getElem?_append_right (Nat.le_refl _), Nat.sub_self]
  simp [scanT, ha]
theorem scanT_mem {m ver : Int} {Tb : Tab} (hs : Sr Tb) {k : Int} {c : En} (h : (k, c) ∈ scanT m Tb ver) : atS m (chT Tb k) ver = some c := by
  obtain ⟨f, hf, h1⟩ := List.mem_filterMap.1 h
  cases ha : atS m f.2 ver with
  | none => rw [ha] at h1; cases h1
  | some d =>
    rw [ha] at h1; cases h1
    unfold chT
    rw [mem_get hs (show (f.1, f.2) ∈ Tb from hf)]
    exact ha
theorem scanT_there {m ver : Int} {Tb : Tab} {k : Int} {c : En} (h : atS m (chT Tb k) ver = some c) : (k, c) ∈ scanT m Tb ver := by
  unfold chT at h
  cases hg : get Tb k with
  | none => rw [hg] at h; unfold atS at h; revert h; split <;> simp [cutN]
  | some l =>
    rw [hg] at h
    exact List.mem_filterMap.2 ⟨(k, l), get_mem hg, by simpa using h⟩
theorem atS_ok {m ver : Int} {l : List En} {c : En} (hl : ∀ e ∈ l, EnOk e) (h : atS m l ver = some c) : EnOk c := by
  have hm : c ∈ l := by
    revert h
    unfold atS
    repeat' split
    all_goals intro hs
    all_goals first | (cases hs; exact List.mem_of_getElem? (by assumption)) | cases hs
  exact hl c hm
end Go.Proofs.YtbppemcdphgknaaGreatDoor
/- Chapter 18: TableScans. -/
namespace Go.Proofs.YtbppemcdphgknaaGreatDoor
open Go Go.Vm
set_option maxRecDepth 100000
set_option maxHeartbeats 40000000
set_option linter.unusedSimpArgs false
set_option linter.unusedVariables false
noncomputable def cxG : Cx DV := cxOf [(22, 1), (26, 1), (70, 1), (20, 8), (21, 5), (23, 5), (31, 5), (33, 5), (34, 5)]
def stS1 (l : List Act) (ver : Int) (x : DV) (s : Prs) (n j : Nat) (key : Int) (more : Bool) : St DV := mkSt 177 [(1, actsV l), (2, i64V ver), (7, .ref (42, 1) 0), (10, prsV s), (11, i64V n), (12, i64V j), (13, u32V key), (14, .bool more)] [(41, .abs x)] []
def stS2 (l : List Act) (ver : Int) (x : DV) (s : Prs) (i : Nat) : St DV := mkSt 177 [(1, actsV l), (2, i64V ver), (7, .ref (42, 1) 0), (10, prsV s), (19, i64V i)] [(41, .abs x)] []
def stS3 (l : List Act) (ver : Int) (x : DV) (s : Prs) (i : Nat) (c : List V) (th b : Bool) (k : Nat) : St DV := mkSt 177 [(1, actsV l), (2, i64V ver), (7, .ref (42, 1) 0), (10, prsV s), (19, i64V i), (20, .ref (21, 1) 0), (21, .bool th), (22, .bool b), (23, i64V k)] [(20, .box c), (41, .abs x)] []
theorem tableScans_ok (M K C : Int) (l : List Act) (ver : Int) (hA : ∀ a ∈ l, A64 a) : PTriple Tryz.prog gv 5 [.agg [i64V M, i64V K, i64V C], actsV l, i64V ver] (.bool true) := by
  have pA := pure_A l
  have lA := lenA l
  have cL := light16 l
  have cW := wakes19
  have cG := good18 M K C
  by_cases hlg : lightA l = true ∧ ((1 ≤ M ∧ M ≤ 2) ∧ (2 ≤ K ∧ K ≤ 8) ∧ 0 ≤ C ∧ C ≤ 2000)
  case neg =>
    have n0 := pure_A l
    have c1 := cW
    cases hl : lightA l with
    | false =>
      rw [hl] at cL
      have c0 := cL
      have c2 := cG
      refine PTriple.of_body (C := cxG) Tryz.func5 rfl (by kernel_rfl) (mixedOf _) fun E hE => ?_
      exact go
    | true =>
      rw [hl] at cL
      rw [show goodT M K C = false from decide_eq_false fun h => hlg ⟨hl, h⟩] at cG
      have c0 := cL
      have c2 := cG
      refine PTriple.of_body (C := cxG) Tryz.func5 rfl (by kernel_rfl) (mixedOf _) fun E hE => ?_
      exact go
  case pos =>
  obtain ⟨hl, hg⟩ := hlg
  rw [hl] at cL
  rw [show goodT M K C = true from decide_eq_true hg] at cG
  replace hA := lightA_in hA hl
  have h50 : l.length ≤ 50 := by simp [lightA] at hl; exact hl.1
  obtain ⟨x, i0, y0, hT, hi0⟩ := grown20 M K C l hA h50 hg
  have hTl := growT_len (m := M) (keep := K) (cap := C) l
  obtain ⟨Tb, hTb⟩ : ∃ z, z = growT M K C l := ⟨_, rfl⟩
  rw [← hTb] at hT y0 hTl
  have ht := hT.tin
  obtain ⟨hs, _, hin⟩ := ht
  have pT := pure_Tb Tb
  have q1 := tScan hT ver
  have q2 := tLen hT
  obtain ⟨s, hsd⟩ : ∃ z, z = scanT M Tb ver := ⟨_, rfl⟩
  rw [← hsd] at q1
  have hsl := scanT_len M Tb ver
  rw [← hsd] at hsl
  have pS := pure_Pr s
  have lS := lenPr s
  have hsok : ∀ e ∈ s, EnOk e.2 := by rw [hsd]; exact scanT_ok hT.tin ver
  refine PTriple.of_body (C := cxG) Tryz.func5 rfl (by kernel_rfl) (mixedOf _) fun E hE => ?_
  repeat' (conv => whnf); first
   | (refine bcase_of (fun hr => ?_) (fun hr => ?_) <;> (try simp only [bs] at hr) <;> try (exfalso; first | omega | (simp at hr; done)))
   | (apply And.intro; · first | (show indep _ _ = true; kernel_rfl) | exact pA | exact pS | exact ⟨by omega, by omega⟩ | exact ⟨rfl, by decide⟩ | exact pT | exact pE | exact n1 | exact n2 | exact p1 | exact p2 | (show Nat.beq _ _ = false; rfl) | exact nb rfl | (show indep _ _ = true; kernel_rfl) | decide | exact ⟨by decide, by decide⟩ | exact ⟨nb rfl, allOne_of rfl⟩ | exact allOne_of rfl | exact ⟨rfl, rfl⟩)
   | (apply Exists.intro; apply And.intro; · first | exact rfl | exact cL | exact cW | exact cG | exact cK | exact cS | exact gs | exact ga)
   | (apply Exists.intro; apply Exists.intro; apply And.intro; · exact y0)
   | (apply Exists.intro; apply And.intro; · first | (refine ATriple.callK (q1) ?_ ?_ ?_ ?_ <;> first | rfl | (intro d; rfl)) | (refine ATriple.callK (q2) ?_ ?_ ?_ ?_ <;> first | rfl | (intro d; rfl)) | (refine ATriple.callK (q3) ?_ ?_ ?_ ?_ <;> first | rfl | (intro d; rfl)) | (refine ATriple.callK (q4) ?_ ?_ ?_ ?_ <;> first | rfl | (intro d; rfl)) | (refine ATriple.callK (q5) ?_ ?_ ?_ ?_ <;> first | rfl | (intro d; rfl)) | (refine ATriple.callK (q6) ?_ ?_ ?_ ?_ <;> first | rfl | (intro d; rfl)))
   | fail
  all_goals (conv => whnf)
  refine VLoop.norm [1, 2, 7, 10, 11, 12, 13, 14] [41] ?_
  repeat' (conv => whnf); first
   | (refine bcase_of (fun hr => ?_) (fun hr => ?_) <;> (try simp only [bs] at hr) <;> try (exfalso; first | omega | (simp at hr; done)))
   | (apply And.intro; · first | (show indep _ _ = true; kernel_rfl) | exact pA | exact pS | exact ⟨by omega, by omega⟩ | exact ⟨rfl, by decide⟩ | exact pT | exact pE | exact n1 | exact n2 | exact p1 | exact p2 | (show Nat.beq _ _ = false; rfl) | exact nb rfl | (show indep _ _ = true; kernel_rfl) | decide | exact ⟨by decide, by decide⟩ | exact ⟨nb rfl, allOne_of rfl⟩ | exact allOne_of rfl | exact ⟨rfl, rfl⟩)
   | (apply Exists.intro; apply And.intro; · first | exact rfl | exact cL | exact cW | exact cG | exact cK | exact cS | exact gs | exact ga)
   | (apply Exists.intro; apply Exists.intro; apply And.intro; · exact y0)
   | (apply Exists.intro; apply And.intro; · first | (refine ATriple.callK (q1) ?_ ?_ ?_ ?_ <;> first | rfl | (intro d; rfl)) | (refine ATriple.callK (q2) ?_ ?_ ?_ ?_ <;> first | rfl | (intro d; rfl)) | (refine ATriple.callK (q3) ?_ ?_ ?_ ?_ <;> first | rfl | (intro d; rfl)) | (refine ATriple.callK (q4) ?_ ?_ ?_ ?_ <;> first | rfl | (intro d; rfl)) | (refine ATriple.callK (q5) ?_ ?_ ?_ ?_ <;> first | rfl | (intro d; rfl)) | (refine ATriple.callK (q6) ?_ ?_ ?_ ?_ <;> first | rfl | (intro d; rfl)))
   | fail
  all_goals (conv => whnf)
  refine cutLoops (C := cxG) (E := E) (b := ?bq) (K := ?Kq) (fun i : Nat => stS2 l ver x s i) (fun i => i = 0) (fun hc => ?mm) ?ll
  case mm =>
    refine VLoop.inv (fun z : Nat × Int × Bool => stS1 l ver x s (scanT M (Tb.take z.1) ver).length z.1 z.2.1 z.2.2) (fun z => z.1 ≤ Tb.length ∧ (z.2.2 = true → nxT Tb z.2.1 = Tb[z.1]? ∧ ∀ e, Tb[z.1]? = some e → z.2.1 ≤ e.1) ∧ (z.2.2 = false → z.1 = Tb.length)) (fun z => Tb.length - z.1) (0, 0, true) ⟨Nat.zero_le _, fun _ => ⟨nxT_first fun e he => (hin e he).1.1, fun e he => (hin e (List.mem_of_getElem? he)).1.1⟩, fun h => by cases h⟩ rfl ?_
    rintro ⟨j, key, more⟩ ⟨hj, hm1, hm2⟩ ih
    simp only at hj hm1 hm2 ih
    obtain ⟨n, hn⟩ : ∃ n, n = (scanT M (Tb.take j) ver).length := ⟨_, rfl⟩
    show VLoop _ _ _ (stS1 l ver x s (scanT M (Tb.take j) ver).length j key more) _
    rw [← hn]
    have hend : j = Tb.length → n = s.length := fun h => by rw [hn, h, List.take_length, hsd]
    cases more with
    | false =>
      have hj2 := hm2 rfl
      have hn2 := hend hj2
      refine VLoop.unroll hE (mixedOf _) ?_
      repeat' (conv => whnf); first
       | (refine bcase_of (fun hr => ?_) (fun hr => ?_) <;> (try simp only [bs] at hr) <;> try (exfalso; first | omega | (simp at hr; done)))
       | (apply And.intro; · first | (show indep _ _ = true; kernel_rfl) | exact pA | exact pS | exact ⟨by omega, by omega⟩ | exact ⟨rfl, by decide⟩ | exact pT | exact pE | exact n1 | exact n2 | exact p1 | exact p2 | (show Nat.beq _ _ = false; rfl) | exact nb rfl | (show indep _ _ = true; kernel_rfl) | decide | exact ⟨by decide, by decide⟩ | exact ⟨nb rfl, allOne_of rfl⟩ | exact allOne_of rfl | exact ⟨rfl, rfl⟩)
       | (apply Exists.intro; apply And.intro; · first | exact rfl | exact cL | exact cW | exact cG | exact cK | exact cS | exact gs | exact ga)
       | rw [hkey2]
       | rw [hw1]
       | rw [hw2]
       | (apply Exists.intro; apply And.intro; · first | (refine ATriple.callK (q1) ?_ ?_ ?_ ?_ <;> first | rfl | (intro d; rfl)) | (refine ATriple.callK (q2) ?_ ?_ ?_ ?_ <;> first | rfl | (intro d; rfl)) | (refine ATriple.callK (q3) ?_ ?_ ?_ ?_ <;> first | rfl | (intro d; rfl)) | (refine ATriple.callK (q4) ?_ ?_ ?_ ?_ <;> first | rfl | (intro d; rfl)) | (refine ATriple.callK (q5) ?_ ?_ ?_ ?_ <;> first | rfl | (intro d; rfl)) | (refine ATriple.callK (q6) ?_ ?_ ?_ ?_ <;> first | rfl | (intro d; rfl)))
       | fail
      all_goals (conv => whnf)
      all_goals refine VLoop.norm [1, 2, 7, 10, 19] [41] ?_
      repeat' (conv => whnf); first
       | (refine bcase_of (fun hr => ?_) (fun hr => ?_) <;> (try simp only [bs] at hr) <;> try (exfalso; first | omega | (simp at hr; done)))
       | (apply And.intro; · first | (show indep _ _ = true; kernel_rfl) | exact pA | exact pS | exact ⟨by omega, by omega⟩ | exact ⟨rfl, by decide⟩ | exact pT | exact pE | exact n1 | exact n2 | exact p1 | exact p2 | (show Nat.beq _ _ = false; rfl) | exact nb rfl | (show indep _ _ = true; kernel_rfl) | decide | exact ⟨by decide, by decide⟩ | exact ⟨nb rfl, allOne_of rfl⟩ | exact allOne_of rfl | exact ⟨rfl, rfl⟩)
       | (apply Exists.intro; apply And.intro; · first | exact rfl | exact cL | exact cW | exact cG | exact cK | exact cS | exact gs | exact ga)
       | rw [hkey2]
       | rw [hw1]
       | rw [hw2]
       | (apply Exists.intro; apply And.intro; · first | (refine ATriple.callK (q1) ?_ ?_ ?_ ?_ <;> first | rfl | (intro d; rfl)) | (refine ATriple.callK (q2) ?_ ?_ ?_ ?_ <;> first | rfl | (intro d; rfl)) | (refine ATriple.callK (q3) ?_ ?_ ?_ ?_ <;> first | rfl | (intro d; rfl)) | (refine ATriple.callK (q4) ?_ ?_ ?_ ?_ <;> first | rfl | (intro d; rfl)) | (refine ATriple.callK (q5) ?_ ?_ ?_ ?_ <;> first | rfl | (intro d; rfl)) | (refine ATriple.callK (q6) ?_ ?_ ?_ ?_ <;> first | rfl | (intro d; rfl)))
       | fail
      all_goals (conv => whnf)
      exact hc 0 rfl
    | true =>
      obtain ⟨hx1, hx2⟩ := hm1 rfl
      have q3 := tNext hT key
      rw [hx1] at q3
      refine VLoop.unroll hE (mixedOf _) ?_
      cases hx : Tb[j]? with
      | none =>
        have hj2 : j = Tb.length := by have := List.getElem?_eq_none_iff.1 hx; omega
        have hn2 := hend hj2
        rw [hx] at q3
        repeat' (conv => whnf); first
         | (refine bcase_of (fun hr => ?_) (fun hr => ?_) <;> (try simp only [bs] at hr) <;> try (exfalso; first | omega | (simp at hr; done)))
         | (apply And.intro; · first | (show indep _ _ = true; kernel_rfl) | exact pA | exact pS | exact ⟨by omega, by omega⟩ | exact ⟨rfl, by decide⟩ | exact pT | exact pE | exact n1 | exact n2 | exact p1 | exact p2 | (show Nat.beq _ _ = false; rfl) | exact nb rfl | (show indep _ _ = true; kernel_rfl) | decide | exact ⟨by decide, by decide⟩ | exact ⟨nb rfl, allOne_of rfl⟩ | exact allOne_of rfl | exact ⟨rfl, rfl⟩)
         | (apply Exists.intro; apply And.intro; · first | exact rfl | exact cL | exact cW | exact cG | exact cK | exact cS | exact gs | exact ga)
         | rw [hkey2]
         | rw [hw1]
         | rw [hw2]
         | (apply Exists.intro; apply And.intro; · first | (refine ATriple.callK (q1) ?_ ?_ ?_ ?_ <;> first | rfl | (intro d; rfl)) | (refine ATriple.callK (q2) ?_ ?_ ?_ ?_ <;> first | rfl | (intro d; rfl)) | (refine ATriple.callK (q3) ?_ ?_ ?_ ?_ <;> first | rfl | (intro d; rfl)) | (refine ATriple.callK (q4) ?_ ?_ ?_ ?_ <;> first | rfl | (intro d; rfl)) | (refine ATriple.callK (q5) ?_ ?_ ?_ ?_ <;> first | rfl | (intro d; rfl)) | (refine ATriple.callK (q6) ?_ ?_ ?_ ?_ <;> first | rfl | (intro d; rfl)))
         | fail
        all_goals (conv => whnf)
        all_goals refine VLoop.norm [1, 2, 7, 10, 19] [41] ?_
        repeat' (conv => whnf); first
         | (refine bcase_of (fun hr => ?_) (fun hr => ?_) <;> (try simp only [bs] at hr) <;> try (exfalso; first | omega | (simp at hr; done)))
         | (apply And.intro; · first | (show indep _ _ = true; kernel_rfl) | exact pA | exact pS | exact ⟨by omega, by omega⟩ | exact ⟨rfl, by decide⟩ | exact pT | exact pE | exact n1 | exact n2 | exact p1 | exact p2 | (show Nat.beq _ _ = false; rfl) | exact nb rfl | (show indep _ _ = true; kernel_rfl) | decide | exact ⟨by decide, by decide⟩ | exact ⟨nb rfl, allOne_of rfl⟩ | exact allOne_of rfl | exact ⟨rfl, rfl⟩)
         | (apply Exists.intro; apply And.intro; · first | exact rfl | exact cL | exact cW | exact cG | exact cK | exact cS | exact gs | exact ga)
         | rw [hkey2]
         | rw [hw1]
         | rw [hw2]
         | (apply Exists.intro; apply And.intro; · first | (refine ATriple.callK (q1) ?_ ?_ ?_ ?_ <;> first | rfl | (intro d; rfl)) | (refine ATriple.callK (q2) ?_ ?_ ?_ ?_ <;> first | rfl | (intro d; rfl)) | (refine ATriple.callK (q3) ?_ ?_ ?_ ?_ <;> first | rfl | (intro d; rfl)) | (refine ATriple.callK (q4) ?_ ?_ ?_ ?_ <;> first | rfl | (intro d; rfl)) | (refine ATriple.callK (q5) ?_ ?_ ?_ ?_ <;> first | rfl | (intro d; rfl)) | (refine ATriple.callK (q6) ?_ ?_ ?_ ?_ <;> first | rfl | (intro d; rfl)))
         | fail
        all_goals (conv => whnf)
        exact hc 0 rfl
      | some e =>
        rw [hx] at q3
        have hjl := (List.getElem?_eq_some_iff.1 hx).1
        have hke := hx2 e hx
        have he := hin e (List.mem_of_getElem? hx)
        obtain ⟨hk1, hk2⟩ := he.1
        have cK := Key2_ok e.1 he.1
        have hget := mem_get hs (show (e.1, e.2) ∈ Tb from List.mem_of_getElem? hx)
        have hchT : chT Tb e.1 = e.2 := by unfold chT; rw [hget]; rfl
        have q4 := tChain hT he.1
        have q5 := tAt hT he.1 ver
        rw [hchT] at q4 q5
        have pE := pure_E e.2
        have lE : (e.2.map encE).length = e.2.length := by simp
        have hne : 0 < e.2.length := List.length_pos_iff.2 he.2.2.1
        have hst := scanT_take (m := M) (ver := ver) hx
        obtain ⟨key2, hkey2⟩ : ∃ z, IntKind.u32.wrap (e.1 + 1) = z := ⟨_, rfl⟩
        have hw1 : IntKind.i64.wrap ((j : Int) + 1) = ((j + 1 : Nat) : Int) := wrap64 (by omega) (by omega)
        have hnl : n ≤ j := by rw [hn]; have := scanT_len M (Tb.take j) ver; rw [List.length_take] at this; omega
        have hw2 : IntKind.i64.wrap ((n : Int) + 1) = ((n + 1 : Nat) : Int) := wrap64 (by omega) (by omega)
        have hI : j + 1 ≤ Tb.length ∧ (decide (e.1 < 4294967295) = true → nxT Tb key2 = Tb[j + 1]? ∧ ∀ f, Tb[j + 1]? = some f → key2 ≤ f.1) ∧ (decide (e.1 < 4294967295) = false → j + 1 = Tb.length) := by
          refine ⟨by omega, fun h => ?_, fun h => ?_⟩
          · have h' := of_decide_eq_true h
            have hk : key2 = e.1 + 1 := by rw [← hkey2, wrap32]; omega
            rw [hk]
            refine ⟨nxT_next hs hx, fun f hf => ?_⟩
            have h2 := (List.getElem?_eq_some_iff.1 hf).1
            have h3 := (List.pairwise_iff_getElem.1 hs) j (j + 1) hjl h2 (by omega)
            rw [List.getElem?_eq_getElem hjl] at hx
            rw [List.getElem?_eq_getElem h2] at hf
            rw [Option.some.inj hx, Option.some.inj hf] at h3
            omega
          · have h' := of_decide_eq_false h
            refine Nat.le_antisymm (by omega) (Nat.le_of_not_lt fun h2 => ?_)
            have h3 := (List.pairwise_iff_getElem.1 hs) j (j + 1) hjl h2 (by omega)
            have h4 := (hin _ (List.getElem_mem h2)).1.2
            rw [List.getElem?_eq_getElem hjl] at hx
            rw [Option.some.inj hx] at h3
            omega
        cases hat : atS M e.2 ver with
        | none =>
          rw [hat] at q5 hst
          have n1 := pure_nil
          have hst' : (scanT M (Tb.take (j + 1)) ver).length = n := by rw [hst, hn]; simp
          repeat' (conv => whnf); first
           | (refine bcase_of (fun hr => ?_) (fun hr => ?_) <;> (try simp only [bs] at hr) <;> try (exfalso; first | omega | (simp at hr; done)))
           | (apply And.intro; · first | (show indep _ _ = true; kernel_rfl) | exact pA | exact pS | exact ⟨by omega, by omega⟩ | exact ⟨rfl, by decide⟩ | exact pT | exact pE | exact n1 | exact n2 | exact p1 | exact p2 | (show Nat.beq _ _ = false; rfl) | exact nb rfl | (show indep _ _ = true; kernel_rfl) | decide | exact ⟨by decide, by decide⟩ | exact ⟨nb rfl, allOne_of rfl⟩ | exact allOne_of rfl | exact ⟨rfl, rfl⟩)
           | (apply Exists.intro; apply And.intro; · first | exact rfl | exact cL | exact cW | exact cG | exact cK | exact cS | exact gs | exact ga)
           | rw [hkey2]
           | rw [hw1]
           | rw [hw2]
           | (apply Exists.intro; apply And.intro; · first | (refine ATriple.callK (q1) ?_ ?_ ?_ ?_ <;> first | rfl | (intro d; rfl)) | (refine ATriple.callK (q2) ?_ ?_ ?_ ?_ <;> first | rfl | (intro d; rfl)) | (refine ATriple.callK (q3) ?_ ?_ ?_ ?_ <;> first | rfl | (intro d; rfl)) | (refine ATriple.callK (q4) ?_ ?_ ?_ ?_ <;> first | rfl | (intro d; rfl)) | (refine ATriple.callK (q5) ?_ ?_ ?_ ?_ <;> first | rfl | (intro d; rfl)) | (refine ATriple.callK (q6) ?_ ?_ ?_ ?_ <;> first | rfl | (intro d; rfl)))
           | fail
          all_goals (conv => whnf)
          all_goals refine VLoop.norm [1, 2, 7, 10, 11, 12, 13, 14] [41] ?_
          repeat' (conv => whnf); first
           | (refine bcase_of (fun hr => ?_) (fun hr => ?_) <;> (try simp only [bs] at hr) <;> try (exfalso; first | omega | (simp at hr; done)))
           | (apply And.intro; · first | (show indep _ _ = true; kernel_rfl) | exact pA | exact pS | exact ⟨by omega, by omega⟩ | exact ⟨rfl, by decide⟩ | exact pT | exact pE | exact n1 | exact n2 | exact p1 | exact p2 | (show Nat.beq _ _ = false; rfl) | exact nb rfl | (show indep _ _ = true; kernel_rfl) | decide | exact ⟨by decide, by decide⟩ | exact ⟨nb rfl, allOne_of rfl⟩ | exact allOne_of rfl | exact ⟨rfl, rfl⟩)
           | (apply Exists.intro; apply And.intro; · first | exact rfl | exact cL | exact cW | exact cG | exact cK | exact cS | exact gs | exact ga)
           | rw [hkey2]
           | rw [hw1]
           | rw [hw2]
           | (apply Exists.intro; apply And.intro; · first | (refine ATriple.callK (q1) ?_ ?_ ?_ ?_ <;> first | rfl | (intro d; rfl)) | (refine ATriple.callK (q2) ?_ ?_ ?_ ?_ <;> first | rfl | (intro d; rfl)) | (refine ATriple.callK (q3) ?_ ?_ ?_ ?_ <;> first | rfl | (intro d; rfl)) | (refine ATriple.callK (q4) ?_ ?_ ?_ ?_ <;> first | rfl | (intro d; rfl)) | (refine ATriple.callK (q5) ?_ ?_ ?_ ?_ <;> first | rfl | (intro d; rfl)) | (refine ATriple.callK (q6) ?_ ?_ ?_ ?_ <;> first | rfl | (intro d; rfl)))
           | fail
          all_goals (conv => whnf)
          all_goals (first | (have := ih (j + 1, key2, true) ⟨hI.1, fun _ => hI.2.1 (by first | rfl | (apply decide_eq_true; omega)), fun h => by cases h⟩ (by simp only; omega); simp only [hst'] at this; exact this) | (have := ih (j + 1, key2, false) ⟨hI.1, fun h => (by cases h), fun _ => hI.2.2 (by apply decide_eq_false; omega)⟩ (by simp only; omega); simp only [hst'] at this; exact this))
        | some c =>
          rw [hat] at q5 hst
          have hsn : s[n]? = some (e.1, c) := by rw [hsd, hn]; exact scanT_at hx hat
          have hnl2 := (List.getElem?_eq_some_iff.1 hsn).1
          have gs := getPr hsn
          have hcok := hsok _ (List.mem_of_getElem? hsn)
          have cS := same9_ok c.n c.a c.b c.n c.a c.b c.p c.q c.p c.q hcok.1 hcok.2 hcok.1 hcok.2
          rw [decide_eq_true ⟨rfl, rfl, rfl, rfl, rfl⟩] at cS
          have n1 := pure_R c.p
          have n2 := pure_R c.q
          have hst' : (scanT M (Tb.take (j + 1)) ver).length = n + 1 := by rw [hst, hn]; simp
          repeat' (conv => whnf); first
           | (refine bcase_of (fun hr => ?_) (fun hr => ?_) <;> (try simp only [bs] at hr) <;> try (exfalso; first | omega | (simp at hr; done)))
           | (apply And.intro; · first | (show indep _ _ = true; kernel_rfl) | exact pA | exact pS | exact ⟨by omega, by omega⟩ | exact ⟨rfl, by decide⟩ | exact pT | exact pE | exact n1 | exact n2 | exact p1 | exact p2 | (show Nat.beq _ _ = false; rfl) | exact nb rfl | (show indep _ _ = true; kernel_rfl) | decide | exact ⟨by decide, by decide⟩ | exact ⟨nb rfl, allOne_of rfl⟩ | exact allOne_of rfl | exact ⟨rfl, rfl⟩)
           | (apply Exists.intro; apply And.intro; · first | exact rfl | exact cL | exact cW | exact cG | exact cK | exact cS | exact gs | exact ga)
           | rw [hkey2]
           | rw [hw1]
           | rw [hw2]
           | (apply Exists.intro; apply And.intro; · first | (refine ATriple.callK (q1) ?_ ?_ ?_ ?_ <;> first | rfl | (intro d; rfl)) | (refine ATriple.callK (q2) ?_ ?_ ?_ ?_ <;> first | rfl | (intro d; rfl)) | (refine ATriple.callK (q3) ?_ ?_ ?_ ?_ <;> first | rfl | (intro d; rfl)) | (refine ATriple.callK (q4) ?_ ?_ ?_ ?_ <;> first | rfl | (intro d; rfl)) | (refine ATriple.callK (q5) ?_ ?_ ?_ ?_ <;> first | rfl | (intro d; rfl)) | (refine ATriple.callK (q6) ?_ ?_ ?_ ?_ <;> first | rfl | (intro d; rfl)))
           | fail
          all_goals (conv => whnf)
          all_goals refine VLoop.norm [1, 2, 7, 10, 11, 12, 13, 14] [41] ?_
          repeat' (conv => whnf); first
           | (refine bcase_of (fun hr => ?_) (fun hr => ?_) <;> (try simp only [bs] at hr) <;> try (exfalso; first | omega | (simp at hr; done)))
           | (apply And.intro; · first | (show indep _ _ = true; kernel_rfl) | exact pA | exact pS | exact ⟨by omega, by omega⟩ | exact ⟨rfl, by decide⟩ | exact pT | exact pE | exact n1 | exact n2 | exact p1 | exact p2 | (show Nat.beq _ _ = false; rfl) | exact nb rfl | (show indep _ _ = true; kernel_rfl) | decide | exact ⟨by decide, by decide⟩ | exact ⟨nb rfl, allOne_of rfl⟩ | exact allOne_of rfl | exact ⟨rfl, rfl⟩)
           | (apply Exists.intro; apply And.intro; · first | exact rfl | exact cL | exact cW | exact cG | exact cK | exact cS | exact gs | exact ga)
           | rw [hkey2]
           | rw [hw1]
           | rw [hw2]
           | (apply Exists.intro; apply And.intro; · first | (refine ATriple.callK (q1) ?_ ?_ ?_ ?_ <;> first | rfl | (intro d; rfl)) | (refine ATriple.callK (q2) ?_ ?_ ?_ ?_ <;> first | rfl | (intro d; rfl)) | (refine ATriple.callK (q3) ?_ ?_ ?_ ?_ <;> first | rfl | (intro d; rfl)) | (refine ATriple.callK (q4) ?_ ?_ ?_ ?_ <;> first | rfl | (intro d; rfl)) | (refine ATriple.callK (q5) ?_ ?_ ?_ ?_ <;> first | rfl | (intro d; rfl)) | (refine ATriple.callK (q6) ?_ ?_ ?_ ?_ <;> first | rfl | (intro d; rfl)))
           | fail
          all_goals (conv => whnf)
          all_goals (first | (have := ih (j + 1, key2, true) ⟨hI.1, fun _ => hI.2.1 (by first | rfl | (apply decide_eq_true; omega)), fun h => by cases h⟩ (by simp only; omega); simp only [hst'] at this; exact this) | (have := ih (j + 1, key2, false) ⟨hI.1, fun h => (by cases h), fun _ => hI.2.2 (by apply decide_eq_false; omega)⟩ (by simp only; omega); simp only [hst'] at this; exact this))
  case ll =>
    rintro i rfl
    refine VLoop.inv (fun i : Nat => stS2 l ver x s i) (fun i => i ≤ l.length) (fun i => l.length - i) 0 (Nat.zero_le _) rfl ?_
    intro i hi ih
    have hw1 : IntKind.i64.wrap ((i : Int) + 1) = ((i + 1 : Nat) : Int) := wrap64 (by omega) (by omega)
    refine VLoop.unroll hE (mixedOf _) ?_
    cases hx : l[i]? with
    | none =>
      have hx' := List.getElem?_eq_none_iff.1 hx
      repeat' (conv => whnf); first
       | (refine bcase_of (fun hr => ?_) (fun hr => ?_) <;> (try simp only [bs] at hr) <;> try (exfalso; first | omega | (simp at hr; done)))
       | (apply And.intro; · first | (show indep _ _ = true; kernel_rfl) | exact pA | exact pS | exact ⟨by omega, by omega⟩ | exact ⟨rfl, by decide⟩ | exact pT | exact pE | exact n1 | exact n2 | exact p1 | exact p2 | (show Nat.beq _ _ = false; rfl) | exact nb rfl | (show indep _ _ = true; kernel_rfl) | decide | exact ⟨by decide, by decide⟩ | exact ⟨nb rfl, allOne_of rfl⟩ | exact allOne_of rfl | exact ⟨rfl, rfl⟩)
       | (apply Exists.intro; apply And.intro; · first | exact rfl | exact cL | exact cW | exact cG | exact cK | exact cS | exact gs | exact ga)
       | rw [hkey2]
       | rw [hw1]
       | rw [hw2]
       | (apply Exists.intro; apply And.intro; · first | (refine ATriple.callK (q1) ?_ ?_ ?_ ?_ <;> first | rfl | (intro d; rfl)) | (refine ATriple.callK (q2) ?_ ?_ ?_ ?_ <;> first | rfl | (intro d; rfl)) | (refine ATriple.callK (q3) ?_ ?_ ?_ ?_ <;> first | rfl | (intro d; rfl)) | (refine ATriple.callK (q4) ?_ ?_ ?_ ?_ <;> first | rfl | (intro d; rfl)) | (refine ATriple.callK (q5) ?_ ?_ ?_ ?_ <;> first | rfl | (intro d; rfl)) | (refine ATriple.callK (q6) ?_ ?_ ?_ ?_ <;> first | rfl | (intro d; rfl)))
       | fail
      all_goals (conv => whnf)
      all_goals rfl
    | some a =>
      have hil := (List.getElem?_eq_some_iff.1 hx).1
      have ha := hA a (List.mem_of_getElem? hx)
      have ga := getA hx
      have q6 := tAt hT ha.1 ver
      obtain ⟨ha1, ha2⟩ := ha.1
      obtain ⟨c, th, hc0, hcc⟩ : ∃ (c : En) (th : Bool), atV (atS M (chT Tb a.k) ver) = .tup [cellV c.n c.a c.b c.p c.q, .bool th] ∧ EnOk c ∧ ((th = true ∧ atS M (chT Tb a.k) ver = some c) ∨ (th = false ∧ atS M (chT Tb a.k) ver = none)) := by
        cases hat : atS M (chT Tb a.k) ver with
        | none => exact ⟨⟨0, 0, 0, 0, 0, [], []⟩, false, rfl, ⟨by simp, by simp⟩, .inr ⟨rfl, rfl⟩⟩
        | some c => exact ⟨c, true, rfl, atS_ok (fun e he => by have := (hT.chIn a.k).1.2 e he; exact ⟨this.lp, this.lq⟩) hat, .inl ⟨rfl, rfl⟩⟩
      rw [hc0] at q6
      have n1 := pure_R c.p
      have n2 := pure_R c.q
      have hmem : ∀ (k : Nat) (e : Int × En), s[k]? = some e → e.1 = a.k → th = true ∧ e.2 = c := fun k e hk he => by
        have h1 : (a.k, e.2) ∈ scanT M Tb ver := by rw [← hsd, ← he]; exact List.mem_of_getElem? hk
        have h2 := scanT_mem hs h1
        rcases hcc.2 with ⟨h3, h4⟩ | ⟨h3, h4⟩
        · rw [h2] at h4; exact ⟨h3, Option.some.inj h4⟩
        · rw [h2] at h4; cases h4
      have hthere : th = true → ∃ k, s[k]? = some (a.k, c) := fun h => by
        rcases hcc.2 with ⟨h3, h4⟩ | ⟨h3, h4⟩
        · have := scanT_there h4
          rw [← hsd] at this
          exact List.mem_iff_getElem?.1 this
        · rw [h] at h3; cases h3
      cases th with
      | true =>
        repeat' (conv => whnf); first
         | (refine bcase_of (fun hr => ?_) (fun hr => ?_) <;> (try simp only [bs] at hr) <;> try (exfalso; first | omega | (simp at hr; done)))
         | (apply And.intro; · first | (show indep _ _ = true; kernel_rfl) | exact pA | exact pS | exact ⟨by omega, by omega⟩ | exact ⟨rfl, by decide⟩ | exact pT | exact pE | exact n1 | exact n2 | exact p1 | exact p2 | (show Nat.beq _ _ = false; rfl) | exact nb rfl | (show indep _ _ = true; kernel_rfl) | decide | exact ⟨by decide, by decide⟩ | exact ⟨nb rfl, allOne_of rfl⟩ | exact allOne_of rfl | exact ⟨rfl, rfl⟩)
         | (apply Exists.intro; apply And.intro; · first | exact rfl | exact cL | exact cW | exact cG | exact cK | exact cS | exact gs | exact ga)
         | rw [hkey2]
         | rw [hw1]
         | rw [hw2]
         | (apply Exists.intro; apply And.intro; · first | (refine ATriple.callK (q1) ?_ ?_ ?_ ?_ <;> first | rfl | (intro d; rfl)) | (refine ATriple.callK (q2) ?_ ?_ ?_ ?_ <;> first | rfl | (intro d; rfl)) | (refine ATriple.callK (q3) ?_ ?_ ?_ ?_ <;> first | rfl | (intro d; rfl)) | (refine ATriple.callK (q4) ?_ ?_ ?_ ?_ <;> first | rfl | (intro d; rfl)) | (refine ATriple.callK (q5) ?_ ?_ ?_ ?_ <;> first | rfl | (intro d; rfl)) | (refine ATriple.callK (q6) ?_ ?_ ?_ ?_ <;> first | rfl | (intro d; rfl)))
         | fail
        all_goals (conv => whnf)
        all_goals refine VLoop.norm [1, 2, 7, 10, 19, 20, 21, 22, 23] [20, 41] ?_
        repeat' (conv => whnf); first
         | (refine bcase_of (fun hr => ?_) (fun hr => ?_) <;> (try simp only [bs] at hr) <;> try (exfalso; first | omega | (simp at hr; done)))
         | (apply And.intro; · first | (show indep _ _ = true; kernel_rfl) | exact pA | exact pS | exact ⟨by omega, by omega⟩ | exact ⟨rfl, by decide⟩ | exact pT | exact pE | exact n1 | exact n2 | exact p1 | exact p2 | (show Nat.beq _ _ = false; rfl) | exact nb rfl | (show indep _ _ = true; kernel_rfl) | decide | exact ⟨by decide, by decide⟩ | exact ⟨nb rfl, allOne_of rfl⟩ | exact allOne_of rfl | exact ⟨rfl, rfl⟩)
         | (apply Exists.intro; apply And.intro; · first | exact rfl | exact cL | exact cW | exact cG | exact cK | exact cS | exact gs | exact ga)
         | rw [hkey2]
         | rw [hw1]
         | rw [hw2]
         | (apply Exists.intro; apply And.intro; · first | (refine ATriple.callK (q1) ?_ ?_ ?_ ?_ <;> first | rfl | (intro d; rfl)) | (refine ATriple.callK (q2) ?_ ?_ ?_ ?_ <;> first | rfl | (intro d; rfl)) | (refine ATriple.callK (q3) ?_ ?_ ?_ ?_ <;> first | rfl | (intro d; rfl)) | (refine ATriple.callK (q4) ?_ ?_ ?_ ?_ <;> first | rfl | (intro d; rfl)) | (refine ATriple.callK (q5) ?_ ?_ ?_ ?_ <;> first | rfl | (intro d; rfl)) | (refine ATriple.callK (q6) ?_ ?_ ?_ ?_ <;> first | rfl | (intro d; rfl)))
         | fail
        all_goals (conv => whnf)
        all_goals refine VLoop.inv (fun z : Nat × Bool => stS3 l ver x s i [i64V c.n, i64V c.a, i64V c.b, bagV c.p, bagV c.q] true z.2 z.1) (fun z => z.1 ≤ s.length ∧ (z.2 = true → true = true) ∧ (z.2 = false → ∀ (k : Nat) (e : Int × En), k < z.1 → s[k]? = some e → e.1 ≠ a.k)) (fun z => s.length - z.1) (0, false) ⟨Nat.zero_le _, (fun h => by cases h), fun _ k e hk => by omega⟩ rfl ?_
        all_goals
          rintro ⟨k, b⟩ ⟨hk, hb1, hb2⟩ ih2
          simp only at hk hb1 hb2 ih2
          have hw2 : IntKind.i64.wrap ((k : Int) + 1) = ((k + 1 : Nat) : Int) := wrap64 (by omega) (by omega)
          refine VLoop.unroll hE (mixedOf _) ?_
          cases hsk : s[k]? with
          | none =>
            have hk' := List.getElem?_eq_none_iff.1 hsk
            have hbt : b = true := by
              cases b with
              | true => first | rfl | exact (hb1 rfl).symm | (cases hb1 rfl)
              | false =>
                obtain ⟨k2, hk2⟩ := hthere rfl
                have hk3 := (List.getElem?_eq_some_iff.1 hk2).1
                exact absurd rfl (hb2 rfl k2 _ (by omega) hk2)
            subst hbt
            repeat' (conv => whnf); first
             | (refine bcase_of (fun hr => ?_) (fun hr => ?_) <;> (try simp only [bs] at hr) <;> try (exfalso; first | omega | (simp at hr; done)))
             | (apply And.intro; · first | (show indep _ _ = true; kernel_rfl) | exact pA | exact pS | exact ⟨by omega, by omega⟩ | exact ⟨rfl, by decide⟩ | exact pT | exact pE | exact n1 | exact n2 | exact p1 | exact p2 | (show Nat.beq _ _ = false; rfl) | exact nb rfl | (show indep _ _ = true; kernel_rfl) | decide | exact ⟨by decide, by decide⟩ | exact ⟨nb rfl, allOne_of rfl⟩ | exact allOne_of rfl | exact ⟨rfl, rfl⟩)
             | (apply Exists.intro; apply And.intro; · first | exact rfl | exact cL | exact cW | exact cG | exact cK | exact cS | exact gs | exact ga)
             | rw [hkey2]
             | rw [hw1]
             | rw [hw2]
             | (apply Exists.intro; apply And.intro; · first | (refine ATriple.callK (q1) ?_ ?_ ?_ ?_ <;> first | rfl | (intro d; rfl)) | (refine ATriple.callK (q2) ?_ ?_ ?_ ?_ <;> first | rfl | (intro d; rfl)) | (refine ATriple.callK (q3) ?_ ?_ ?_ ?_ <;> first | rfl | (intro d; rfl)) | (refine ATriple.callK (q4) ?_ ?_ ?_ ?_ <;> first | rfl | (intro d; rfl)) | (refine ATriple.callK (q5) ?_ ?_ ?_ ?_ <;> first | rfl | (intro d; rfl)) | (refine ATriple.callK (q6) ?_ ?_ ?_ ?_ <;> first | rfl | (intro d; rfl)))
             | fail
            all_goals (conv => whnf)
            all_goals refine VLoop.norm [1, 2, 7, 10, 19] [41] ?_
            repeat' (conv => whnf); first
             | (refine bcase_of (fun hr => ?_) (fun hr => ?_) <;> (try simp only [bs] at hr) <;> try (exfalso; first | omega | (simp at hr; done)))
             | (apply And.intro; · first | (show indep _ _ = true; kernel_rfl) | exact pA | exact pS | exact ⟨by omega, by omega⟩ | exact ⟨rfl, by decide⟩ | exact pT | exact pE | exact n1 | exact n2 | exact p1 | exact p2 | (show Nat.beq _ _ = false; rfl) | exact nb rfl | (show indep _ _ = true; kernel_rfl) | decide | exact ⟨by decide, by decide⟩ | exact ⟨nb rfl, allOne_of rfl⟩ | exact allOne_of rfl | exact ⟨rfl, rfl⟩)
             | (apply Exists.intro; apply And.intro; · first | exact rfl | exact cL | exact cW | exact cG | exact cK | exact cS | exact gs | exact ga)
             | rw [hkey2]
             | rw [hw1]
             | rw [hw2]
             | (apply Exists.intro; apply And.intro; · first | (refine ATriple.callK (q1) ?_ ?_ ?_ ?_ <;> first | rfl | (intro d; rfl)) | (refine ATriple.callK (q2) ?_ ?_ ?_ ?_ <;> first | rfl | (intro d; rfl)) | (refine ATriple.callK (q3) ?_ ?_ ?_ ?_ <;> first | rfl | (intro d; rfl)) | (refine ATriple.callK (q4) ?_ ?_ ?_ ?_ <;> first | rfl | (intro d; rfl)) | (refine ATriple.callK (q5) ?_ ?_ ?_ ?_ <;> first | rfl | (intro d; rfl)) | (refine ATriple.callK (q6) ?_ ?_ ?_ ?_ <;> first | rfl | (intro d; rfl)))
             | fail
            all_goals (conv => whnf)
            all_goals exact ih (i + 1) (by omega) (by omega)
          | some e =>
            have hkl := (List.getElem?_eq_some_iff.1 hsk).1
            have gs := getPr hsk
            have p1 := pure_R e.2.p
            have p2 := pure_R e.2.q
            have hek : KIn e.1 := by
              have h1 : (e.1, e.2) ∈ scanT M Tb ver := by rw [← hsd]; exact List.mem_of_getElem? hsk
              obtain ⟨f, hf, h2⟩ := List.mem_filterMap.1 h1
              cases h3 : atS M f.2 ver with
              | none => rw [h3] at h2; cases h2
              | some d => rw [h3] at h2; have h5 : f.1 = e.1 := congrArg Prod.fst (Option.some.inj h2); rw [← h5]; exact (hin f hf).1
            obtain ⟨he1, he2⟩ := hek
            by_cases hkk : e.1 = a.k
            · obtain ⟨hth, hec⟩ := hmem k e hsk hkk
              subst hec
              have cS := same9_ok e.2.n e.2.a e.2.b e.2.n e.2.a e.2.b e.2.p e.2.q e.2.p e.2.q hcc.1.1 hcc.1.2 hcc.1.1 hcc.1.2
              rw [decide_eq_true ⟨rfl, rfl, rfl, rfl, rfl⟩] at cS
              cases b
              all_goals
                repeat' (conv => whnf); first
                 | (refine bcase_of (fun hr => ?_) (fun hr => ?_) <;> (try simp only [bs] at hr) <;> try (exfalso; first | omega | (simp at hr; done)))
                 | (apply And.intro; · first | (show indep _ _ = true; kernel_rfl) | exact pA | exact pS | exact ⟨by omega, by omega⟩ | exact ⟨rfl, by decide⟩ | exact pT | exact pE | exact n1 | exact n2 | exact p1 | exact p2 | (show Nat.beq _ _ = false; rfl) | exact nb rfl | (show indep _ _ = true; kernel_rfl) | decide | exact ⟨by decide, by decide⟩ | exact ⟨nb rfl, allOne_of rfl⟩ | exact allOne_of rfl | exact ⟨rfl, rfl⟩)
                 | (apply Exists.intro; apply And.intro; · first | exact rfl | exact cL | exact cW | exact cG | exact cK | exact cS | exact gs | exact ga)
                 | rw [hkey2]
                 | rw [hw1]
                 | rw [hw2]
                 | (apply Exists.intro; apply And.intro; · first | (refine ATriple.callK (q1) ?_ ?_ ?_ ?_ <;> first | rfl | (intro d; rfl)) | (refine ATriple.callK (q2) ?_ ?_ ?_ ?_ <;> first | rfl | (intro d; rfl)) | (refine ATriple.callK (q3) ?_ ?_ ?_ ?_ <;> first | rfl | (intro d; rfl)) | (refine ATriple.callK (q4) ?_ ?_ ?_ ?_ <;> first | rfl | (intro d; rfl)) | (refine ATriple.callK (q5) ?_ ?_ ?_ ?_ <;> first | rfl | (intro d; rfl)) | (refine ATriple.callK (q6) ?_ ?_ ?_ ?_ <;> first | rfl | (intro d; rfl)))
                 | fail
              all_goals (conv => whnf)
              all_goals refine VLoop.norm [1, 2, 7, 10, 19, 20, 21, 22, 23] [20, 41] ?_
              all_goals
                repeat' (conv => whnf); first
                 | (refine bcase_of (fun hr => ?_) (fun hr => ?_) <;> (try simp only [bs] at hr) <;> try (exfalso; first | omega | (simp at hr; done)))
                 | (apply And.intro; · first | (show indep _ _ = true; kernel_rfl) | exact pA | exact pS | exact ⟨by omega, by omega⟩ | exact ⟨rfl, by decide⟩ | exact pT | exact pE | exact n1 | exact n2 | exact p1 | exact p2 | (show Nat.beq _ _ = false; rfl) | exact nb rfl | (show indep _ _ = true; kernel_rfl) | decide | exact ⟨by decide, by decide⟩ | exact ⟨nb rfl, allOne_of rfl⟩ | exact allOne_of rfl | exact ⟨rfl, rfl⟩)
                 | (apply Exists.intro; apply And.intro; · first | exact rfl | exact cL | exact cW | exact cG | exact cK | exact cS | exact gs | exact ga)
                 | rw [hkey2]
                 | rw [hw1]
                 | rw [hw2]
                 | (apply Exists.intro; apply And.intro; · first | (refine ATriple.callK (q1) ?_ ?_ ?_ ?_ <;> first | rfl | (intro d; rfl)) | (refine ATriple.callK (q2) ?_ ?_ ?_ ?_ <;> first | rfl | (intro d; rfl)) | (refine ATriple.callK (q3) ?_ ?_ ?_ ?_ <;> first | rfl | (intro d; rfl)) | (refine ATriple.callK (q4) ?_ ?_ ?_ ?_ <;> first | rfl | (intro d; rfl)) | (refine ATriple.callK (q5) ?_ ?_ ?_ ?_ <;> first | rfl | (intro d; rfl)) | (refine ATriple.callK (q6) ?_ ?_ ?_ ?_ <;> first | rfl | (intro d; rfl)))
                 | fail
              all_goals (conv => whnf)
              all_goals exact ih2 (k + 1, true) ⟨by simp only; omega, fun _ => (by first | trivial | exact hth), fun h => by cases h⟩ (by simp only; omega)
            · cases b
              all_goals
                repeat' (conv => whnf); first
                 | (refine bcase_of (fun hr => ?_) (fun hr => ?_) <;> (try simp only [bs] at hr) <;> try (exfalso; first | omega | (simp at hr; done)))
                 | (apply And.intro; · first | (show indep _ _ = true; kernel_rfl) | exact pA | exact pS | exact ⟨by omega, by omega⟩ | exact ⟨rfl, by decide⟩ | exact pT | exact pE | exact n1 | exact n2 | exact p1 | exact p2 | (show Nat.beq _ _ = false; rfl) | exact nb rfl | (show indep _ _ = true; kernel_rfl) | decide | exact ⟨by decide, by decide⟩ | exact ⟨nb rfl, allOne_of rfl⟩ | exact allOne_of rfl | exact ⟨rfl, rfl⟩)
                 | (apply Exists.intro; apply And.intro; · first | exact rfl | exact cL | exact cW | exact cG | exact cK | exact cS | exact gs | exact ga)
                 | rw [hkey2]
                 | rw [hw1]
                 | rw [hw2]
                 | (apply Exists.intro; apply And.intro; · first | (refine ATriple.callK (q1) ?_ ?_ ?_ ?_ <;> first | rfl | (intro d; rfl)) | (refine ATriple.callK (q2) ?_ ?_ ?_ ?_ <;> first | rfl | (intro d; rfl)) | (refine ATriple.callK (q3) ?_ ?_ ?_ ?_ <;> first | rfl | (intro d; rfl)) | (refine ATriple.callK (q4) ?_ ?_ ?_ ?_ <;> first | rfl | (intro d; rfl)) | (refine ATriple.callK (q5) ?_ ?_ ?_ ?_ <;> first | rfl | (intro d; rfl)) | (refine ATriple.callK (q6) ?_ ?_ ?_ ?_ <;> first | rfl | (intro d; rfl)))
                 | fail
              all_goals (conv => whnf)
              all_goals refine VLoop.norm [1, 2, 7, 10, 19, 20, 21, 22, 23] [20, 41] ?_
              all_goals
                repeat' (conv => whnf); first
                 | (refine bcase_of (fun hr => ?_) (fun hr => ?_) <;> (try simp only [bs] at hr) <;> try (exfalso; first | omega | (simp at hr; done)))
                 | (apply And.intro; · first | (show indep _ _ = true; kernel_rfl) | exact pA | exact pS | exact ⟨by omega, by omega⟩ | exact ⟨rfl, by decide⟩ | exact pT | exact pE | exact n1 | exact n2 | exact p1 | exact p2 | (show Nat.beq _ _ = false; rfl) | exact nb rfl | (show indep _ _ = true; kernel_rfl) | decide | exact ⟨by decide, by decide⟩ | exact ⟨nb rfl, allOne_of rfl⟩ | exact allOne_of rfl | exact ⟨rfl, rfl⟩)
                 | (apply Exists.intro; apply And.intro; · first | exact rfl | exact cL | exact cW | exact cG | exact cK | exact cS | exact gs | exact ga)
                 | rw [hkey2]
                 | rw [hw1]
                 | rw [hw2]
                 | (apply Exists.intro; apply And.intro; · first | (refine ATriple.callK (q1) ?_ ?_ ?_ ?_ <;> first | rfl | (intro d; rfl)) | (refine ATriple.callK (q2) ?_ ?_ ?_ ?_ <;> first | rfl | (intro d; rfl)) | (refine ATriple.callK (q3) ?_ ?_ ?_ ?_ <;> first | rfl | (intro d; rfl)) | (refine ATriple.callK (q4) ?_ ?_ ?_ ?_ <;> first | rfl | (intro d; rfl)) | (refine ATriple.callK (q5) ?_ ?_ ?_ ?_ <;> first | rfl | (intro d; rfl)) | (refine ATriple.callK (q6) ?_ ?_ ?_ ?_ <;> first | rfl | (intro d; rfl)))
                 | fail
              all_goals (conv => whnf)
              all_goals first | exact ih2 (k + 1, false) ⟨by simp only; omega, fun h => (by cases h), fun _ k' e' hk' he' => by
                rcases Nat.lt_succ_iff_lt_or_eq.1 hk' with h | rfl
                · exact hb2 rfl k' e' h he'
                · rw [hsk] at he'; cases he'; exact hkk⟩ (by simp only; omega) | exact ih2 (k + 1, true) ⟨by simp only; omega, fun _ => (by first | rfl | exact hb1 rfl | (cases hb1 rfl)), fun h => by cases h⟩ (by simp only; omega)
      | false =>
        repeat' (conv => whnf); first
         | (refine bcase_of (fun hr => ?_) (fun hr => ?_) <;> (try simp only [bs] at hr) <;> try (exfalso; first | omega | (simp at hr; done)))
         | (apply And.intro; · first | (show indep _ _ = true; kernel_rfl) | exact pA | exact pS | exact ⟨by omega, by omega⟩ | exact ⟨rfl, by decide⟩ | exact pT | exact pE | exact n1 | exact n2 | exact p1 | exact p2 | (show Nat.beq _ _ = false; rfl) | exact nb rfl | (show indep _ _ = true; kernel_rfl) | decide | exact ⟨by decide, by decide⟩ | exact ⟨nb rfl, allOne_of rfl⟩ | exact allOne_of rfl | exact ⟨rfl, rfl⟩)
         | (apply Exists.intro; apply And.intro; · first | exact rfl | exact cL | exact cW | exact cG | exact cK | exact cS | exact gs | exact ga)
         | rw [hkey2]
         | rw [hw1]
         | rw [hw2]
         | (apply Exists.intro; apply And.intro; · first | (refine ATriple.callK (q1) ?_ ?_ ?_ ?_ <;> first | rfl | (intro d; rfl)) | (refine ATriple.callK (q2) ?_ ?_ ?_ ?_ <;> first | rfl | (intro d; rfl)) | (refine ATriple.callK (q3) ?_ ?_ ?_ ?_ <;> first | rfl | (intro d; rfl)) | (refine ATriple.callK (q4) ?_ ?_ ?_ ?_ <;> first | rfl | (intro d; rfl)) | (refine ATriple.callK (q5) ?_ ?_ ?_ ?_ <;> first | rfl | (intro d; rfl)) | (refine ATriple.callK (q6) ?_ ?_ ?_ ?_ <;> first | rfl | (intro d; rfl)))
         | fail
        all_goals (conv => whnf)
        all_goals refine VLoop.norm [1, 2, 7, 10, 19, 20, 21, 22, 23] [20, 41] ?_
        repeat' (conv => whnf); first
         | (refine bcase_of (fun hr => ?_) (fun hr => ?_) <;> (try simp only [bs] at hr) <;> try (exfalso; first | omega | (simp at hr; done)))
         | (apply And.intro; · first | (show indep _ _ = true; kernel_rfl) | exact pA | exact pS | exact ⟨by omega, by omega⟩ | exact ⟨rfl, by decide⟩ | exact pT | exact pE | exact n1 | exact n2 | exact p1 | exact p2 | (show Nat.beq _ _ = false; rfl) | exact nb rfl | (show indep _ _ = true; kernel_rfl) | decide | exact ⟨by decide, by decide⟩ | exact ⟨nb rfl, allOne_of rfl⟩ | exact allOne_of rfl | exact ⟨rfl, rfl⟩)
         | (apply Exists.intro; apply And.intro; · first | exact rfl | exact cL | exact cW | exact cG | exact cK | exact cS | exact gs | exact ga)
         | rw [hkey2]
         | rw [hw1]
         | rw [hw2]
         | (apply Exists.intro; apply And.intro; · first | (refine ATriple.callK (q1) ?_ ?_ ?_ ?_ <;> first | rfl | (intro d; rfl)) | (refine ATriple.callK (q2) ?_ ?_ ?_ ?_ <;> first | rfl | (intro d; rfl)) | (refine ATriple.callK (q3) ?_ ?_ ?_ ?_ <;> first | rfl | (intro d; rfl)) | (refine ATriple.callK (q4) ?_ ?_ ?_ ?_ <;> first | rfl | (intro d; rfl)) | (refine ATriple.callK (q5) ?_ ?_ ?_ ?_ <;> first | rfl | (intro d; rfl)) | (refine ATriple.callK (q6) ?_ ?_ ?_ ?_ <;> first | rfl | (intro d; rfl)))
         | fail
        all_goals (conv => whnf)
        all_goals refine VLoop.inv (fun z : Nat × Bool => stS3 l ver x s i [i64V c.n, i64V c.a, i64V c.b, bagV c.p, bagV c.q] false z.2 z.1) (fun z => z.1 ≤ s.length ∧ (z.2 = true → false = true) ∧ (z.2 = false → ∀ (k : Nat) (e : Int × En), k < z.1 → s[k]? = some e → e.1 ≠ a.k)) (fun z => s.length - z.1) (0, false) ⟨Nat.zero_le _, (fun h => by cases h), fun _ k e hk => by omega⟩ rfl ?_
        all_goals
          rintro ⟨k, b⟩ ⟨hk, hb1, hb2⟩ ih2
          simp only at hk hb1 hb2 ih2
          have hw2 : IntKind.i64.wrap ((k : Int) + 1) = ((k + 1 : Nat) : Int) := wrap64 (by omega) (by omega)
          refine VLoop.unroll hE (mixedOf _) ?_
          cases hsk : s[k]? with
          | none =>
            have hk' := List.getElem?_eq_none_iff.1 hsk
            have hbt : b = false := by
              cases b with
              | true => first | rfl | exact (hb1 rfl).symm | (cases hb1 rfl)
              | false =>
                rfl
            subst hbt
            repeat' (conv => whnf); first
             | (refine bcase_of (fun hr => ?_) (fun hr => ?_) <;> (try simp only [bs] at hr) <;> try (exfalso; first | omega | (simp at hr; done)))
             | (apply And.intro; · first | (show indep _ _ = true; kernel_rfl) | exact pA | exact pS | exact ⟨by omega, by omega⟩ | exact ⟨rfl, by decide⟩ | exact pT | exact pE | exact n1 | exact n2 | exact p1 | exact p2 | (show Nat.beq _ _ = false; rfl) | exact nb rfl | (show indep _ _ = true; kernel_rfl) | decide | exact ⟨by decide, by decide⟩ | exact ⟨nb rfl, allOne_of rfl⟩ | exact allOne_of rfl | exact ⟨rfl, rfl⟩)
             | (apply Exists.intro; apply And.intro; · first | exact rfl | exact cL | exact cW | exact cG | exact cK | exact cS | exact gs | exact ga)
             | rw [hkey2]
             | rw [hw1]
             | rw [hw2]
             | (apply Exists.intro; apply And.intro; · first | (refine ATriple.callK (q1) ?_ ?_ ?_ ?_ <;> first | rfl | (intro d; rfl)) | (refine ATriple.callK (q2) ?_ ?_ ?_ ?_ <;> first | rfl | (intro d; rfl)) | (refine ATriple.callK (q3) ?_ ?_ ?_ ?_ <;> first | rfl | (intro d; rfl)) | (refine ATriple.callK (q4) ?_ ?_ ?_ ?_ <;> first | rfl | (intro d; rfl)) | (refine ATriple.callK (q5) ?_ ?_ ?_ ?_ <;> first | rfl | (intro d; rfl)) | (refine ATriple.callK (q6) ?_ ?_ ?_ ?_ <;> first | rfl | (intro d; rfl)))
             | fail
            all_goals (conv => whnf)
            all_goals refine VLoop.norm [1, 2, 7, 10, 19] [41] ?_
            repeat' (conv => whnf); first
             | (refine bcase_of (fun hr => ?_) (fun hr => ?_) <;> (try simp only [bs] at hr) <;> try (exfalso; first | omega | (simp at hr; done)))
             | (apply And.intro; · first | (show indep _ _ = true; kernel_rfl) | exact pA | exact pS | exact ⟨by omega, by omega⟩ | exact ⟨rfl, by decide⟩ | exact pT | exact pE | exact n1 | exact n2 | exact p1 | exact p2 | (show Nat.beq _ _ = false; rfl) | exact nb rfl | (show indep _ _ = true; kernel_rfl) | decide | exact ⟨by decide, by decide⟩ | exact ⟨nb rfl, allOne_of rfl⟩ | exact allOne_of rfl | exact ⟨rfl, rfl⟩)
             | (apply Exists.intro; apply And.intro; · first | exact rfl | exact cL | exact cW | exact cG | exact cK | exact cS | exact gs | exact ga)
             | rw [hkey2]
             | rw [hw1]
             | rw [hw2]
             | (apply Exists.intro; apply And.intro; · first | (refine ATriple.callK (q1) ?_ ?_ ?_ ?_ <;> first | rfl | (intro d; rfl)) | (refine ATriple.callK (q2) ?_ ?_ ?_ ?_ <;> first | rfl | (intro d; rfl)) | (refine ATriple.callK (q3) ?_ ?_ ?_ ?_ <;> first | rfl | (intro d; rfl)) | (refine ATriple.callK (q4) ?_ ?_ ?_ ?_ <;> first | rfl | (intro d; rfl)) | (refine ATriple.callK (q5) ?_ ?_ ?_ ?_ <;> first | rfl | (intro d; rfl)) | (refine ATriple.callK (q6) ?_ ?_ ?_ ?_ <;> first | rfl | (intro d; rfl)))
             | fail
            all_goals (conv => whnf)
            all_goals exact ih (i + 1) (by omega) (by omega)
          | some e =>
            have hkl := (List.getElem?_eq_some_iff.1 hsk).1
            have gs := getPr hsk
            have p1 := pure_R e.2.p
            have p2 := pure_R e.2.q
            have hek : KIn e.1 := by
              have h1 : (e.1, e.2) ∈ scanT M Tb ver := by rw [← hsd]; exact List.mem_of_getElem? hsk
              obtain ⟨f, hf, h2⟩ := List.mem_filterMap.1 h1
              cases h3 : atS M f.2 ver with
              | none => rw [h3] at h2; cases h2
              | some d => rw [h3] at h2; have h5 : f.1 = e.1 := congrArg Prod.fst (Option.some.inj h2); rw [← h5]; exact (hin f hf).1
            obtain ⟨he1, he2⟩ := hek
            by_cases hkk : e.1 = a.k
            · obtain ⟨hth, hec⟩ := hmem k e hsk hkk
              cases hth
            · cases b
              all_goals
                repeat' (conv => whnf); first
                 | (refine bcase_of (fun hr => ?_) (fun hr => ?_) <;> (try simp only [bs] at hr) <;> try (exfalso; first | omega | (simp at hr; done)))
                 | (apply And.intro; · first | (show indep _ _ = true; kernel_rfl) | exact pA | exact pS | exact ⟨by omega, by omega⟩ | exact ⟨rfl, by decide⟩ | exact pT | exact pE | exact n1 | exact n2 | exact p1 | exact p2 | (show Nat.beq _ _ = false; rfl) | exact nb rfl | (show indep _ _ = true; kernel_rfl) | decide | exact ⟨by decide, by decide⟩ | exact ⟨nb rfl, allOne_of rfl⟩ | exact allOne_of rfl | exact ⟨rfl, rfl⟩)
                 | (apply Exists.intro; apply And.intro; · first | exact rfl | exact cL | exact cW | exact cG | exact cK | exact cS | exact gs | exact ga)
                 | rw [hkey2]
                 | rw [hw1]
                 | rw [hw2]
                 | (apply Exists.intro; apply And.intro; · first | (refine ATriple.callK (q1) ?_ ?_ ?_ ?_ <;> first | rfl | (intro d; rfl)) | (refine ATriple.callK (q2) ?_ ?_ ?_ ?_ <;> first | rfl | (intro d; rfl)) | (refine ATriple.callK (q3) ?_ ?_ ?_ ?_ <;> first | rfl | (intro d; rfl)) | (refine ATriple.callK (q4) ?_ ?_ ?_ ?_ <;> first | rfl | (intro d; rfl)) | (refine ATriple.callK (q5) ?_ ?_ ?_ ?_ <;> first | rfl | (intro d; rfl)) | (refine ATriple.callK (q6) ?_ ?_ ?_ ?_ <;> first | rfl | (intro d; rfl)))
                 | fail
              all_goals (conv => whnf)
              all_goals refine VLoop.norm [1, 2, 7, 10, 19, 20, 21, 22, 23] [20, 41] ?_
              all_goals
                repeat' (conv => whnf); first
                 | (refine bcase_of (fun hr => ?_) (fun hr => ?_) <;> (try simp only [bs] at hr) <;> try (exfalso; first | omega | (simp at hr; done)))
                 | (apply And.intro; · first | (show indep _ _ = true; kernel_rfl) | exact pA | exact pS | exact ⟨by omega, by omega⟩ | exact ⟨rfl, by decide⟩ | exact pT | exact pE | exact n1 | exact n2 | exact p1 | exact p2 | (show Nat.beq _ _ = false; rfl) | exact nb rfl | (show indep _ _ = true; kernel_rfl) | decide | exact ⟨by decide, by decide⟩ | exact ⟨nb rfl, allOne_of rfl⟩ | exact allOne_of rfl | exact ⟨rfl, rfl⟩)
                 | (apply Exists.intro; apply And.intro; · first | exact rfl | exact cL | exact cW | exact cG | exact cK | exact cS | exact gs | exact ga)
                 | rw [hkey2]
                 | rw [hw1]
                 | rw [hw2]
                 | (apply Exists.intro; apply And.intro; · first | (refine ATriple.callK (q1) ?_ ?_ ?_ ?_ <;> first | rfl | (intro d; rfl)) | (refine ATriple.callK (q2) ?_ ?_ ?_ ?_ <;> first | rfl | (intro d; rfl)) | (refine ATriple.callK (q3) ?_ ?_ ?_ ?_ <;> first | rfl | (intro d; rfl)) | (refine ATriple.callK (q4) ?_ ?_ ?_ ?_ <;> first | rfl | (intro d; rfl)) | (refine ATriple.callK (q5) ?_ ?_ ?_ ?_ <;> first | rfl | (intro d; rfl)) | (refine ATriple.callK (q6) ?_ ?_ ?_ ?_ <;> first | rfl | (intro d; rfl)))
                 | fail
              all_goals (conv => whnf)
              all_goals first | exact ih2 (k + 1, false) ⟨by simp only; omega, fun h => (by cases h), fun _ k' e' hk' he' => by
                rcases Nat.lt_succ_iff_lt_or_eq.1 hk' with h | rfl
                · exact hb2 rfl k' e' h he'
                · rw [hsk] at he'; cases he'; exact hkk⟩ (by simp only; omega) | exact ih2 (k + 1, true) ⟨by simp only; omega, fun _ => (by first | rfl | exact hb1 rfl | (cases hb1 rfl)), fun h => by cases h⟩ (by simp only; omega)
end Go.Proofs.YtbppemcdphgknaaGreatDoor
