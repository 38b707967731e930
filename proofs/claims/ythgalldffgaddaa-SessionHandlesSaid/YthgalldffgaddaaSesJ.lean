/- Chapter 24: what its functions come to (SesJ). -/
import Derived.Test.YthgalldffgaddaaSesI
set_option linter.unusedVariables false
set_option linter.unusedSimpArgs false
namespace Go.Proofs.Ythgalldffgaddaa
open Go Go.Vm
set_option maxRecDepth 100000
set_option maxHeartbeats 4000000
set_option linter.unusedSimpArgs false
theorem same_a {s s' : Ss} (ha : s.a = s'.a) (hk : s.k = s'.k) (hn : s.n = s'.n) (ho : s'.a.opn = true) (ht : s'.a.turn = 1) (dn : Int) :
    readN s 0 1 dn = readN s' 0 1 dn ∧ readE s 0 1 dn = readE s' 0 1 dn ∧ lookN s 0 1 = s'.a.ver ∧ lookB s 0 1 = true := by
  simp [readN, readE, lookN, lookB, over, ha, hk, hn, ho, ht]
theorem open_keeps {s : Ss} (ho : s.a.opn = true) (v : Int) : (openS s v).a = s.a ∧ (openS s v).k = s.k ∧ (openS s v).n = s.n ∧ (openS s v).l = s.l := by
  unfold openS
  (repeat' split) <;> simp_all
theorem close_keeps {s : Ss} {p t : Int} (hp : p ≠ 0) : (closeS s p t).a = s.a ∧ (closeS s p t).k = s.k ∧ (closeS s p t).n = s.n ∧ (closeS s p t).l = s.l := by
  unfold closeS
  (repeat' split) <;> simp_all
def modV (n m : Int) : Int := if n.tmod m < 0 then IntKind.i64.wrap (n.tmod m + m) else n.tmod m
theorem mod_in (n m : Int) (hm : 0 < m) (hm' : m ≤ 1000) : 0 ≤ modV n m ∧ modV n m < m := by
  unfold modV
  have h1 := Int.tmod_lt_of_pos n hm
  have h2 := Int.lt_tmod_of_pos n hm
  split
  · rw [wrapI64 (by omega) (by omega)]; omega
  · omega
theorem mod_ok (n m : Int) (hm : m ≠ 0) : PTriple Try.prog gv 11 [i64V n, i64V m] (i64V (modV n m)) := by
  refine PTriple.of_body (C := cx) Try.func11 rfl (by kernel_rfl) mixed fun E hE => ?_
  repeat' (conv => whnf); first
   | (refine bcase_of (fun hr => ?_) (fun hr => ?_) <;> (try simp only [decide_eq_true_eq, decide_eq_false_iff_not] at hr))
   | (refine And.intro (by first | exact Nat.le_of_ble_eq_true rfl | decide | exact hm) ?_)
   | (refine And.intro (by show indep _ _ = true; kernel_rfl) ?_)
   | (refine Exists.intro _ (And.intro (by first | exact rfl) ?_))
   | fail
  all_goals (conv => whnf)
  all_goals (refine congrArg i64V ?_; unfold modV; first | rw [if_pos hr] | rw [if_neg hr])
abbrev u8V (n : Int) : V := .int .u8 n
abbrev Act := Int × Int × Int × Int
abbrev actE (x : Act) : List V := [u8V x.1, i64V x.2.1, i64V x.2.2.1, i64V x.2.2.2]
abbrev acts (l : List Act) : V := .lst 4 (l.map actE)
theorem pure_acts (l : List Act) : PureEs (l.map actE) := fun e he v hv => by
  obtain ⟨x, _, rfl⟩ := List.mem_map.1 he
  simp at hv
  rcases hv with rfl | rfl | rfl | rfl
  · exact .int _ _
  · exact .int _ _
  · exact .int _ _
  · exact .int _ _
def st5 (l : List Act) (ver : Int) (x y : Ss) (i : Int) : St Empty := mkSt 160 [(0, acts l), (1, u8V ver), (8, .ref (33, 1) 0), (9, .ref (35, 1) 0), (10, .ref (11, 1) 0), (14, i64V i)]
  [(10, .box [i64V 0, i64V 1]), (32, .box (cellsS x)), (34, .box (cellsS y))] []
theorem apart_ok (l : List Act) (ver vs : Int) (hv : 0 ≤ ver ∧ ver ≤ 255) (hs : 0 ≤ vs ∧ vs ≤ 255) : PTriple Try.prog gv 5 [acts l, u8V ver, u8V vs] (.bool true) := by
  have hlen : (l.map actE).length = l.length := by simp
  have wv : IntKind.i64.wrap ver = ver := wrapI64 (by omega) (by omega)
  have ws : IntKind.i64.wrap vs = vs := wrapI64 (by omega) (by omega)
  have hkk : (IntKind.i64.wrap (2 + (IntKind.i64.wrap vs).tmod 7)) = 2 + vs % 7 := by rw [ws, Int.tmod_eq_emod_of_nonneg hs.1, wrapI64 (by omega) (by omega)]
  refine PTriple.of_body (C := cx) Try.func5 rfl (by kernel_rfl) mixed fun E hE => ?_
  repeat' (conv => whnf); first
   | (refine bcase_of (fun hr => ?_) (fun hr => ?_) <;> (try have hl3 : l.length ≤ 80 := by simp at hr; omega) <;> try (exfalso; simp at hr; done))
   | (refine And.intro (by first | exact Nat.le_of_ble_eq_true rfl | decide | decide) ?_)
   | (refine And.intro (by show indep _ _ = true; kernel_rfl) ?_)
   | (refine Exists.intro _ (And.intro (by first | exact rfl | exact wakes_ok) ?_))
   | refine ⟨_, _, _, ATriple.call (new_ok (IntKind.i64.wrap (2 + (IntKind.i64.wrap vs).tmod 7)) 20 (by rw [hkk]; omega) (by decide)) (by rfl) (by rfl) (by rfl), ?_⟩
   | refine ⟨_, _, _, ATriple.call (open_0 (IntKind.i64.wrap (2 + (IntKind.i64.wrap vs).tmod 7)) 20 0 p0 p0 p0 p0 p0 p0 (IntKind.i64.wrap ver) (by rw [wv]; omega) rfl) (by rfl) (by rfl) (by rfl), ?_⟩
   | fail
  all_goals (conv => whnf)
  · rfl
  refine VLoop.norm [0, 1, 8, 9, 10, 14] [10, 32, 34] ?_
  conv => whnf
  refine ⟨pure_acts l, ?_⟩
  conv => whnf
  refine VLoop.inv (fun z : Ss × Ss × Int => st5 l ver z.1 z.2.1 z.2.2) (fun z => z.1.a = z.2.1.a ∧ z.1.k = z.2.1.k ∧ z.1.n = z.2.1.n ∧ z.2.1.a.opn = true ∧ z.2.1.a.turn = 1 ∧ z.2.1.a.ver = ver ∧ (0 ≤ z.2.1.n ∧ z.2.1.n ≤ 1099511627776) ∧ 0 ≤ z.2.2 ∧ z.2.2 ≤ l.length)
    (fun z => l.length - z.2.2.toNat) (⟨(IntKind.i64.wrap (2 + (IntKind.i64.wrap vs).tmod 7)), 20, 0, ⟨1, true, IntKind.i64.wrap ver, 20⟩, p0, p0, p0, p0, p0⟩, ⟨(IntKind.i64.wrap (2 + (IntKind.i64.wrap vs).tmod 7)), 20, 0, ⟨1, true, IntKind.i64.wrap ver, 20⟩, p0, p0, p0, p0, p0⟩, 0)
    ⟨rfl, rfl, rfl, rfl, rfl, wv, (by decide : (0 : Int) ≤ 0 ∧ (0 : Int) ≤ 1099511627776), (by decide : (0 : Int) ≤ 0), (by show (0 : Int) ≤ l.length; omega)⟩ rfl ?_
  rintro ⟨x, y, i⟩ ⟨g1, g2, g3, g4, g5, g6, g7, g8, g9⟩ ih
  simp only at g1 g2 g3 g4 g5 g6 g7 g8 g9 ih
  show VLoop cx E _ (st5 l ver x y i) _
  clear hr
  refine VLoop.unroll hE mixed ?_
  conv => whnf
  refine bcase_of (fun hr => ?_) (fun hr => ?_)
  · have hn : i < l.length := by simp at hr; omega
    have hw : IntKind.i64.wrap (i + 1) = i + 1 := wrapI64 (by omega) (by omega)
    obtain ⟨⟨kd, nn, pp, tt'⟩, hx⟩ : ∃ z, l[i.toNat]? = some z := ⟨_, List.getElem?_eq_getElem (by omega)⟩
    have hm := mod_in nn 8 (by decide) (by decide)
    have hp := mod_in pp 5 (by decide) (by decide)
    obtain ⟨m, hmm⟩ : ∃ m, modV nn 8 = m := ⟨_, rfl⟩
    obtain ⟨pl, hpp⟩ : ∃ m, modV pp 5 = m := ⟨_, rfl⟩
    have c1 := mod_ok nn 8 (by decide)
    have c2 := mod_ok pp 5 (by decide)
    rw [hmm] at c1 hm
    rw [hpp] at c2 hp
    have hpl : IntKind.i64.wrap (1 + pl) ≠ 0 := by rw [wrapI64 (by omega) (by omega)]; omega
    have k1 := open_keeps (s := x) (by rw [g1]; exact g4) m
    have k2 := close_keeps (s := x) (p := IntKind.i64.wrap (1 + pl)) (t := tt') hpl
    have s0 := same_a g1 g2 g3 g4 g5 (IntKind.i64.wrap (IntKind.i64.wrap ver + m))
    have s1 := same_a (s := openS x m) (k1.1.trans g1) (k1.2.1.trans g2) (k1.2.2.1.trans g3) g4 g5 (IntKind.i64.wrap (IntKind.i64.wrap ver + m))
    have s2 := same_a (s := closeS x (IntKind.i64.wrap (1 + pl)) tt') (k2.1.trans g1) (k2.2.1.trans g2) (k2.2.2.1.trans g3) g4 g5 (IntKind.i64.wrap (IntKind.i64.wrap ver + m))
    have s3 := same_a (s := { x with n := tickT x.n m }) (s' := { y with n := tickT y.n m }) g1 g2 (by simp only; rw [g3]) g4 g5 (IntKind.i64.wrap (IntKind.i64.wrap ver + m))
    repeat' (conv => whnf); first
     | (refine bcase_of (fun hr => ?_) (fun hr => ?_) <;> (try simp only [s0.1, s0.2.1, s0.2.2.1, s0.2.2.2, s1.1, s1.2.1, s1.2.2.1, s1.2.2.2, s2.1, s2.2.1, s2.2.2.1, s2.2.2.2, s3.1, s3.2.1, s3.2.2.1, s3.2.2.2] at hr) <;> (try simp only [g6, wv, bne_self_eq_false] at hr) <;> try (exfalso; simp at hr; done))
     | (refine And.intro (by first | exact Nat.le_of_ble_eq_true rfl | decide | exact ⟨by omega, by rw [hlen]; omega⟩ | decide) ?_)
     | (refine And.intro (by show indep _ _ = true; kernel_rfl) ?_)
     | (refine Exists.intro _ (And.intro (by first | exact rfl | exact c1 | exact c2 | exact (show lget _ _ = some (actE (kd, nn, pp, tt')) by rw [lget_eq, List.getElem?_map, hx]; rfl)) ?_))
     | refine ⟨_, _, _, ATriple.call (open_ok x m) (by rfl) (by rfl) (by rfl), ?_⟩
     | refine ⟨_, _, _, ATriple.call (close_ok x (IntKind.i64.wrap (1 + pl)) tt') (by rfl) (by rfl) (by rfl), ?_⟩
     | refine ⟨_, _, _, ATriple.call (read_ok x (IntKind.i64.wrap (1 + pl)) tt' m) (by rfl) (by rfl) (by rfl), ?_⟩
     | refine ⟨_, _, _, ATriple.call (tick_ok x.k x.l x.n x.a x.b x.c x.d x.e x.f m (by rw [g3]; exact g7)) (by rfl) (by rfl) (by rfl), ?_⟩
     | refine ⟨_, _, _, ATriple.call (tick_ok y.k y.l y.n y.a y.b y.c y.d y.e y.f m g7) (by rfl) (by rfl) (by rfl), ?_⟩
     | refine ⟨_, _, _, ATriple.call (read_ok x 0 1 (IntKind.i64.wrap (IntKind.i64.wrap ver + m))) (by rfl) (by rfl) (by rfl), ?_⟩
     | refine ⟨_, _, _, ATriple.call (read_ok (openS x m) 0 1 (IntKind.i64.wrap (IntKind.i64.wrap ver + m))) (by rfl) (by rfl) (by rfl), ?_⟩
     | refine ⟨_, _, _, ATriple.call (read_ok (closeS x (IntKind.i64.wrap (1 + pl)) tt') 0 1 (IntKind.i64.wrap (IntKind.i64.wrap ver + m))) (by rfl) (by rfl) (by rfl), ?_⟩
     | refine ⟨_, _, _, ATriple.call (read_ok { x with n := tickT x.n m } 0 1 (IntKind.i64.wrap (IntKind.i64.wrap ver + m))) (by rfl) (by rfl) (by rfl), ?_⟩
     | refine ⟨_, _, _, ATriple.call (read_ok y 0 1 (IntKind.i64.wrap (IntKind.i64.wrap ver + m))) (by rfl) (by rfl) (by rfl), ?_⟩
     | refine ⟨_, _, _, ATriple.call (read_ok { y with n := tickT y.n m } 0 1 (IntKind.i64.wrap (IntKind.i64.wrap ver + m))) (by rfl) (by rfl) (by rfl), ?_⟩
     | refine ⟨_, _, _, ATriple.call (look_ok x 0 1) (by rfl) (by rfl) (by rfl), ?_⟩
     | refine ⟨_, _, _, ATriple.call (look_ok (openS x m) 0 1) (by rfl) (by rfl) (by rfl), ?_⟩
     | refine ⟨_, _, _, ATriple.call (look_ok (closeS x (IntKind.i64.wrap (1 + pl)) tt') 0 1) (by rfl) (by rfl) (by rfl), ?_⟩
     | refine ⟨_, _, _, ATriple.call (look_ok { x with n := tickT x.n m } 0 1) (by rfl) (by rfl) (by rfl), ?_⟩
     | fail
    all_goals (conv => whnf)
    all_goals refine VLoop.norm [0, 1, 8, 9, 10, 14] [10, 32, 34] ?_
    all_goals (conv => whnf)
    all_goals refine ⟨pure_acts l, ?_⟩
    all_goals (conv => whnf)
    · refine ih (openS x m, y, IntKind.i64.wrap (i + 1)) ?_ (by simp only [hw]; omega)
      simp only [hw]
      exact ⟨k1.1.trans g1, k1.2.1.trans g2, k1.2.2.1.trans g3, g4, g5, g6, g7, by omega, by omega⟩
    · refine ih (closeS x (IntKind.i64.wrap (1 + pl)) tt', y, IntKind.i64.wrap (i + 1)) ?_ (by simp only [hw]; omega)
      simp only [hw]
      exact ⟨k2.1.trans g1, k2.2.1.trans g2, k2.2.2.1.trans g3, g4, g5, g6, g7, by omega, by omega⟩
    · refine ih (x, y, IntKind.i64.wrap (i + 1)) ?_ (by simp only [hw]; omega)
      simp only [hw]
      exact ⟨g1, g2, g3, g4, g5, g6, g7, by omega, by omega⟩
    · refine ih ({ x with n := tickT x.n m }, { y with n := tickT y.n m }, IntKind.i64.wrap (i + 1)) ?_ (by simp only [hw]; omega)
      simp only [hw]
      exact ⟨g1, g2, by rw [g3], g4, g5, g6, tick_in y.n m g7, by omega, by omega⟩
  · skip
    repeat' (conv => whnf); first
     | (refine bcase_of (fun hr => ?_) (fun hr => ?_) <;> skip)
     | (refine And.intro (by first | exact Nat.le_of_ble_eq_true rfl | decide) ?_)
     | (refine And.intro (by show indep _ _ = true; kernel_rfl) ?_)
     | (refine Exists.intro _ (And.intro (by first | exact rfl | exact wakes_ok) ?_))
     | fail
    all_goals (conv => whnf)
    all_goals rfl
abbrev actSh : Sh := .pair (.int .u8) (.pair (.int .i64) (.pair (.pair (.int .i64) (.pair (.int .i64) .unit)) .unit))
theorem acts_arg (l : List actSh.T) : acts (l.map fun z => (z.1, z.2.1, z.2.2.1.1, z.2.2.1.2.1)) = Sh.argV (.slice actSh) l := by
  show V.lst 4 _ = V.lst 4 _
  rw [List.map_map]
  rfl
end Go.Proofs.Ythgalldffgaddaa
