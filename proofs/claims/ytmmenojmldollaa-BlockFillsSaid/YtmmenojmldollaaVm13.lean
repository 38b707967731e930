/- The machine 'Vm', part 13: calls by value. -/
import Derived.Test.YtmmenojmldollaaVm12
set_option linter.unusedVariables false
set_option linter.unusedSimpArgs false
namespace Go.Vm
open Go

/-- A value that names no object. -/
def PureV (v : V) : Prop := ∀ ρ M v', VRel ρ M v v' → VRel (fun _ => none) M v v'

theorem PureV.int (k : IntKind) (n : Int) : PureV (.int k n) := fun _ _ _ h => by cases h; exact .int _ _
theorem PureV.bool (b : Bool) : PureV (.bool b) := fun _ _ _ h => by cases h; exact .bool _
theorem PureV.nilp : PureV .nilp := fun _ _ _ h => by cases h; exact .nilp
theorem PureV.nils : PureV .nils := fun _ _ _ h => by cases h; exact .nils
theorem PureV.undef : PureV .undef := fun _ _ _ h => by cases h; exact .undef _
theorem PureV.fn (f : FuncId) : PureV (.fn f) := fun _ _ _ h => by cases h; exact .fn _
theorem PureV.agg {cs : List V} (hc : ∀ v ∈ cs, PureV v) : PureV (.agg cs) := fun ρ M v' h => by
  cases h with
  | agg h1 h2 => exact .agg h1 fun i v v' a b => hc v (List.mem_of_getElem? a) _ _ _ (h2 i v v' a b)
theorem PureV.tup {cs : List V} (hc : ∀ v ∈ cs, PureV v) : PureV (.tup cs) := fun ρ M v' h => by
  cases h with
  | tup h1 h2 => exact .tup h1 fun i v v' a b => hc v (List.mem_of_getElem? a) _ _ _ (h2 i v v' a b)
theorem PureV.lst {sz : Nat} {es : List (List V)} (hc : ∀ e ∈ es, ∀ v ∈ e, PureV v) : PureV (.lst sz es) := fun ρ M v' h => by
  cases h with
  | lst0 => exact .lst0
  | lst vals h1 h2 h3 h4 => exact .lst vals h1 (fun i k e v a b => hc e (List.mem_of_getElem? a) v (List.mem_of_getElem? b) _ _ _ (h2 i k e v a b)) h3 h4
theorem PureV.lpt {sz i j : Nat} {es : List (List V)} (hc : ∀ e ∈ es, ∀ v ∈ e, PureV v) : PureV (.lpt sz es i j) := fun ρ M v' h => by
  cases h with
  | lpt vals h1 h2 h3 => exact .lpt vals h1 (fun i k e v a b => hc e (List.mem_of_getElem? a) v (List.mem_of_getElem? b) _ _ _ (h2 i k e v a b)) h3
theorem PureV.nil_list : ∀ v ∈ ([] : List V), PureV v := fun _ h => by cases h
theorem PureV.cons_list {v : V} {l : List V} (h : PureV v) (hl : ∀ v ∈ l, PureV v) : ∀ x ∈ v :: l, PureV x := fun x hx => by
  rcases List.mem_cons.1 hx with rfl | hx
  · exact h
  · exact hl x hx

def MemOk (M : Mem) (w : World) : Prop := ∀ b o v, M b o = some v → w.cell? ⟨b, o, none⟩ = some v

/-- What a call leaves: nothing that was there has turned; new cells that stay lie in new blocks. -/
structure Grown (M : Mem) (w : World) (M' : Mem) (w' : World) : Prop where
  size : w.heap.size ≤ w'.heap.size
  heap : ∀ b, b < w.heap.size → w'.heap[b]? = w.heap[b]?
  os : w'.os = w.os
  tape : w'.tape = w.tape
  output : w'.output = w.output
  le : M.le M'
  new : ∀ b o v, M' b o = some v → M b o = some v ∨ w.heap.size ≤ b
  mem : MemOk M' w'

/-- A Go function with a body. -/
def FnOk (P : Program) (f : FuncId) : Prop := ∃ fn, P.funcs[f]? = some fn ∧ (fn.name == "runtime.NumGoroutine") = false ∧ fn.body.isNone = false

/-- A call by value: of these arguments it returns this. -/
def BTriple (P : Program) (G : Nat → V) (f : FuncId) (args : List V) (r : V) : Prop :=
  FnOk P f ∧ ∀ (w : World) (M : Mem) (args' : List Value), GOk G M → MemOk M w → VsRel (fun _ => none) M args args' →
    Calls P f args'.toArray w fun e w' => ∃ r' M', e = .returned r' ∧ Grown M w M' w' ∧ VRel (fun _ => none) M' r r'

/-- The like, of a function that the model answers here and now. -/
def ETriple (P : Program) (f : FuncId) (args : List V) (r : V) : Prop :=
  ∀ (w : World) (M : Mem) (args' : List Value), MemOk M w → VsRel (fun _ => none) M args args' →
    ∃ v, (callFunc f args'.toArray).run P w = .ok (.value v) w ∧ VRel (fun _ => none) M r v

def PTriple (P : Program) (G : Nat → V) (f : FuncId) (args : List V) (r : V) : Prop := BTriple P G f args r ∨ ETriple P f args r

variable {P : Program} {T : TT} {A : Type} {R : Rep A} {E : Env} {st : St A} {ρ : Rho} {M : Mem} {S : Name → List Nat} {a : Act} {w : World} {ns : List Name} {flat : Nat → Bool} {G : Nat → V}

/-- Behind a call by value the state says what it said. -/
theorem Rel.grown {M' : Mem} {w' : World} (h : Rel R E st ρ M S a w) (hg : Grown M w M' w') : Rel R E st ρ M' S a w' where
  defers := h.defers
  tmps := h.tmps.mono (Rho.le_refl _) hg.le
  mem := hg.mem
  objs := fun n ob hn => (h.objs n ob hn).of_heap rfl (Rho.le_refl _) hg.le (fun b hb o => by
    have hlt := h.blt n ob hn b hb
    cases hm : M b o with
    | some v => exact hg.le _ _ _ hm
    | none =>
      cases hm' : M' b o with
      | none => rfl
      | some v =>
        rcases hg.new b o v hm' with h1 | h1
        · rw [hm] at h1; cases h1
        · omega) (fun b hb => hg.heap b (h.blt n ob hn b hb))
  disj := h.disj
  blt := fun n ob hn b hb => Nat.lt_of_lt_of_le (h.blt n ob hn b hb) hg.size
  own := h.own
  fresh := h.fresh
  hsize := Nat.le_trans h.hsize hg.size
  keep := fun b hb hb' => (hg.heap b (Nat.lt_of_lt_of_le hb h.hsize)).trans (h.keep b hb hb')
  os := hg.os.trans h.os
  tape := hg.tape.trans h.tape
  output := hg.output.trans h.output
  M0 := Mem.le_trans h.M0 hg.le
  Mnew := fun b o v hv => by
    rcases hg.new b o v hv with h1 | h1
    · exact h.Mnew b o v h1
    · exact .inr (.inl (Nat.le_trans h.hsize h1))
  ρ0 := h.ρ0

/-- A row's cells stay from now on as they are. -/
theorem Rel.freeze (h : Rel R E st ρ M S a w) {n : Name} {sz : Nat} {es : List (List V)} {fz : Bool} (hn : st.get n = some (.row sz es fz)) :
    ∃ M', M.le M' ∧ Rel R E (st.setOb n (some (.row sz es true))) ρ M' S a w ∧ ∀ i len v', i + len ≤ es.length → VRel ρ M (.rsl n sz i len) v' → VRel ρ M' (.lst sz ((es.drop i).take len)) v' := by
  obtain ⟨b, o, c, ty, cs', e1, e2, e3, e4, e5, e6, e7, e8⟩ := h.objs n _ hn
  let M' : Mem := fun b' j => if b' = b ∧ o ≤ j ∧ j < o + es.length * sz then cs'[j]? else M b' j
  have hcell : ∀ j, w.cell? ⟨b, j, none⟩ = cs'[j]? := by intro j; simp [World.cell?, e3]
  have hle : M.le M' := by
    intro b' j v hv
    by_cases hc : b' = b ∧ o ≤ j ∧ j < o + es.length * sz
    · simp only [M', if_pos hc]
      obtain ⟨rfl, _, _⟩ := hc
      rw [← hcell]; exact h.mem _ _ _ hv
    · simp only [M', if_neg hc]; exact hv
  have hbS : b ∈ S n := by rw [e1]; simp
  have hown : E.w0.heap.size ≤ b ∨ b ∈ E.S0 := by
    rcases h.own n _ hn b hbS with h1 | h1
    · exact .inr h1
    · exact .inl h1
  have hother : ∀ b', b' ≠ b → ∀ j, M' b' j = M b' j := by
    intro b' hb' j
    simp only [M', if_neg (fun hc : b' = b ∧ _ => hb' hc.1)]
  have key : ∀ n' ob1, (st.setOb n (some (.row sz es true))).get n' = some ob1 → (n' = n ∧ ob1 = .row sz es true) ∨ (n' ≠ n ∧ st.get n' = some ob1) := by
    intro n' ob1 h'
    rcases St.get_setOb_live hn _ h' with ⟨h1, h2⟩ | h2
    · exact .inl ⟨h1, by cases h2; rfl⟩
    · exact .inr h2
  have hlive : ∀ n' ob1, (st.setOb n (some (.row sz es true))).get n' = some ob1 → ∃ ob2, st.get n' = some ob2 := by
    intro n' ob1 h'
    rcases key n' ob1 h' with ⟨rfl, _⟩ | ⟨_, h2⟩
    · exact ⟨_, hn⟩
    · exact ⟨ob1, h2⟩
  refine ⟨M', hle, ?_, ?_⟩
  · exact {
      defers := h.defers
      tmps := by rw [St.tmps_setOb]; exact h.tmps.mono (Rho.le_refl _) hle
      mem := fun b' j v hv => by
        by_cases hc : b' = b ∧ o ≤ j ∧ j < o + es.length * sz
        · simp only [M', if_pos hc] at hv
          obtain ⟨rfl, _, _⟩ := hc
          rw [hcell]; exact hv
        · simp only [M', if_neg hc] at hv
          exact h.mem _ _ _ hv
      objs := fun n' ob1 hn' => by
        rcases key n' ob1 hn' with ⟨rfl, rfl⟩ | ⟨h1, h2⟩
        · refine ⟨b, o, c, ty, cs', e1, e2, e3, e4, e5, e6, fun i k e v he hv => ?_, fun j hj => ⟨rfl, ?_⟩⟩
          · obtain ⟨v', q1, q2⟩ := e7 i k e v he hv
            exact ⟨v', q1, q2.mono (Rho.le_refl _) hle⟩
          · by_cases hc : b = b ∧ o ≤ j ∧ j < o + es.length * sz
            · exact hc.2.2
            · simp only [M', if_neg hc] at hj
              exact (e8 j hj).2
        · exact (h.objs n' ob1 h2).of_heap rfl (Rho.le_refl _) hle (fun b' hb' j => hother b' (fun e => h.disj n' n ob1 _ h2 hn h1 b' hb' (by rw [e]; exact hbS)) j) (fun _ _ => rfl)
      disj := fun n1 n2 o1 o2 h1 h2 hne => by
        obtain ⟨_, q1⟩ := hlive _ _ h1
        obtain ⟨_, q2⟩ := hlive _ _ h2
        exact h.disj _ _ _ _ q1 q2 hne
      blt := fun n1 o1 h1 => by
        obtain ⟨_, q1⟩ := hlive _ _ h1
        exact h.blt _ _ q1
      own := fun n1 o1 h1 => by
        obtain ⟨_, q1⟩ := hlive _ _ h1
        exact h.own _ _ q1
      fresh := St.fresh_setOb hn _ h.fresh
      hsize := h.hsize
      keep := h.keep
      os := h.os
      tape := h.tape
      output := h.output
      M0 := Mem.le_trans h.M0 hle
      Mnew := fun b' j v hv => by
        by_cases hb : b' = b
        · subst hb; exact .inr hown
        · rw [hother b' hb] at hv; exact h.Mnew _ _ _ hv
      ρ0 := h.ρ0 }
  · intro i len v' hil hv
    cases hv with
    | rsl0 => rw [List.take_zero]; exact .lst0
    | @rsl _ _ _ _ b2 o2 c2 cap hn2 h2 h3 =>
      rw [hn2] at e2; cases e2
      have hlen : ((es.drop i).take len).length = len := by simp; omega
      have := VRel.lst (ρ := ρ) (M := M') (sz := sz) (es := (es.drop i).take len) (b := b) (o := o + i * sz) (cap := cap) (fun j k => cs'.getD (o + ((i + j) * sz + k)) undef)
        (fun e he => e6 e (List.mem_of_mem_drop (List.mem_of_mem_take he)))
        (fun j k e v he hv => by
          rw [List.getElem?_take] at he
          split at he
          · rw [List.getElem?_drop] at he
            obtain ⟨v', q1, q2⟩ := e7 _ _ _ _ he hv
            rw [List.getD_eq_getElem?_getD, q1]; exact q2.mono (Rho.le_refl _) hle
          · cases he)
        (fun j k hj hk => by
          rw [hlen] at hj
          have hri := row_index (sz := sz) (show i + j < es.length by omega)
          have hsum : o + i * sz + (j * sz + k) = o + ((i + j) * sz + k) := by rw [Nat.add_mul]; omega
          rw [hsum]
          have hc : b = b ∧ o ≤ o + ((i + j) * sz + k) ∧ o + ((i + j) * sz + k) < o + es.length * sz := ⟨rfl, by omega, by omega⟩
          simp only [M', if_pos hc]
          have hlt : o + ((i + j) * sz + k) < cs'.length := by omega
          simp [List.getD_eq_getElem?_getD, hlt])
        (by rw [hlen]; exact h3)
      rw [hlen] at this
      exact this

end Go.Vm
