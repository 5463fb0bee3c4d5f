/- Regions that draw their order: a chain of operations (each is taken first, or waits for the one ahead of it) beside two allocs that may come up anywhere. The chain is walked once; where the allocs come up makes no difference. For any program. -/
import Derived.Test.YtioifcanipijhaaHnd
import Derived.Deep.RegionHeld3
namespace Go.Proofs.Ytioifcanipijhaa.Chn
open Go.RowKit Go.Proofs.YtioifcanipijhaaW.PrintWords Go.Proofs.YtioifcanipijhaaW.PrintLast Go.Proofs.YtioifcanipijhaaW.PrintMore Go.Proofs.Ytioifcanipijhaa.Q Go.Proofs.Ytioifcanipijhaa.Hnd
set_option linter.unusedVariables false
set_option linter.unusedSimpArgs false
theorem ev_ne {a : Act} {d t : Tmp} {v : Value} (h : t ≠ d) : (a.put (some d) v).eval (.tmp t) = a.eval (.tmp t) := by
  show (a.tmps.setIfInBounds d v).getD t undef = a.tmps.getD t undef
  simp [Array.getElem?_setIfInBounds, Ne.symm h]
theorem ev_eq {a : Act} {d : Tmp} {v : Value} (h : d < a.tmps.size) : (a.put (some d) v).eval (.tmp d) = v := by
  show (a.tmps.setIfInBounds d v).getD d undef = v
  simp [Array.getElem?_setIfInBounds, h]
theorem sz_put {a : Act} {d : Option Tmp} {v : Value} : (a.put d v).tmps.size = a.tmps.size := by
  cases d <;> simp [Act.put]
theorem put_comm {a : Act} {d d' : Tmp} {v v' : Value} (h : d ≠ d') : (a.put (some d) v).put (some d') v' = (a.put (some d') v').put (some d) v := by
  simp only [Act.put]
  congr 1
  exact Array.setIfInBounds_comm _ _ h
def putO (a : Act) (d : Tmp) : Option Nat → Act
  | none => a
  | some b => a.put (some d) (.pointer (some ⟨b, 0, none⟩))
/-- The allocs' places, where they have come up. -/
def two (a : Act) (dA dB : Tmp) (x y : Option Nat) : Act := putO (putO a dA x) dB y
/-- The same but for the allocs' places. -/
def Like (dA dB : Tmp) (a b : Act) : Prop := ∀ t, t ≠ dA → t ≠ dB → b.eval (.tmp t) = a.eval (.tmp t)
theorem like_two (a : Act) (dA dB : Tmp) (x y : Option Nat) : Like dA dB a (two a dA dB x y) := by
  intro t h1 h2
  cases x <;> cases y <;> simp [two, putO, ev_ne, h1, h2]
theorem two_put {a : Act} {d dA dB : Tmp} {x y : Option Nat} {v : Value} (h1 : d ≠ dA) (h2 : d ≠ dB) : (two a dA dB x y).put (some d) v = two (a.put (some d) v) dA dB x y := by
  cases x <;> cases y <;> simp only [two, putO]
  · rw [put_comm (Ne.symm h2)]
  · rw [put_comm (Ne.symm h1)]
  · rw [put_comm (Ne.symm h2), put_comm (Ne.symm h1)]
theorem two_A {a : Act} {dA dB : Tmp} {y : Option Nat} {b : Nat} (h : dA ≠ dB) : (two a dA dB none y).put (some dA) (.pointer (some ⟨b, 0, none⟩)) = two a dA dB (some b) y := by
  cases y <;> simp only [two, putO]
  rw [put_comm (Ne.symm h)]
theorem two_B {a : Act} {dA dB : Tmp} {x : Option Nat} {b : Nat} : (two a dA dB x none).put (some dB) (.pointer (some ⟨b, 0, none⟩)) = two a dA dB x (some b) := rfl
def lst (n : Nat) (ch : List Nat) (iA iB j : Nat) (A B : Bool) : Array Bool := ((List.range n).map fun i => (ch.take j).contains i || (A && i == iA) || (B && i == iB)).toArray
def rdy (ch : List Nat) (iA iB j : Nat) (A B : Bool) : List Nat := ch[j]?.toList ++ (if A then [] else [iA]) ++ (if B then [] else [iB])
/-- Which of the chain are taken first. -/
def tkAt (lo hi j : Nat) : Bool := decide (j < lo) || decide (hi ≤ j)
def rowOk (ops : Array Oper) (n : Nat) (ch : List Nat) (lo hi iA iB j : Nat) (A B : Bool) : Bool :=
  ((lst n ch iA iB j A B).setIfInBounds iA true == lst n ch iA iB j true B) && ((lst n ch iA iB j A B).setIfInBounds iB true == lst n ch iA iB j A true) &&
  (match ch[j]? with
   | some i => ((lst n ch iA iB j A B).setIfInBounds i true == lst n ch iA iB (j + 1) A B) && (if tkAt lo hi j then Region.free .any ops (lst n ch iA iB j A B) i && (Region.ready .any ops (lst n ch iA iB j A B)).contains i else Region.ready .any ops (lst n ch iA iB j A B) == rdy ch iA iB j A B)
   | none => (A && B) || Region.ready .any ops (lst n ch iA iB j A B) == rdy ch iA iB j A B)
def chainOk (ops : Array Oper) (n : Nat) (ch : List Nat) (lo hi iA iB : Nat) : Bool :=
  Region.noSelect ops && (List.range (ch.length + 1)).all fun j => rowOk ops n ch lo hi iA iB j true true && rowOk ops n ch lo hi iA iB j true false && rowOk ops n ch lo hi iA iB j false true && rowOk ops n ch lo hi iA iB j false false
theorem chainOk_row {ops : Array Oper} {n : Nat} {ch : List Nat} {lo hi iA iB : Nat} (h : chainOk ops n ch lo hi iA iB = true) {j : Nat} (hj : j ≤ ch.length) (A B : Bool) : rowOk ops n ch lo hi iA iB j A B = true := by
  unfold chainOk at h
  rw [Bool.and_eq_true, List.all_eq_true] at h
  have := h.2 j (List.mem_range.2 (by omega))
  simp only [Bool.and_eq_true] at this
  obtain ⟨⟨⟨q1, q2⟩, q3⟩, q4⟩ := this
  cases A <;> cases B <;> assumption
section
variable {P : Program} {ops : Array Oper} {Q : Exit → Act → World → Prop} {S : World → Prop}
theorem wpOp_value {i : Nat} {o : Oper} {K : Act → World → Prop} {a : Act} {w w1 : World} {v : Value} (ho : ops[i]? = some o) (hw : Region.wanted o (yielded ops a.tmps) = true) (hrun : (execOp a.eval o).run P w = .ok (.value v) w1) (h : K (a.put o.dst v) w1) : wpOp P ops Q i K a w := by
  unfold wpOp
  simp only [ho]
  rw [if_pos hw]
  left
  unfold Oper.wp
  rw [hrun]
  exact h
theorem wpOp_of {i : Nat} {o : Oper} {K : Act → World → Prop} {a : Act} {w : World} (ho : ops[i]? = some o) (hw : Region.wanted o (yielded ops a.tmps) = true) (h : o.wp P a w K Q) : wpOp P ops Q i K a w := by
  unfold wpOp
  simp only [ho]
  rw [if_pos hw]
  exact .inl h
theorem wpOp_call {i : Nat} {o : Oper} {K : Act → World → Prop} {a : Act} {w : World} {f : FuncId} {args : Array Value} (ho : ops[i]? = some o) (hw : Region.wanted o (yielded ops a.tmps) = true) (hrun : (execOp a.eval o).run P w = .ok (.enter f args) w)
    (h : Calls P f args w fun e w' => ∃ v, e = .returned v ∧ K (a.put o.dst v) w') : wpOp P ops Q i K a w := by
  refine wpOp_of ho hw ?_
  unfold Oper.wp
  rw [hrun, Oper.upon_enter]
  refine h.mono fun e w' hh => ?_
  obtain ⟨v, rfl, hk⟩ := hh
  exact hk
def Box (u0 w : World) (Z : Obj) : Option Nat → Prop
  | none => True
  | some b => w.heap[b]? = some Z ∧ u0.heap.size ≤ b
theorem Box.below {u0 w w' : World} {Z : Obj} {x : Option Nat} (h : Box u0 w Z x) (hb : Below w.heap.size w w') : Box u0 w' Z x := by
  cases x with
  | none => trivial
  | some b => exact ⟨blk_below h.1 hb, h.2⟩
structure Chain (P : Program) (ops : Array Oper) (Q : Exit → Act → World → Prop) (S : World → Prop) (u0 : World) (n : Nat) (ch : List Nat) (lo hi iA iB : Nat) (d : Nat → Tmp) (dA dB : Tmp) (ZA ZB : Obj) (Good : Nat → Act → World → Prop) : Prop where
  ok : chainOk ops n ch lo hi iA iB = true
  pan : ∀ c (a : Act) d v w, Q (.panic c) (a.put d v) w → Q (.panic c) a w
  sat : ∀ {j a w}, Good j a w → S w
  big : ∀ {j a w}, Good j a w → u0.heap.size ≤ w.heap.size
  al : ∀ {j a w} (o : Obj), Good j a w → Good j a (w.alloc o)
  da : ∀ j, j < ch.length → d j ≠ dA ∧ d j ≠ dB
  ab : dA ≠ dB
  opA : ∃ o, ops[iA]? = some o ∧ o.dst = some dA ∧ (∀ t, Region.wanted o t = true) ∧ ∀ ev w, (execOp ev o).run P w = .ok (.value (.pointer (some ⟨w.heap.size, 0, none⟩))) (w.alloc ZA)
  opB : ∃ o, ops[iB]? = some o ∧ o.dst = some dB ∧ (∀ t, Region.wanted o t = true) ∧ ∀ ev w, (execOp ev o).run P w = .ok (.value (.pointer (some ⟨w.heap.size, 0, none⟩))) (w.alloc ZB)
  take : ∀ {j a b w}, tkAt lo hi j = true → j < ch.length → Good j a w → Like dA dB a b → ∃ i o v, ch[j]? = some i ∧ ops[i]? = some o ∧ o.dst = some (d j) ∧ YieldsIf P ops S o v b ∧ Good (j + 1) (a.put (some (d j)) v) w
  step : ∀ {j a b w}, tkAt lo hi j = false → j < ch.length → Good j a w → Like dA dB a b → ∃ i, ch[j]? = some i ∧ ∀ K : Act → World → Prop, (∀ v w', Good (j + 1) (a.put (some (d j)) v) w' → Below w.heap.size w w' → K (b.put (some (d j)) v) w') → wpOp P ops Q i K b w
  tail : ∀ {a w x y}, Good ch.length a w → w.heap[x]? = some ZA → u0.heap.size ≤ x → w.heap[y]? = some ZB → u0.heap.size ≤ y → wpAnyH P .any ops Q S 3 (lst n ch iA iB ch.length true true) (two a dA dB (some x) (some y)) w
variable {u0 : World} {n : Nat} {ch : List Nat} {lo hi iA iB : Nat} {d : Nat → Tmp} {dA dB : Tmp} {ZA ZB : Obj} {Good : Nat → Act → World → Prop}
theorem Chain.run (h : Chain P ops Q S u0 n ch lo hi iA iB d dA dB ZA ZB Good) : ∀ (f j : Nat) (x y : Option Nat) (a : Act) (w : World), (ch.length - j) + (if x.isSome then 0 else 1) + (if y.isSome then 0 else 1) = f → j ≤ ch.length → Good j a w → Box u0 w ZA x → Box u0 w ZB y →
    wpAnyH P .any ops Q S (f + 3) (lst n ch iA iB j x.isSome y.isSome) (two a dA dB x y) w := by
  intro f
  induction f with
  | zero =>
    intro j x y a w hf hj hg hx hy
    have e : j = ch.length := by omega
    subst e
    cases x with
    | none => simp at hf
    | some x =>
      cases y with
      | none => simp at hf
      | some y => exact h.tail hg hx.1 hx.2 hy.1 hy.2
  | succ f ih =>
    intro j x y a w hf hj hg hx hy
    have hrow := chainOk_row h.ok hj x.isSome y.isSome
    have hns : Region.noSelect ops = true := by have := h.ok; unfold chainOk at this; rw [Bool.and_eq_true] at this; exact this.1
    unfold rowOk at hrow
    simp only [Bool.and_eq_true, beq_iff_eq] at hrow
    obtain ⟨⟨sA, sB⟩, hm⟩ := hrow
    -- an alloc comes up
    have goA : x = none → wpOp P ops Q iA (fun a' w' => S w' ∧ wpAnyH P .any ops Q S (f + 3) ((lst n ch iA iB j x.isSome y.isSome).setIfInBounds iA true) a' w') (two a dA dB x y) w := by
      intro e
      subst e
      obtain ⟨o, ho, hd, hw, hrun⟩ := h.opA
      refine wpOp_value ho (hw _) (hrun _ _) ⟨h.sat (h.al ZA hg), ?_⟩
      rw [sA, hd, two_A h.ab]
      exact ih j (some w.heap.size) y a _ (by simp at hf ⊢; omega) hj (h.al ZA hg) ⟨blk_new w ZA, h.big hg⟩ (hy.below (below_alloc (Below.refl _ _) _))
    have goB : y = none → wpOp P ops Q iB (fun a' w' => S w' ∧ wpAnyH P .any ops Q S (f + 3) ((lst n ch iA iB j x.isSome y.isSome).setIfInBounds iB true) a' w') (two a dA dB x y) w := by
      intro e
      subst e
      obtain ⟨o, ho, hd, hw, hrun⟩ := h.opB
      refine wpOp_value ho (hw _) (hrun _ _) ⟨h.sat (h.al ZB hg), ?_⟩
      rw [sB, hd, two_B]
      exact ih j x (some w.heap.size) a _ (by simp at hf ⊢; omega) hj (h.al ZB hg) (hx.below (below_alloc (Below.refl _ _) _)) ⟨blk_new w ZB, h.big hg⟩
    have goAB : ∀ i, i ∈ (if x.isSome then [] else [iA]) ++ (if y.isSome then [] else [iB]) → wpOp P ops Q i (fun a' w' => S w' ∧ wpAnyH P .any ops Q S (f + 3) ((lst n ch iA iB j x.isSome y.isSome).setIfInBounds i true) a' w') (two a dA dB x y) w := by
      intro i hi
      rcases List.mem_append.1 hi with hi | hi
      · cases x with
        | none => simp at hi; subst hi; exact goA rfl
        | some x => simp at hi
      · cases y with
        | none => simp at hi; subst hi; exact goB rfl
        | some y => simp at hi
    cases hc : ch[j]? with
    | none =>
      rw [hc] at hm
      have hl : ch.length ≤ j := by simpa using hc
      simp only [Bool.or_eq_true, Bool.and_eq_true, beq_iff_eq] at hm
      rcases hm with hm | hm
      · have h1 := hm.1
        have h2 := hm.2
        rw [h1, h2] at hf
        simp at hf
        omega
      · refine wpAnyH_all hm ?_ ?_
        · intro e
          simp only [rdy, hc, Option.toList_none, List.nil_append] at e
          cases x <;> cases y <;> simp_all
        · intro i hi
          simp only [rdy, hc, Option.toList_none, List.nil_append] at hi
          exact goAB i hi
    | some i0 =>
      rw [hc] at hm
      have hlt : j < ch.length := by
        rcases Nat.lt_or_ge j ch.length with h | h
        · exact h
        · rw [List.getElem?_eq_none h] at hc; cases hc
      simp only [Bool.and_eq_true, beq_iff_eq] at hm
      obtain ⟨sJ, hm⟩ := hm
      have hd := h.da j hlt
      cases ht : tkAt lo hi j with
      | true =>
        rw [ht, if_pos rfl, Bool.and_eq_true] at hm
        obtain ⟨i, o, v, h1, h2, h3, h4, h5⟩ := h.take ht hlt hg (like_two a dA dB x y)
        have e : i = i0 := by rw [hc] at h1; exact (Option.some.inj h1).symm
        subst e
        refine wpAnyH_take (v := v) h2 hns hm.1 hm.2 (fun c a w => h.pan c a _ v w) h4 (h.sat hg) ?_
        rw [sJ, h3, two_put hd.1 hd.2]
        exact ih (j + 1) x y _ w (by omega) hlt h5 hx hy
      | false =>
        rw [ht] at hm
        simp only [Bool.false_eq_true, if_false, beq_iff_eq] at hm
        refine wpAnyH_all hm ?_ ?_
        · intro e
          simp [rdy, hc] at e
        · intro i hi
          simp only [rdy, hc, Option.toList_some, List.append_assoc, List.mem_append, List.mem_singleton] at hi
          rcases hi with hi | hi
          · subst hi
            obtain ⟨i', h1, h2⟩ := h.step ht hlt hg (like_two a dA dB x y)
            have e : i' = i := by rw [hc] at h1; exact (Option.some.inj h1).symm
            subst e
            refine h2 _ (fun v w' hg' hb => ⟨h.sat hg', ?_⟩)
            rw [sJ, two_put hd.1 hd.2]
            exact ih (j + 1) x y _ w' (by omega) hlt hg' (hx.below hb) (hy.below hb)
          · exact goAB i (List.mem_append.2 hi)
/-- The region. -/
theorem Chain.region (h : Chain P ops Q S u0 n ch lo hi iA iB d dA dB ZA ZB Good) {id : Nat} {a : Act} {w : World} (hm : P.follows .mixedOrders = true) (hn : ops.size = n) (hl : Array.replicate n false = lst n ch iA iB 0 false false) (hsz : n = ch.length + 5) (hg : Good 0 a w.drew) :
    (Code.region id ops true).wp P Q a w := by
  refine wp_region_held_drew hm (h.sat hg) (fun _ => ?_)
  rw [hn, hl, hsz]
  have := h.run (ch.length + 2) 0 none none a w.drew (by simp) (Nat.zero_le _) hg trivial trivial
  rw [hsz] at this
  exact this
end
end Go.Proofs.Ytioifcanipijhaa.Chn
