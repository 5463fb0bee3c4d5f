/- The drawn regions of the law FnExactBorder, each once: a chain of calls beside two allocs. -/
import Derived.Test.YtioifcanipijhaaChnC
import Derived.Test.YtioifcanipijhaaBsdC
namespace Go.Proofs.Ytioifcanipijhaa.GC
open Go.RowKit Go.Proofs.YtioifcanipijhaaW.PrintWords Go.Proofs.YtioifcanipijhaaW.PrintLast Go.Proofs.YtioifcanipijhaaW.PrintMore Go.Proofs.Ytioifcanipijhaa.Q Go.Proofs.Ytioifcanipijhaa.Hnd Go.Proofs.Ytioifcanipijhaa.Chn
set_option linter.unusedVariables false
set_option linter.unusedSimpArgs false
abbrev Z39 : Obj := .cells #[.int .i64 0, .slice none 0 0] 39
abbrev Z31 : Obj := .cells #[.slice none 0 0] 31
/-- An operation of this number: its place, that it has no guard, and what it is. -/
def At (ops : Array Oper) (i : Nat) (d : Option Tmp) (p : Op → Prop) : Prop := ∃ o, ops[i]? = some o ∧ o.dst = d ∧ (∀ t, Region.wanted o t = true) ∧ p o.op
def IsLoad (ty : TypeId) (x : Tmp) (o : Op) : Prop := o = .load ty (.tmp x)
def IsStore (ty : TypeId) (x y : Tmp) (o : Op) : Prop := o = .store ty (.tmp x) (.tmp y)
def IsMove (x : Tmp) (o : Op) : Prop := o = .move (.tmp x) ∨ o = .assign (.tmp x)
def IsPart (x : Tmp) (i : Nat) (o : Op) : Prop := o = .extract (.tmp x) i
def IsCall (f : FuncId) (xs : List Tmp) (o : Op) : Prop := ∃ ts, o = .call { callee := .value (.func f), args := (xs.map Operand.tmp).toArray, argTypes := ts }
def AtNew (ops : Array Oper) (i : Nat) (d : Tmp) (Z : Obj) : Prop := ∃ o, ops[i]? = some o ∧ o.dst = some d ∧ (∀ t, Region.wanted o t = true) ∧ ∀ ev w, (execOp ev o).run Try.prog w = .ok (.value (.pointer (some ⟨w.heap.size, 0, none⟩))) (w.alloc Z)
section
variable {P : Program} {ops : Array Oper} {Q : Exit → Act → World → Prop} {S : World → Prop}
theorem run_load {b : Act} {o : Oper} {ty : TypeId} {x : Tmp} (ho : IsLoad ty x o.op) {g : Nat} (hx : b.eval (.tmp x) = .pointer (some ⟨g, 0, none⟩)) {W : World} {t : TypeId} {cs : Array Value} {d : TypeDesc} (hg : W.heap[g]? = some (.cells cs t (0, 0)))
    (hu : P.underlying ty = some d) (hd : (match d with | .struct _ | .array _ _ => true | _ => false) = true) (hi : (P.info? ty).map (·.size) = some cs.size) : (execOp b.eval o).run P W = .ok (.value (.agg cs)) W := by
  unfold execOp
  unfold IsLoad at ho
  simp only [ho, hx, Instr.loadAt, Instr.sureAddr, Sem.run_bind, Sem.run_pure, Result.andThen_ok, run_loadVar_row W g t ty cs (0, 0) d hg hu hd hi]
theorem run_part {b : Act} {o : Oper} {x : Tmp} {i : Nat} (ho : IsPart x i o.op) {vs : Array Value} {v : Value} (hx : b.eval (.tmp x) = .tuple vs) (hv : vs[i]? = some v) (W : World) : (execOp b.eval o).run P W = .ok (.value v) W := by
  unfold execOp
  unfold IsPart at ho
  simp only [ho, hx, Instr.extract, hv, Sem.run_bind, Sem.run_pure, Result.andThen_ok]
theorem run_move {b : Act} {o : Oper} {x : Tmp} (ho : IsMove x o.op) (W : World) : (execOp b.eval o).run P W = .ok (.value (b.eval (.tmp x))) W := by
  unfold execOp
  rcases ho with ho | ho <;> simp only [ho, Sem.run_pure]
theorem run_call {b : Act} {o : Oper} {f : FuncId} {fn : Func} {xs : List Tmp} (ho : IsCall f xs o.op) (hf : P.funcs[f]? = some fn) (hname : (fn.name == "runtime.NumGoroutine") = false) (hb : fn.body.isSome = true) (args : Array Value) (hargs : (xs.map (fun x => b.eval (.tmp x))).toArray = args) (W : World) :
    (execOp b.eval o).run P W = .ok (.enter f args) W := by
  obtain ⟨ts, ho⟩ := ho
  have he := enters_ hf hname hb args W
  have hargs' : (xs.map Operand.tmp).toArray.map b.eval = args := by rw [← hargs]; simp
  unfold execOp
  simp only [ho]
  simp [resolve, Deferred.ofValue, invoke, Act.eval, hargs', he]
end
/-- Where the chain of four calls stands. -/
def G4 (s : Nat) (a0 a1 a2 a3 b0 : Int) (A : Option Addr) (c : Nat) (l : List Int) (A' : Option Addr) (c' : Nat) (m : List Int) (r : Int) (V1 V2 V3 : List Int) (w u0 : World) (a : Act) : Nat → Act → World → Prop
  | 0, x, W => LS w u0 W #[.int .i64 a0, .int .i64 a1, .int .i64 a2, .int .i64 a3] #[.int .i64 b0, .slice A l.length c] #[.slice A' m.length c'] ∧ (x = a)
  | 1, x, W => LS w u0 W #[.int .i64 a0, .int .i64 a1, .int .i64 a2, .int .i64 a3] #[.int .i64 b0, .slice A l.length c] #[.slice A' m.length c'] ∧ (x = (a.put (some (s + 1)) (.agg #[.int .i64 a0, .int .i64 a1, .int .i64 a2, .int .i64 a3])))
  | 2, x, W => LS w u0 W #[.int .i64 a0, .int .i64 a1, .int .i64 a2, .int .i64 a3] #[.int .i64 b0, .slice A l.length c] #[.slice A' m.length c'] ∧ (x = ((a.put (some (s + 1)) (.agg #[.int .i64 a0, .int .i64 a1, .int .i64 a2, .int .i64 a3])).put (some (s + 3)) (.agg #[.int .i64 b0, .slice A l.length c])))
  | 3, x, W => LS w u0 W #[.int .i64 a0, .int .i64 a1, .int .i64 a2, .int .i64 a3] #[.int .i64 b0, .slice A l.length c] #[.slice A' m.length c'] ∧ (x = (((a.put (some (s + 1)) (.agg #[.int .i64 a0, .int .i64 a1, .int .i64 a2, .int .i64 a3])).put (some (s + 3)) (.agg #[.int .i64 b0, .slice A l.length c])).put (some (s + 5)) (.agg #[.slice A' m.length c'])))
  | 4, x, W => LS w u0 W #[.int .i64 a0, .int .i64 a1, .int .i64 a2, .int .i64 a3] #[.int .i64 b0, .slice A l.length c] #[.slice A' m.length c'] ∧ (x = ((((a.put (some (s + 1)) (.agg #[.int .i64 a0, .int .i64 a1, .int .i64 a2, .int .i64 a3])).put (some (s + 3)) (.agg #[.int .i64 b0, .slice A l.length c])).put (some (s + 5)) (.agg #[.slice A' m.length c'])).put (some (s + 2)) (.agg #[.int .i64 a0, .int .i64 a1, .int .i64 a2, .int .i64 a3])))
  | 5, x, W => LS w u0 W #[.int .i64 a0, .int .i64 a1, .int .i64 a2, .int .i64 a3] #[.int .i64 b0, .slice A l.length c] #[.slice A' m.length c'] ∧ (∃ (O1 : Option Addr) (o1 : Nat), x = (((((a.put (some (s + 1)) (.agg #[.int .i64 a0, .int .i64 a1, .int .i64 a2, .int .i64 a3])).put (some (s + 3)) (.agg #[.int .i64 b0, .slice A l.length c])).put (some (s + 5)) (.agg #[.slice A' m.length c'])).put (some (s + 2)) (.agg #[.int .i64 a0, .int .i64 a1, .int .i64 a2, .int .i64 a3])).put (some (s + 4)) (.agg #[.int .i64 b0, .slice O1 l.length o1])) ∧ (∃ lo hi, Ow w W lo hi (.slice O1 l.length o1) l))
  | 6, x, W => LS w u0 W #[.int .i64 a0, .int .i64 a1, .int .i64 a2, .int .i64 a3] #[.int .i64 b0, .slice A l.length c] #[.slice A' m.length c'] ∧ (∃ (O1 : Option Addr) (o1 : Nat) (I1 : Option Addr) (i1 : Nat), x = ((((((a.put (some (s + 1)) (.agg #[.int .i64 a0, .int .i64 a1, .int .i64 a2, .int .i64 a3])).put (some (s + 3)) (.agg #[.int .i64 b0, .slice A l.length c])).put (some (s + 5)) (.agg #[.slice A' m.length c'])).put (some (s + 2)) (.agg #[.int .i64 a0, .int .i64 a1, .int .i64 a2, .int .i64 a3])).put (some (s + 4)) (.agg #[.int .i64 b0, .slice O1 l.length o1])).put (some (s + 6)) (.agg #[.slice I1 m.length i1])) ∧ (∃ lo hi, Ow w W lo hi (.slice O1 l.length o1) l) ∧ (∃ lo hi, Ow w W lo hi (.slice I1 m.length i1) m))
  | 7, x, W => LS w u0 W #[.int .i64 a0, .int .i64 a1, .int .i64 a2, .int .i64 a3] #[.int .i64 b0, .slice A l.length c] #[.slice A' m.length c'] ∧ (∃ (O1 : Option Addr) (o1 : Nat) (I1 : Option Addr) (i1 : Nat) (B1 : Option Addr) (d1 : Nat) (B2 : Option Addr) (d2 : Nat) (B3 : Option Addr) (d3 : Nat), x = (((((((a.put (some (s + 1)) (.agg #[.int .i64 a0, .int .i64 a1, .int .i64 a2, .int .i64 a3])).put (some (s + 3)) (.agg #[.int .i64 b0, .slice A l.length c])).put (some (s + 5)) (.agg #[.slice A' m.length c'])).put (some (s + 2)) (.agg #[.int .i64 a0, .int .i64 a1, .int .i64 a2, .int .i64 a3])).put (some (s + 4)) (.agg #[.int .i64 b0, .slice O1 l.length o1])).put (some (s + 6)) (.agg #[.slice I1 m.length i1])).put (some (s + 7)) (.tuple #[.agg #[.int .i64 r, .slice B1 V1.length d1], .agg #[.slice B2 V2.length d2], .slice B3 V3.length d3])) ∧ Tri w W u0.heap.size W.heap.size (.slice B1 V1.length d1) (.slice B2 V2.length d2) (.slice B3 V3.length d3) V1 V2 V3)
  | 8, x, W => LS w u0 W #[.int .i64 a0, .int .i64 a1, .int .i64 a2, .int .i64 a3] #[.int .i64 b0, .slice A l.length c] #[.slice A' m.length c'] ∧ (∃ (O1 : Option Addr) (o1 : Nat) (I1 : Option Addr) (i1 : Nat) (B1 : Option Addr) (d1 : Nat) (B2 : Option Addr) (d2 : Nat) (B3 : Option Addr) (d3 : Nat), x = ((((((((a.put (some (s + 1)) (.agg #[.int .i64 a0, .int .i64 a1, .int .i64 a2, .int .i64 a3])).put (some (s + 3)) (.agg #[.int .i64 b0, .slice A l.length c])).put (some (s + 5)) (.agg #[.slice A' m.length c'])).put (some (s + 2)) (.agg #[.int .i64 a0, .int .i64 a1, .int .i64 a2, .int .i64 a3])).put (some (s + 4)) (.agg #[.int .i64 b0, .slice O1 l.length o1])).put (some (s + 6)) (.agg #[.slice I1 m.length i1])).put (some (s + 7)) (.tuple #[.agg #[.int .i64 r, .slice B1 V1.length d1], .agg #[.slice B2 V2.length d2], .slice B3 V3.length d3])).put (some s) (.tuple #[.agg #[.int .i64 r, .slice B1 V1.length d1], .agg #[.slice B2 V2.length d2], .slice B3 V3.length d3])) ∧ Tri w W u0.heap.size W.heap.size (.slice B1 V1.length d1) (.slice B2 V2.length d2) (.slice B3 V3.length d3) V1 V2 V3)
  | 9, x, W => LS w u0 W #[.int .i64 a0, .int .i64 a1, .int .i64 a2, .int .i64 a3] #[.int .i64 b0, .slice A l.length c] #[.slice A' m.length c'] ∧ (∃ (O1 : Option Addr) (o1 : Nat) (I1 : Option Addr) (i1 : Nat) (B1 : Option Addr) (d1 : Nat) (B2 : Option Addr) (d2 : Nat) (B3 : Option Addr) (d3 : Nat), x = (((((((((a.put (some (s + 1)) (.agg #[.int .i64 a0, .int .i64 a1, .int .i64 a2, .int .i64 a3])).put (some (s + 3)) (.agg #[.int .i64 b0, .slice A l.length c])).put (some (s + 5)) (.agg #[.slice A' m.length c'])).put (some (s + 2)) (.agg #[.int .i64 a0, .int .i64 a1, .int .i64 a2, .int .i64 a3])).put (some (s + 4)) (.agg #[.int .i64 b0, .slice O1 l.length o1])).put (some (s + 6)) (.agg #[.slice I1 m.length i1])).put (some (s + 7)) (.tuple #[.agg #[.int .i64 r, .slice B1 V1.length d1], .agg #[.slice B2 V2.length d2], .slice B3 V3.length d3])).put (some s) (.tuple #[.agg #[.int .i64 r, .slice B1 V1.length d1], .agg #[.slice B2 V2.length d2], .slice B3 V3.length d3])).put (some (s + 8)) (.agg #[.int .i64 r, .slice B1 V1.length d1])) ∧ Tri w W u0.heap.size W.heap.size (.slice B1 V1.length d1) (.slice B2 V2.length d2) (.slice B3 V3.length d3) V1 V2 V3)
  | 10, x, W => LS w u0 W #[.int .i64 a0, .int .i64 a1, .int .i64 a2, .int .i64 a3] #[.int .i64 b0, .slice A l.length c] #[.slice A' m.length c'] ∧ (∃ (O1 : Option Addr) (o1 : Nat) (I1 : Option Addr) (i1 : Nat) (B1 : Option Addr) (d1 : Nat) (B2 : Option Addr) (d2 : Nat) (B3 : Option Addr) (d3 : Nat), x = ((((((((((a.put (some (s + 1)) (.agg #[.int .i64 a0, .int .i64 a1, .int .i64 a2, .int .i64 a3])).put (some (s + 3)) (.agg #[.int .i64 b0, .slice A l.length c])).put (some (s + 5)) (.agg #[.slice A' m.length c'])).put (some (s + 2)) (.agg #[.int .i64 a0, .int .i64 a1, .int .i64 a2, .int .i64 a3])).put (some (s + 4)) (.agg #[.int .i64 b0, .slice O1 l.length o1])).put (some (s + 6)) (.agg #[.slice I1 m.length i1])).put (some (s + 7)) (.tuple #[.agg #[.int .i64 r, .slice B1 V1.length d1], .agg #[.slice B2 V2.length d2], .slice B3 V3.length d3])).put (some s) (.tuple #[.agg #[.int .i64 r, .slice B1 V1.length d1], .agg #[.slice B2 V2.length d2], .slice B3 V3.length d3])).put (some (s + 8)) (.agg #[.int .i64 r, .slice B1 V1.length d1])).put (some (s + 9)) (.agg #[.slice B2 V2.length d2])) ∧ Tri w W u0.heap.size W.heap.size (.slice B1 V1.length d1) (.slice B2 V2.length d2) (.slice B3 V3.length d3) V1 V2 V3)
  | _ + 11, x, W => LS w u0 W #[.int .i64 a0, .int .i64 a1, .int .i64 a2, .int .i64 a3] #[.int .i64 b0, .slice A l.length c] #[.slice A' m.length c'] ∧ (∃ (O1 : Option Addr) (o1 : Nat) (I1 : Option Addr) (i1 : Nat) (B1 : Option Addr) (d1 : Nat) (B2 : Option Addr) (d2 : Nat) (B3 : Option Addr) (d3 : Nat), x = (((((((((((a.put (some (s + 1)) (.agg #[.int .i64 a0, .int .i64 a1, .int .i64 a2, .int .i64 a3])).put (some (s + 3)) (.agg #[.int .i64 b0, .slice A l.length c])).put (some (s + 5)) (.agg #[.slice A' m.length c'])).put (some (s + 2)) (.agg #[.int .i64 a0, .int .i64 a1, .int .i64 a2, .int .i64 a3])).put (some (s + 4)) (.agg #[.int .i64 b0, .slice O1 l.length o1])).put (some (s + 6)) (.agg #[.slice I1 m.length i1])).put (some (s + 7)) (.tuple #[.agg #[.int .i64 r, .slice B1 V1.length d1], .agg #[.slice B2 V2.length d2], .slice B3 V3.length d3])).put (some s) (.tuple #[.agg #[.int .i64 r, .slice B1 V1.length d1], .agg #[.slice B2 V2.length d2], .slice B3 V3.length d3])).put (some (s + 8)) (.agg #[.int .i64 r, .slice B1 V1.length d1])).put (some (s + 9)) (.agg #[.slice B2 V2.length d2])).put (some (s + 10)) (.slice B3 V3.length d3)) ∧ Tri w W u0.heap.size W.heap.size (.slice B1 V1.length d1) (.slice B2 V2.length d2) (.slice B3 V3.length d3) V1 V2 V3)
structure Ops4 (ops : Array Oper) (s dA : Nat) (f : FuncId) : Prop where
  sz : ops.size = 16
  tb : chainOk ops 16 [0, 2, 4, 1, 3, 5, 6, 7, 8, 9, 10] 3 7 11 12 = true
  o0 : At ops 0 (some (s + 1)) (IsLoad 23 3)
  o1 : At ops 1 (some (s + 2)) (IsCall 16 [s + 1])
  o2 : At ops 2 (some (s + 3)) (IsLoad 36 4)
  o3 : At ops 3 (some (s + 4)) (IsCall 22 [s + 3])
  o4 : At ops 4 (some (s + 5)) (IsLoad 26 5)
  o5 : At ops 5 (some (s + 6)) (IsCall 17 [s + 5])
  o6 : At ops 6 (some (s + 7)) (IsCall f [s + 2, s + 4, s + 6])
  o7 : At ops 7 (some s) (IsMove (s + 7))
  o8 : At ops 8 (some (s + 8)) (IsPart s 0)
  o9 : At ops 9 (some (s + 9)) (IsPart s 1)
  o10 : At ops 10 (some (s + 10)) (IsPart s 2)
  o11 : AtNew ops 11 dA Z39
  o12 : AtNew ops 12 (dA + 1) Z31
  o13 : At ops 13 none (IsStore 39 dA (s + 8))
  o14 : At ops 14 none (IsStore 31 (dA + 1) (s + 9))
  o15 : At ops 15 (some (dA + 2)) (IsMove (s + 10))
  t1 : Region.ready .any ops (lst 16 [0, 2, 4, 1, 3, 5, 6, 7, 8, 9, 10] 11 12 11 true true) = [13]
  t2 : Region.ready .any ops ((lst 16 [0, 2, 4, 1, 3, 5, 6, 7, 8, 9, 10] 11 12 11 true true).setIfInBounds 13 true) = [14]
  t3 : Region.ready .any ops (((lst 16 [0, 2, 4, 1, 3, 5, 6, 7, 8, 9, 10] 11 12 11 true true).setIfInBounds 13 true).setIfInBounds 14 true) = [15]
  t4 : Region.ready .any ops ((((lst 16 [0, 2, 4, 1, 3, 5, 6, 7, 8, 9, 10] 11 12 11 true true).setIfInBounds 13 true).setIfInBounds 14 true).setIfInBounds 15 true) = []
def d4 (s : Nat) (j : Nat) : Tmp := ([s + 1, s + 3, s + 5, s + 2, s + 4, s + 6, s + 7, s, s + 8, s + 9, s + 10] : List Nat).getD j 0
theorem ev_put {a : Act} {d t : Tmp} {v : Value} : (a.put (some d) v).eval (.tmp t) = if t = d ∧ d < a.tmps.size then v else a.eval (.tmp t) := by
  by_cases h : t = d
  · subst h
    by_cases h2 : t < a.tmps.size
    · rw [ev_eq h2, if_pos ⟨rfl, h2⟩]
    · rw [if_neg (fun x => h2 x.2)]
      show (a.tmps.setIfInBounds t v).getD t undef = a.tmps.getD t undef
      simp [Array.getElem?_setIfInBounds, h2]
  · rw [ev_ne h, if_neg (fun x => h x.1)]
/-- A store of a whole struct into a box of one's own. -/
theorem store_own {ops : Array Oper} {Q : Exit → Act → World → Prop} {K : Act → World → Prop} {b : Act} {o : Oper} {i : Nat} {W : World} {ty : TypeId} {x y : Tmp} (ho : ops[i]? = some o) (hw : ∀ t, Region.wanted o t = true) (hop : IsStore ty x y o.op) (hd : o.dst = none) {g : Nat} {cells old : Array Value} {t : TypeId} (hx : b.eval (.tmp x) = .pointer (some ⟨g, 0, none⟩)) (hy : b.eval (.tmp y) = .agg cells)
    (hg : W.heap[g]? = some (.cells old t (0, 0))) (hi : (Try.prog.info? ty).map (·.size) = some cells.size) (hold : old.size = cells.size) (h1 : cells.all (·.oneCell') = true) (h : K b (W.setRow g cells)) : wpOp Try.prog ops Q i K b W := by
  refine wpOp_of ho (hw _) (wp_store_row ty (.tmp x) (.tmp y) hop g cells hx hy t old hg hi hold h1 ?_)
  rw [hd]
  exact h
theorem fr_row {S : Nat → Prop} {W0 W : World} {g : Nat} (h : Fr S W0 W) (hg : S g) (cells : Array Value) : Fr S W0 (W.setRow g cells) := by
  refine h.trans (T := fun k => k = g) ?_ (fun i hi => by subst hi; exact .inl hg)
  exact ⟨rfl, rfl, rfl, by simp, fun k hk hn => setRow_other W g k cells hn⟩
theorem LB.fr {w W W' : World} {C0 C1 C2 : Array Value} {x y : Nat} (h : LB w W C0 C1 C2) (f : Fr (fun k => k = x ∨ k = y) W W') (hx : w.heap.size + 2 < x) (hy : w.heap.size + 2 < y) : LB w W' C0 C1 C2 :=
  ⟨f.blk h.k0 (fun e => by omega), f.blk h.k1 (fun e => by omega), f.blk h.k2 (fun e => by omega), h.be.trans (f.below (fun i hi => by omega) h.be.size)⟩
theorem G4.ls {s : Nat} {a0 a1 a2 a3 b0 : Int} {A : Option Addr} {c : Nat} {l : List Int} {A' : Option Addr} {c' : Nat} {m : List Int} {r : Int} {V1 V2 V3 : List Int} {w u0 : World} {a : Act} {j : Nat} {x : Act} {W : World} (h : G4 s a0 a1 a2 a3 b0 A c l A' c' m r V1 V2 V3 w u0 a j x W) : LS w u0 W #[.int .i64 a0, .int .i64 a1, .int .i64 a2, .int .i64 a3] #[.int .i64 b0, .slice A l.length c] #[.slice A' m.length c'] := by
  rcases j with _ | _ | _ | _ | _ | _ | _ | _ | _ | _ | _ | j <;> exact h.1
theorem G4.al {s : Nat} {a0 a1 a2 a3 b0 : Int} {A : Option Addr} {c : Nat} {l : List Int} {A' : Option Addr} {c' : Nat} {m : List Int} {r : Int} {V1 V2 V3 : List Int} {w u0 : World} {a : Act} {j : Nat} {x : Act} {W : World} (o : Obj) (h : G4 s a0 a1 a2 a3 b0 A c l A' c' m r V1 V2 V3 w u0 a j x W) : G4 s a0 a1 a2 a3 b0 A c l A' c' m r V1 V2 V3 w u0 a j x (W.alloc o) := by
  rcases j with _ | _ | _ | _ | _ | _ | _ | _ | _ | _ | _ | j
  · exact ⟨lsq h.1, h.2⟩
  · exact ⟨lsq h.1, h.2⟩
  · exact ⟨lsq h.1, h.2⟩
  · exact ⟨lsq h.1, h.2⟩
  · exact ⟨lsq h.1, h.2⟩
  · obtain ⟨hl, O1, o1, hx, lo, hi, ho⟩ := h
    exact ⟨lsq hl, O1, o1, hx, lo, hi, owq ho⟩
  · obtain ⟨hl, O1, o1, I1, i1, hx, ⟨lo, hi, ho⟩, lo', hi', hi_⟩ := h
    exact ⟨lsq hl, O1, o1, I1, i1, hx, ⟨lo, hi, owq ho⟩, lo', hi', owq hi_⟩
  · obtain ⟨hl, O1, o1, I1, i1, B1, d1, B2, d2, B3, d3, hx, ht⟩ := h
    exact ⟨lsq hl, O1, o1, I1, i1, B1, d1, B2, d2, B3, d3, hx, (trq ht).wide (Nat.le_refl _) (by simp)⟩
  · obtain ⟨hl, O1, o1, I1, i1, B1, d1, B2, d2, B3, d3, hx, ht⟩ := h
    exact ⟨lsq hl, O1, o1, I1, i1, B1, d1, B2, d2, B3, d3, hx, (trq ht).wide (Nat.le_refl _) (by simp)⟩
  · obtain ⟨hl, O1, o1, I1, i1, B1, d1, B2, d2, B3, d3, hx, ht⟩ := h
    exact ⟨lsq hl, O1, o1, I1, i1, B1, d1, B2, d2, B3, d3, hx, (trq ht).wide (Nat.le_refl _) (by simp)⟩
  · obtain ⟨hl, O1, o1, I1, i1, B1, d1, B2, d2, B3, d3, hx, ht⟩ := h
    exact ⟨lsq hl, O1, o1, I1, i1, B1, d1, B2, d2, B3, d3, hx, (trq ht).wide (Nat.le_refl _) (by simp)⟩
  · obtain ⟨hl, O1, o1, I1, i1, B1, d1, B2, d2, B3, d3, hx, ht⟩ := h
    exact ⟨lsq hl, O1, o1, I1, i1, B1, d1, B2, d2, B3, d3, hx, (trq ht).wide (Nat.le_refl _) (by simp)⟩

theorem G4.take {ops : Array Oper} {Q : Exit → Act → World → Prop} {s dA : Nat} {f : FuncId} {a0 a1 a2 a3 b0 : Int} {A : Option Addr} {c : Nat} {l : List Int} {A' : Option Addr} {c' : Nat} {m : List Int} {r : Int} {V1 V2 V3 : List Int} {w u0 : World} {a : Act} (O : Ops4 ops s dA f) (hs : dA + 2 < s) (hs2 : s + 10 < 180) (hs3 : 5 < dA) (z : a.tmps.size = 180) (e3 : a.eval (.tmp 3) = .pointer (some ⟨w.heap.size, 0, none⟩)) (e4 : a.eval (.tmp 4) = .pointer (some ⟨w.heap.size + 1, 0, none⟩)) (e5 : a.eval (.tmp 5) = .pointer (some ⟨w.heap.size + 2, 0, none⟩)) {j : Nat} {x b : Act} {W : World} (ht : tkAt 3 7 j = true) (hj : j < 11) (hg : G4 s a0 a1 a2 a3 b0 A c l A' c' m r V1 V2 V3 w u0 a j x W) (hlk : Like dA (dA + 1) x b) :
    ∃ i o v, ([0, 2, 4, 1, 3, 5, 6, 7, 8, 9, 10] : List Nat)[j]? = some i ∧ ops[i]? = some o ∧ o.dst = some (d4 s j) ∧ YieldsIf Try.prog ops (fun W => LB w W #[.int .i64 a0, .int .i64 a1, .int .i64 a2, .int .i64 a3] #[.int .i64 b0, .slice A l.length c] #[.slice A' m.length c']) o v b ∧ G4 s a0 a1 a2 a3 b0 A c l A' c' m r V1 V2 V3 w u0 a (j + 1) (x.put (some (d4 s j)) v) W := by
  have q1 : s + 1 < 180 := by omega
  have q2 : s + 2 < 180 := by omega
  have q3 : s + 3 < 180 := by omega
  have q4 : s + 4 < 180 := by omega
  have q5 : s + 5 < 180 := by omega
  have q6 : s + 6 < 180 := by omega
  have q7 : s + 7 < 180 := by omega
  have q8 : s + 8 < 180 := by omega
  have q9 : s + 9 < 180 := by omega
  have q10 : s + 10 < 180 := by omega
  have q0 : s < 180 := by omega
  have hlk' : ∀ t : Nat, (t < dA ∨ dA + 1 < t) → b.eval (.tmp t) = x.eval (.tmp t) := fun t h => hlk t (fun e => absurd (show (t : Nat) = dA from e) (by omega)) (fun e => absurd (show (t : Nat) = dA + 1 from e) (by omega))
  rcases j with _ | _ | _ | _ | _ | _ | _ | _ | _ | _ | _ | j
  · obtain ⟨hl, hx⟩ := hg
    obtain ⟨o, h1, h2, h3, h4⟩ := O.o0
    exact ⟨0, o, .agg #[.int .i64 a0, .int .i64 a1, .int .i64 a2, .int .i64 a3], rfl, h1, h2, .inl ⟨h3 _, fun W hW => run_load h4 (by rw [hlk' 3 (by omega), hx]; (try simp [ev_put, sz_put, z, show ¬ 3 = s + 1 by omega, show ¬ 3 = s + 3 by omega, show ¬ 3 = s + 5 by omega]); exact e3) hW.k0 Try.underlying23 rfl (by kernel_rfl)⟩, hl, by rw [hx]; rfl⟩
  · obtain ⟨hl, hx⟩ := hg
    obtain ⟨o, h1, h2, h3, h4⟩ := O.o2
    exact ⟨2, o, .agg #[.int .i64 b0, .slice A l.length c], rfl, h1, h2, .inl ⟨h3 _, fun W hW => run_load h4 (by rw [hlk' 4 (by omega), hx]; (try simp [ev_put, sz_put, z, show ¬ 4 = s + 1 by omega, show ¬ 4 = s + 3 by omega, show ¬ 4 = s + 5 by omega]); exact e4) hW.k1 Try.underlying36 rfl (by kernel_rfl)⟩, hl, by rw [hx]; rfl⟩
  · obtain ⟨hl, hx⟩ := hg
    obtain ⟨o, h1, h2, h3, h4⟩ := O.o4
    exact ⟨4, o, .agg #[.slice A' m.length c'], rfl, h1, h2, .inl ⟨h3 _, fun W hW => run_load h4 (by rw [hlk' 5 (by omega), hx]; (try simp [ev_put, sz_put, z, show ¬ 5 = s + 1 by omega, show ¬ 5 = s + 3 by omega, show ¬ 5 = s + 5 by omega]); exact e5) hW.k2 Try.underlying26 rfl (by kernel_rfl)⟩, hl, by rw [hx]; rfl⟩
  · exact absurd ht (by decide)
  · exact absurd ht (by decide)
  · exact absurd ht (by decide)
  · exact absurd ht (by decide)
  · obtain ⟨hl, O1, o1, I1, i1, B1, d1, B2, d2, B3, d3, hx, ht⟩ := hg
    obtain ⟨o, h1, h2, h3, h4⟩ := O.o7
    exact ⟨7, o, .tuple #[.agg #[.int .i64 r, .slice B1 V1.length d1], .agg #[.slice B2 V2.length d2], .slice B3 V3.length d3], rfl, h1, h2, .inl ⟨h3 _, fun W hW => (run_move h4 W).trans (congrArg (fun v => Result.ok (Next.value v) W) (by rw [hlk' (s + 7) (by omega), hx]; simp [ev_put, sz_put, z, q0, q1, q2, q3, q4, q5, q6, q7, q8, q9, q10]))⟩, hl, O1, o1, I1, i1, B1, d1, B2, d2, B3, d3, by rw [hx]; rfl, ht⟩
  · obtain ⟨hl, O1, o1, I1, i1, B1, d1, B2, d2, B3, d3, hx, ht⟩ := hg
    obtain ⟨o, h1, h2, h3, h4⟩ := O.o8
    exact ⟨8, o, .agg #[.int .i64 r, .slice B1 V1.length d1], rfl, h1, h2, .inl ⟨h3 _, fun W hW => run_part h4 (vs := #[.agg #[.int .i64 r, .slice B1 V1.length d1], .agg #[.slice B2 V2.length d2], .slice B3 V3.length d3]) (by rw [hlk' s (by omega), hx]; simp [ev_put, sz_put, z, q0, q1, q2, q3, q4, q5, q6, q7, q8, q9, q10]) rfl W⟩, hl, O1, o1, I1, i1, B1, d1, B2, d2, B3, d3, by rw [hx]; rfl, ht⟩
  · obtain ⟨hl, O1, o1, I1, i1, B1, d1, B2, d2, B3, d3, hx, ht⟩ := hg
    obtain ⟨o, h1, h2, h3, h4⟩ := O.o9
    exact ⟨9, o, .agg #[.slice B2 V2.length d2], rfl, h1, h2, .inl ⟨h3 _, fun W hW => run_part h4 (vs := #[.agg #[.int .i64 r, .slice B1 V1.length d1], .agg #[.slice B2 V2.length d2], .slice B3 V3.length d3]) (by rw [hlk' s (by omega), hx]; simp [ev_put, sz_put, z, q0, q1, q2, q3, q4, q5, q6, q7, q8, q9, q10]) rfl W⟩, hl, O1, o1, I1, i1, B1, d1, B2, d2, B3, d3, by rw [hx]; rfl, ht⟩
  · obtain ⟨hl, O1, o1, I1, i1, B1, d1, B2, d2, B3, d3, hx, ht⟩ := hg
    obtain ⟨o, h1, h2, h3, h4⟩ := O.o10
    exact ⟨10, o, .slice B3 V3.length d3, rfl, h1, h2, .inl ⟨h3 _, fun W hW => run_part h4 (vs := #[.agg #[.int .i64 r, .slice B1 V1.length d1], .agg #[.slice B2 V2.length d2], .slice B3 V3.length d3]) (by rw [hlk' s (by omega), hx]; simp [ev_put, sz_put, z, q0, q1, q2, q3, q4, q5, q6, q7, q8, q9, q10]) rfl W⟩, hl, O1, o1, I1, i1, B1, d1, B2, d2, B3, d3, by rw [hx]; rfl, ht⟩
  · omega

theorem G4.step {ops : Array Oper} {Q : Exit → Act → World → Prop} {s dA : Nat} {f : FuncId} {a0 a1 a2 a3 b0 : Int} {A : Option Addr} {c : Nat} {l : List Int} {A' : Option Addr} {c' : Nat} {m : List Int} {r : Int} {V1 V2 V3 : List Int} {w u0 : World} {a : Act} (O : Ops4 ops s dA f) (hs : dA + 2 < s) (hs2 : s + 10 < 180) (hs3 : 5 < dA) (z : a.tmps.size = 180) (e3 : a.eval (.tmp 3) = .pointer (some ⟨w.heap.size, 0, none⟩)) (e4 : a.eval (.tmp 4) = .pointer (some ⟨w.heap.size + 1, 0, none⟩)) (e5 : a.eval (.tmp 5) = .pointer (some ⟨w.heap.size + 2, 0, none⟩)) (hB : ∀ (W : World) (lo hi lo' hi' : Nat) (A1 A2 : Option Addr) (c1 c2 : Nat), Below w.heap.size w W → Ow w W lo hi (.slice A1 l.length c1) l → Ow w W lo' hi' (.slice A2 m.length c2) m → Calls Try.prog f #[.agg #[.int .i64 a0, .int .i64 a1, .int .i64 a2, .int .i64 a3], .agg #[.int .i64 b0, .slice A1 l.length c1], .agg #[.slice A2 m.length c2]] W fun e w' => ∃ B1 d1 B2 d2 B3 d3, e = .returned (.tuple #[.agg #[.int .i64 r, .slice B1 V1.length d1], .agg #[.slice B2 V2.length d2], .slice B3 V3.length d3]) ∧ Tri w w' W.heap.size w'.heap.size (.slice B1 V1.length d1) (.slice B2 V2.length d2) (.slice B3 V3.length d3) V1 V2 V3 ∧ Below W.heap.size W w') {fn : Func} (hf : Try.prog.funcs[f]? = some fn) (hname : (fn.name == "runtime.NumGoroutine") = false) (hbd : fn.body.isSome = true) {K : Nat} (hC : Kd.C (Kd.int .u32) w A l.length l) (hc : l.length ≤ c) (hC' : Kd.C (Kd.int .u32) w A' m.length m) (hc' : m.length ≤ c') (hto : laws_toOutEnd.f K b0 l = some (b0, l)) (hti : laws_toInEnd.f K m = some m) {j : Nat} {x b : Act} {W : World} (ht : tkAt 3 7 j = false) (hj : j < 11) (hg : G4 s a0 a1 a2 a3 b0 A c l A' c' m r V1 V2 V3 w u0 a j x W) (hlk : Like dA (dA + 1) x b) :
    ∃ i, ([0, 2, 4, 1, 3, 5, 6, 7, 8, 9, 10] : List Nat)[j]? = some i ∧ ∀ K : Act → World → Prop, (∀ v w', G4 s a0 a1 a2 a3 b0 A c l A' c' m r V1 V2 V3 w u0 a (j + 1) (x.put (some (d4 s j)) v) w' → Below W.heap.size W w' → K (b.put (some (d4 s j)) v) w') → wpOp Try.prog ops Q i K b W := by
  have q1 : s + 1 < 180 := by omega
  have q2 : s + 2 < 180 := by omega
  have q3 : s + 3 < 180 := by omega
  have q4 : s + 4 < 180 := by omega
  have q5 : s + 5 < 180 := by omega
  have q6 : s + 6 < 180 := by omega
  have q7 : s + 7 < 180 := by omega
  have q8 : s + 8 < 180 := by omega
  have q9 : s + 9 < 180 := by omega
  have q10 : s + 10 < 180 := by omega
  have q0 : s < 180 := by omega
  have hlk' : ∀ t : Nat, (t < dA ∨ dA + 1 < t) → b.eval (.tmp t) = x.eval (.tmp t) := fun t h => hlk t (fun e => absurd (show (t : Nat) = dA from e) (by omega)) (fun e => absurd (show (t : Nat) = dA + 1 from e) (by omega))
  rcases j with _ | _ | _ | _ | _ | _ | _ | _ | _ | _ | _ | j
  · exact absurd ht (by decide)
  · exact absurd ht (by decide)
  · exact absurd ht (by decide)
  · obtain ⟨hl, hx⟩ := hg
    obtain ⟨o, h1, h2, h3, h4⟩ := O.o1
    refine ⟨1, rfl, fun K hK => wpOp_call h1 (h3 _) (run_call h4 (fn := Try.f16) Try.func16 rfl rfl #[.agg #[.int .i64 a0, .int .i64 a1, .int .i64 a2, .int .i64 a3]] (by simp only [List.map_cons, List.map_nil]; rw [hlk' (s + 1) (by omega), hx]; simp [ev_put, sz_put, z, q0, q1, q2, q3, q4, q5, q6, q7, q8, q9, q10]) W) ?_⟩
    refine (laws_toChanRow.calls a0 a1 a2 a3 a0 a1 a2 a3 W rfl).mono ?_
    rintro e w' ⟨rfl, hb⟩
    refine ⟨_, rfl, ?_⟩
    rw [h2]
    exact hK _ _ ⟨hl.below hb, by rw [hx]; rfl⟩ hb
  · obtain ⟨hl, hx⟩ := hg
    obtain ⟨o, h1, h2, h3, h4⟩ := O.o3
    refine ⟨3, rfl, fun K hK => wpOp_call h1 (h3 _) (run_call h4 (fn := Try.f22) Try.func22 rfl rfl #[.agg #[.int .i64 b0, .slice A l.length c]] (by simp only [List.map_cons, List.map_nil]; rw [hlk' (s + 3) (by omega), hx]; simp [ev_put, sz_put, z, q0, q1, q2, q3, q4, q5, q6, q7, q8, q9, q10]) W) ?_⟩
    refine (toOut_calls _ b0 A c l l hl.l.be (Kd.C_below hC hl.l.be) hc hto).mono ?_
    rintro e w' ⟨O1, o1, rfl, ho, hb⟩
    refine ⟨_, rfl, ?_⟩
    rw [h2]
    exact hK _ _ ⟨hl.below hb, O1, o1, by rw [hx]; rfl, _, _, ho⟩ hb
  · obtain ⟨hl, O1, o1, hx, lo, hi, ho⟩ := hg
    obtain ⟨o, h1, h2, h3, h4⟩ := O.o5
    refine ⟨5, rfl, fun K hK => wpOp_call h1 (h3 _) (run_call h4 (fn := Try.f17) Try.func17 rfl rfl #[.agg #[.slice A' m.length c']] (by simp only [List.map_cons, List.map_nil]; rw [hlk' (s + 5) (by omega), hx]; simp [ev_put, sz_put, z, q0, q1, q2, q3, q4, q5, q6, q7, q8, q9, q10]) W) ?_⟩
    refine (toIn_calls _ A' c' m m hl.l.be (Kd.C_below hC' hl.l.be) hc' hti).mono ?_
    rintro e w' ⟨I1, i1, rfl, hi_, hb⟩
    refine ⟨_, rfl, ?_⟩
    rw [h2]
    exact hK _ _ ⟨hl.below hb, O1, o1, I1, i1, by rw [hx]; rfl, ⟨_, _, ho.below hb⟩, _, _, hi_⟩ hb
  · obtain ⟨hl, O1, o1, I1, i1, hx, ⟨lo, hi, ho⟩, lo', hi', hi_⟩ := hg
    obtain ⟨o, h1, h2, h3, h4⟩ := O.o6
    refine ⟨6, rfl, fun K hK => wpOp_call h1 (h3 _) (run_call h4 hf hname hbd #[.agg #[.int .i64 a0, .int .i64 a1, .int .i64 a2, .int .i64 a3], .agg #[.int .i64 b0, .slice O1 l.length o1], .agg #[.slice I1 m.length i1]] (by simp only [List.map_cons, List.map_nil]; rw [hlk' (s + 2) (by omega), hlk' (s + 4) (by omega), hlk' (s + 6) (by omega), hx]; simp [ev_put, sz_put, z, q0, q1, q2, q3, q4, q5, q6, q7, q8, q9, q10]) W) ?_⟩
    refine (hB W _ _ _ _ O1 I1 o1 i1 hl.l.be ho hi_).mono ?_
    rintro e w' ⟨B1, d1, B2, d2, B3, d3, rfl, ht, hb⟩
    refine ⟨_, rfl, ?_⟩
    rw [h2]
    exact hK _ _ ⟨hl.below hb, O1, o1, I1, i1, B1, d1, B2, d2, B3, d3, by rw [hx]; rfl, ht.wide hl.b.size (Nat.le_refl _)⟩ hb
  · exact absurd ht (by decide)
  · exact absurd ht (by decide)
  · exact absurd ht (by decide)
  · exact absurd ht (by decide)
  · omega

set_option maxHeartbeats 4000000 in
theorem reg4 {ops : Array Oper} {Q : Exit → Act → World → Prop} {s dA : Nat} {f : FuncId} {a0 a1 a2 a3 b0 : Int} {A : Option Addr} {c : Nat} {l : List Int} {A' : Option Addr} {c' : Nat} {m : List Int} {r : Int} {V1 V2 V3 : List Int} {w u0 : World} {a : Act} (O : Ops4 ops s dA f) (hs : dA + 2 < s) (hs2 : s + 10 < 180) (hs3 : 5 < dA) (z : a.tmps.size = 180) (e3 : a.eval (.tmp 3) = .pointer (some ⟨w.heap.size, 0, none⟩)) (e4 : a.eval (.tmp 4) = .pointer (some ⟨w.heap.size + 1, 0, none⟩)) (e5 : a.eval (.tmp 5) = .pointer (some ⟨w.heap.size + 2, 0, none⟩)) (hB : ∀ (W : World) (lo hi lo' hi' : Nat) (A1 A2 : Option Addr) (c1 c2 : Nat), Below w.heap.size w W → Ow w W lo hi (.slice A1 l.length c1) l → Ow w W lo' hi' (.slice A2 m.length c2) m → Calls Try.prog f #[.agg #[.int .i64 a0, .int .i64 a1, .int .i64 a2, .int .i64 a3], .agg #[.int .i64 b0, .slice A1 l.length c1], .agg #[.slice A2 m.length c2]] W fun e w' => ∃ B1 d1 B2 d2 B3 d3, e = .returned (.tuple #[.agg #[.int .i64 r, .slice B1 V1.length d1], .agg #[.slice B2 V2.length d2], .slice B3 V3.length d3]) ∧ Tri w w' W.heap.size w'.heap.size (.slice B1 V1.length d1) (.slice B2 V2.length d2) (.slice B3 V3.length d3) V1 V2 V3 ∧ Below W.heap.size W w') {fn : Func} (hf : Try.prog.funcs[f]? = some fn) (hname : (fn.name == "runtime.NumGoroutine") = false) (hbd : fn.body.isSome = true) {K : Nat} (hC : Kd.C (Kd.int .u32) w A l.length l) (hc : l.length ≤ c) (hC' : Kd.C (Kd.int .u32) w A' m.length m) (hc' : m.length ≤ c') (hto : laws_toOutEnd.f K b0 l = some (b0, l)) (hti : laws_toInEnd.f K m = some m) {id : Nat} (hpan : ∀ c (x : Act) d v W, Q (.panic c) (x.put d v) W → Q (.panic c) x W) (L : LB w u0 #[.int .i64 a0, .int .i64 a1, .int .i64 a2, .int .i64 a3] #[.int .i64 b0, .slice A l.length c] #[.slice A' m.length c'])
    (hQ : ∀ (X : World) (b8 b9 : Nat) (O1 : Option Addr) (o1 : Nat) (I1 : Option Addr) (i1 : Nat) (B1 : Option Addr) (d1 : Nat) (B2 : Option Addr) (d2 : Nat) (B3 : Option Addr) (d3 : Nat), L8 w u0 X b8 b9 r (.slice B1 V1.length d1) (.slice B2 V2.length d2) (.slice B3 V3.length d3) V1 V2 V3 → Q .normal ((two (((((((((((a.put (some (s + 1)) (.agg #[.int .i64 a0, .int .i64 a1, .int .i64 a2, .int .i64 a3])).put (some (s + 3)) (.agg #[.int .i64 b0, .slice A l.length c])).put (some (s + 5)) (.agg #[.slice A' m.length c'])).put (some (s + 2)) (.agg #[.int .i64 a0, .int .i64 a1, .int .i64 a2, .int .i64 a3])).put (some (s + 4)) (.agg #[.int .i64 b0, .slice O1 l.length o1])).put (some (s + 6)) (.agg #[.slice I1 m.length i1])).put (some (s + 7)) (.tuple #[.agg #[.int .i64 r, .slice B1 V1.length d1], .agg #[.slice B2 V2.length d2], .slice B3 V3.length d3])).put (some s) (.tuple #[.agg #[.int .i64 r, .slice B1 V1.length d1], .agg #[.slice B2 V2.length d2], .slice B3 V3.length d3])).put (some (s + 8)) (.agg #[.int .i64 r, .slice B1 V1.length d1])).put (some (s + 9)) (.agg #[.slice B2 V2.length d2])).put (some (s + 10)) (.slice B3 V3.length d3)) dA (dA + 1) (some b8) (some b9)).put (some (dA + 2)) (.slice B3 V3.length d3)) X) :
    (Code.region id ops true).wp Try.prog Q a u0 := by
  have H : Chain Try.prog ops Q (fun W => LB w W #[.int .i64 a0, .int .i64 a1, .int .i64 a2, .int .i64 a3] #[.int .i64 b0, .slice A l.length c] #[.slice A' m.length c']) u0 16 [0, 2, 4, 1, 3, 5, 6, 7, 8, 9, 10] 3 7 11 12 (d4 s) dA (dA + 1) Z39 Z31 (G4 s a0 a1 a2 a3 b0 A c l A' c' m r V1 V2 V3 w u0 a) :=
    { ok := O.tb
      pan := hpan
      sat := fun h => h.ls.l
      big := fun h => h.ls.b.size
      al := fun o h => G4.al o h
      da := fun j hj => by
        have hj' : j < 11 := hj
        rcases j with _ | _ | _ | _ | _ | _ | _ | _ | _ | _ | _ | j
        · exact ⟨fun e => absurd (show (s + 1 : Nat) = dA from e) (by omega), fun e => absurd (show (s + 1 : Nat) = dA + 1 from e) (by omega)⟩
        · exact ⟨fun e => absurd (show (s + 3 : Nat) = dA from e) (by omega), fun e => absurd (show (s + 3 : Nat) = dA + 1 from e) (by omega)⟩
        · exact ⟨fun e => absurd (show (s + 5 : Nat) = dA from e) (by omega), fun e => absurd (show (s + 5 : Nat) = dA + 1 from e) (by omega)⟩
        · exact ⟨fun e => absurd (show (s + 2 : Nat) = dA from e) (by omega), fun e => absurd (show (s + 2 : Nat) = dA + 1 from e) (by omega)⟩
        · exact ⟨fun e => absurd (show (s + 4 : Nat) = dA from e) (by omega), fun e => absurd (show (s + 4 : Nat) = dA + 1 from e) (by omega)⟩
        · exact ⟨fun e => absurd (show (s + 6 : Nat) = dA from e) (by omega), fun e => absurd (show (s + 6 : Nat) = dA + 1 from e) (by omega)⟩
        · exact ⟨fun e => absurd (show (s + 7 : Nat) = dA from e) (by omega), fun e => absurd (show (s + 7 : Nat) = dA + 1 from e) (by omega)⟩
        · exact ⟨fun e => absurd (show (s : Nat) = dA from e) (by omega), fun e => absurd (show (s : Nat) = dA + 1 from e) (by omega)⟩
        · exact ⟨fun e => absurd (show (s + 8 : Nat) = dA from e) (by omega), fun e => absurd (show (s + 8 : Nat) = dA + 1 from e) (by omega)⟩
        · exact ⟨fun e => absurd (show (s + 9 : Nat) = dA from e) (by omega), fun e => absurd (show (s + 9 : Nat) = dA + 1 from e) (by omega)⟩
        · exact ⟨fun e => absurd (show (s + 10 : Nat) = dA from e) (by omega), fun e => absurd (show (s + 10 : Nat) = dA + 1 from e) (by omega)⟩
        · omega
      ab := fun e => absurd (show (dA : Nat) = dA + 1 from e) (by omega)
      opA := O.o11
      opB := O.o12
      take := fun ht hj hg hlk => G4.take (Q := Q) O hs hs2 hs3 z e3 e4 e5 ht hj hg hlk
      step := fun ht hj hg hlk => G4.step O hs hs2 hs3 z e3 e4 e5 hB hf hname hbd hC hc hC' hc' hto hti ht hj hg hlk
      tail := by
        intro x W p q hg hp hp0 hq hq0
        have q1 : s + 1 < 180 := by omega
        have q2 : s + 2 < 180 := by omega
        have q3 : s + 3 < 180 := by omega
        have q4 : s + 4 < 180 := by omega
        have q5 : s + 5 < 180 := by omega
        have q6 : s + 6 < 180 := by omega
        have q7 : s + 7 < 180 := by omega
        have q8 : s + 8 < 180 := by omega
        have q9 : s + 9 < 180 := by omega
        have q10 : s + 10 < 180 := by omega
        have q0 : s < 180 := by omega
        obtain ⟨hl, O1, o1, I1, i1, B1, d1, B2, d2, B3, d3, hx, ht⟩ := hg
        have lp : w.heap.size + 2 < p := Nat.lt_of_lt_of_le (blk_lt L.k2) hp0
        have lq_ : w.heap.size + 2 < q := Nat.lt_of_lt_of_le (blk_lt L.k2) hq0
        have npq : p ≠ q := blk_ne hp hq (by decide)
        have f1 : Fr (fun k => k = p ∨ k = q) W (W.setRow p #[.int .i64 r, .slice B1 V1.length d1]) := fr_row (Fr.refl _ W) (.inl rfl) _
        have f2 : Fr (fun k => k = p ∨ k = q) W ((W.setRow p #[.int .i64 r, .slice B1 V1.length d1]).setRow q #[.slice B2 V2.length d2]) := fr_row f1 (.inr rfl) _
        have g1 : (W.setRow p #[.int .i64 r, .slice B1 V1.length d1]).heap[p]? = some (.cells #[.int .i64 r, .slice B1 V1.length d1] 39 (0, 0)) := setRow_heap W p _ _ 39 (0, 0) hp
        have g2 : (W.setRow p #[.int .i64 r, .slice B1 V1.length d1]).heap[q]? = some Z31 := (setRow_other W p q _ (Ne.symm npq)).trans hq
        have g3 : ((W.setRow p #[.int .i64 r, .slice B1 V1.length d1]).setRow q #[.slice B2 V2.length d2]).heap[p]? = some (.cells #[.int .i64 r, .slice B1 V1.length d1] 39 (0, 0)) := (setRow_other _ q p _ npq).trans g1
        have g4 : ((W.setRow p #[.int .i64 r, .slice B1 V1.length d1]).setRow q #[.slice B2 V2.length d2]).heap[q]? = some (.cells #[.slice B2 V2.length d2] 31 (0, 0)) := setRow_heap _ q _ _ 31 (0, 0) g2
        have ep : (two x dA (dA + 1) (some p) (some q)).eval (.tmp dA) = .pointer (some ⟨p, 0, none⟩) := by rw [hx]; simp [two, putO, ev_put, sz_put, z, show dA < 180 by omega]
        have eq_ : (two x dA (dA + 1) (some p) (some q)).eval (.tmp (dA + 1)) = .pointer (some ⟨q, 0, none⟩) := by rw [hx]; simp [two, putO, ev_put, sz_put, z, show dA + 1 < 180 by omega]
        have hlk := like_two x dA (dA + 1) (some p) (some q)
        have hlk' : ∀ t : Nat, (t < dA ∨ dA + 1 < t) → (two x dA (dA + 1) (some p) (some q)).eval (.tmp t) = x.eval (.tmp t) := fun t h => hlk t (fun e => absurd (show (t : Nat) = dA from e) (by omega)) (fun e => absurd (show (t : Nat) = dA + 1 from e) (by omega))
        refine wpAnyH_all O.t1 (by simp) (fun i hi => ?_)
        obtain rfl := List.mem_singleton.1 hi
        obtain ⟨o, h1, h2, h3, h4⟩ := O.o13
        refine store_own h1 h3 h4 h2 ep (cells := #[.int .i64 r, .slice B1 V1.length d1]) (by rw [hlk' (s + 8) (by omega), hx]; simp [ev_put, sz_put, z, q0, q1, q2, q3, q4, q5, q6, q7, q8, q9, q10]) hp (by kernel_rfl) rfl (by simp [Value.oneCell']) ⟨hl.l.fr f1 lp lq_, ?_⟩
        refine wpAnyH_all O.t2 (by simp) (fun i hi => ?_)
        obtain rfl := List.mem_singleton.1 hi
        obtain ⟨o, h1, h2, h3, h4⟩ := O.o14
        refine store_own h1 h3 h4 h2 eq_ (cells := #[.slice B2 V2.length d2]) (by rw [hlk' (s + 9) (by omega), hx]; simp [ev_put, sz_put, z, q0, q1, q2, q3, q4, q5, q6, q7, q8, q9, q10]) g2 (by kernel_rfl) rfl (by simp [Value.oneCell']) ⟨hl.l.fr f2 lp lq_, ?_⟩
        refine wpAnyH_all O.t3 (by simp) (fun i hi => ?_)
        obtain rfl := List.mem_singleton.1 hi
        obtain ⟨o, h1, h2, h3, h4⟩ := O.o15
        refine wpOp_value (v := .slice B3 V3.length d3) h1 (h3 _) ((run_move h4 _).trans (congrArg (fun v => Result.ok (Next.value v) _) (by rw [hlk' (s + 10) (by omega), hx]; simp [ev_put, sz_put, z, q0, q1, q2, q3, q4, q5, q6, q7, q8, q9, q10]))) ⟨hl.l.fr f2 lp lq_, ?_⟩
        refine wpAnyH_done O.t4 ?_ _
        rw [h2, hx]
        exact hQ _ p q O1 o1 I1 i1 B1 d1 B2 d2 B3 d3 (L8.mk_ hl.b ht f2 g3 g4 (.inr ⟨_, hp⟩) (.inr ⟨_, hq⟩) hp0 hq0) }
  exact H.region (by kernel_rfl) O.sz rfl rfl ⟨⟨lbq L, below_drew1 (Below.refl _ _)⟩, rfl⟩

theorem reg4x {ops : Array Oper} {Q : Exit → Act → World → Prop} {s dA : Nat} {f : FuncId} {a0 a1 a2 a3 b0 : Int} {A : Option Addr} {c : Nat} {l : List Int} {A' : Option Addr} {c' : Nat} {m : List Int} {r : Int} {V1 V2 V3 : List Int} {w u0 : World} {a : Act} (O : Ops4 ops s dA f) (hs : dA + 2 < s) (hs2 : s + 10 < 180) (hs3 : 5 < dA) (z : a.tmps.size = 180) (e3 : a.eval (.tmp 3) = .pointer (some ⟨w.heap.size, 0, none⟩)) (e4 : a.eval (.tmp 4) = .pointer (some ⟨w.heap.size + 1, 0, none⟩)) (e5 : a.eval (.tmp 5) = .pointer (some ⟨w.heap.size + 2, 0, none⟩)) (hB : ∀ (W : World) (lo hi lo' hi' : Nat) (A1 A2 : Option Addr) (c1 c2 : Nat), Below w.heap.size w W → Ow w W lo hi (.slice A1 l.length c1) l → Ow w W lo' hi' (.slice A2 m.length c2) m → Calls Try.prog f #[.agg #[.int .i64 a0, .int .i64 a1, .int .i64 a2, .int .i64 a3], .agg #[.int .i64 b0, .slice A1 l.length c1], .agg #[.slice A2 m.length c2]] W fun e w' => ∃ B1 d1 B2 d2 B3 d3, e = .returned (.tuple #[.agg #[.int .i64 r, .slice B1 V1.length d1], .agg #[.slice B2 V2.length d2], .slice B3 V3.length d3]) ∧ Tri w w' W.heap.size w'.heap.size (.slice B1 V1.length d1) (.slice B2 V2.length d2) (.slice B3 V3.length d3) V1 V2 V3 ∧ Below W.heap.size W w') {fn : Func} (hf : Try.prog.funcs[f]? = some fn) (hname : (fn.name == "runtime.NumGoroutine") = false) (hbd : fn.body.isSome = true) {K : Nat} (hC : Kd.C (Kd.int .u32) w A l.length l) (hc : l.length ≤ c) (hC' : Kd.C (Kd.int .u32) w A' m.length m) (hc' : m.length ≤ c') (hto : laws_toOutEnd.f K b0 l = some (b0, l)) (hti : laws_toInEnd.f K m = some m) {id : Nat} {ops' : Array Oper} (he : ops' = ops) (hpan : ∀ c (x : Act) d v W, Q (.panic c) (x.put d v) W → Q (.panic c) x W) (L : LB w u0 #[.int .i64 a0, .int .i64 a1, .int .i64 a2, .int .i64 a3] #[.int .i64 b0, .slice A l.length c] #[.slice A' m.length c'])
    (hQ : ∀ (X : World) (b8 b9 : Nat) (O1 : Option Addr) (o1 : Nat) (I1 : Option Addr) (i1 : Nat) (B1 : Option Addr) (d1 : Nat) (B2 : Option Addr) (d2 : Nat) (B3 : Option Addr) (d3 : Nat), L8 w u0 X b8 b9 r (.slice B1 V1.length d1) (.slice B2 V2.length d2) (.slice B3 V3.length d3) V1 V2 V3 → Q .normal ((two (((((((((((a.put (some (s + 1)) (.agg #[.int .i64 a0, .int .i64 a1, .int .i64 a2, .int .i64 a3])).put (some (s + 3)) (.agg #[.int .i64 b0, .slice A l.length c])).put (some (s + 5)) (.agg #[.slice A' m.length c'])).put (some (s + 2)) (.agg #[.int .i64 a0, .int .i64 a1, .int .i64 a2, .int .i64 a3])).put (some (s + 4)) (.agg #[.int .i64 b0, .slice O1 l.length o1])).put (some (s + 6)) (.agg #[.slice I1 m.length i1])).put (some (s + 7)) (.tuple #[.agg #[.int .i64 r, .slice B1 V1.length d1], .agg #[.slice B2 V2.length d2], .slice B3 V3.length d3])).put (some s) (.tuple #[.agg #[.int .i64 r, .slice B1 V1.length d1], .agg #[.slice B2 V2.length d2], .slice B3 V3.length d3])).put (some (s + 8)) (.agg #[.int .i64 r, .slice B1 V1.length d1])).put (some (s + 9)) (.agg #[.slice B2 V2.length d2])).put (some (s + 10)) (.slice B3 V3.length d3)) dA (dA + 1) (some b8) (some b9)).put (some (dA + 2)) (.slice B3 V3.length d3)) X) :
    (Code.region id ops' true).wp Try.prog Q a u0 := by
  subst he
  exact reg4 O hs hs2 hs3 z e3 e4 e5 hB hf hname hbd hC hc hC' hc' hto hti hpan L hQ
theorem ops8 : Ops4 (opsOf Try.f9 8) 32 8 37 :=
  ⟨by kernel_rfl, by kernel_rfl, ⟨_, rfl, rfl, fun _ => rfl, rfl⟩, ⟨_, rfl, rfl, fun _ => rfl, _, rfl⟩, ⟨_, rfl, rfl, fun _ => rfl, rfl⟩, ⟨_, rfl, rfl, fun _ => rfl, _, rfl⟩, ⟨_, rfl, rfl, fun _ => rfl, rfl⟩, ⟨_, rfl, rfl, fun _ => rfl, _, rfl⟩, ⟨_, rfl, rfl, fun _ => rfl, _, rfl⟩, ⟨_, rfl, rfl, fun _ => rfl, .inl rfl⟩, ⟨_, rfl, rfl, fun _ => rfl, rfl⟩, ⟨_, rfl, rfl, fun _ => rfl, rfl⟩, ⟨_, rfl, rfl, fun _ => rfl, rfl⟩, ⟨_, rfl, rfl, fun _ => rfl, fun ev w => by kernel_rfl⟩, ⟨_, rfl, rfl, fun _ => rfl, fun ev w => by kernel_rfl⟩, ⟨_, rfl, rfl, fun _ => rfl, rfl⟩, ⟨_, rfl, rfl, fun _ => rfl, rfl⟩, ⟨_, rfl, rfl, fun _ => rfl, .inr rfl⟩, by kernel_rfl, by kernel_rfl, by kernel_rfl, by kernel_rfl⟩
theorem ops39 : Ops4 (opsOf Try.f9 39) 135 19 38 :=
  ⟨by kernel_rfl, by kernel_rfl, ⟨_, rfl, rfl, fun _ => rfl, rfl⟩, ⟨_, rfl, rfl, fun _ => rfl, _, rfl⟩, ⟨_, rfl, rfl, fun _ => rfl, rfl⟩, ⟨_, rfl, rfl, fun _ => rfl, _, rfl⟩, ⟨_, rfl, rfl, fun _ => rfl, rfl⟩, ⟨_, rfl, rfl, fun _ => rfl, _, rfl⟩, ⟨_, rfl, rfl, fun _ => rfl, _, rfl⟩, ⟨_, rfl, rfl, fun _ => rfl, .inl rfl⟩, ⟨_, rfl, rfl, fun _ => rfl, rfl⟩, ⟨_, rfl, rfl, fun _ => rfl, rfl⟩, ⟨_, rfl, rfl, fun _ => rfl, rfl⟩, ⟨_, rfl, rfl, fun _ => rfl, fun ev w => by kernel_rfl⟩, ⟨_, rfl, rfl, fun _ => rfl, fun ev w => by kernel_rfl⟩, ⟨_, rfl, rfl, fun _ => rfl, rfl⟩, ⟨_, rfl, rfl, fun _ => rfl, rfl⟩, ⟨_, rfl, rfl, fun _ => rfl, .inr rfl⟩, by kernel_rfl, by kernel_rfl, by kernel_rfl, by kernel_rfl⟩
/-- Where the chain of two calls stands. -/
def G2 (a0 a1 a2 a3 b0 : Int) (O1 : Option Addr) (o1 : Nat) (l : List Int) (I1 : Option Addr) (i1 : Nat) (m : List Int) (r : Int) (V1 V2 V3 : List Int) (w u0 : World) (a : Act) : Nat → Act → World → Prop
  | 0, x, W => Below u0.heap.size u0 W ∧ (x = a)
  | 1, x, W => Below u0.heap.size u0 W ∧ (x = (a.put (some 48) (.agg #[.int .i64 a0, .int .i64 a1, .int .i64 a2, .int .i64 a3])))
  | 2, x, W => Below u0.heap.size u0 W ∧ (x = ((a.put (some 48) (.agg #[.int .i64 a0, .int .i64 a1, .int .i64 a2, .int .i64 a3])).put (some 50) (.agg #[.int .i64 b0, .slice O1 l.length o1])))
  | 3, x, W => Below u0.heap.size u0 W ∧ (x = (((a.put (some 48) (.agg #[.int .i64 a0, .int .i64 a1, .int .i64 a2, .int .i64 a3])).put (some 50) (.agg #[.int .i64 b0, .slice O1 l.length o1])).put (some 51) (.agg #[.slice I1 m.length i1])))
  | 4, x, W => Below u0.heap.size u0 W ∧ (x = ((((a.put (some 48) (.agg #[.int .i64 a0, .int .i64 a1, .int .i64 a2, .int .i64 a3])).put (some 50) (.agg #[.int .i64 b0, .slice O1 l.length o1])).put (some 51) (.agg #[.slice I1 m.length i1])).put (some 49) (.agg #[.int .i64 a0, .int .i64 a1, .int .i64 a2, .int .i64 a3])))
  | 5, x, W => Below u0.heap.size u0 W ∧ (∃ (B1 : Option Addr) (d1 : Nat) (B2 : Option Addr) (d2 : Nat) (B3 : Option Addr) (d3 : Nat), x = (((((a.put (some 48) (.agg #[.int .i64 a0, .int .i64 a1, .int .i64 a2, .int .i64 a3])).put (some 50) (.agg #[.int .i64 b0, .slice O1 l.length o1])).put (some 51) (.agg #[.slice I1 m.length i1])).put (some 49) (.agg #[.int .i64 a0, .int .i64 a1, .int .i64 a2, .int .i64 a3])).put (some 52) (.tuple #[.agg #[.int .i64 r, .slice B1 V1.length d1], .agg #[.slice B2 V2.length d2], .slice B3 V3.length d3])) ∧ Tri w W u0.heap.size W.heap.size (.slice B1 V1.length d1) (.slice B2 V2.length d2) (.slice B3 V3.length d3) V1 V2 V3)
  | 6, x, W => Below u0.heap.size u0 W ∧ (∃ (B1 : Option Addr) (d1 : Nat) (B2 : Option Addr) (d2 : Nat) (B3 : Option Addr) (d3 : Nat), x = ((((((a.put (some 48) (.agg #[.int .i64 a0, .int .i64 a1, .int .i64 a2, .int .i64 a3])).put (some 50) (.agg #[.int .i64 b0, .slice O1 l.length o1])).put (some 51) (.agg #[.slice I1 m.length i1])).put (some 49) (.agg #[.int .i64 a0, .int .i64 a1, .int .i64 a2, .int .i64 a3])).put (some 52) (.tuple #[.agg #[.int .i64 r, .slice B1 V1.length d1], .agg #[.slice B2 V2.length d2], .slice B3 V3.length d3])).put (some 47) (.tuple #[.agg #[.int .i64 r, .slice B1 V1.length d1], .agg #[.slice B2 V2.length d2], .slice B3 V3.length d3])) ∧ Tri w W u0.heap.size W.heap.size (.slice B1 V1.length d1) (.slice B2 V2.length d2) (.slice B3 V3.length d3) V1 V2 V3)
  | 7, x, W => Below u0.heap.size u0 W ∧ (∃ (B1 : Option Addr) (d1 : Nat) (B2 : Option Addr) (d2 : Nat) (B3 : Option Addr) (d3 : Nat), x = (((((((a.put (some 48) (.agg #[.int .i64 a0, .int .i64 a1, .int .i64 a2, .int .i64 a3])).put (some 50) (.agg #[.int .i64 b0, .slice O1 l.length o1])).put (some 51) (.agg #[.slice I1 m.length i1])).put (some 49) (.agg #[.int .i64 a0, .int .i64 a1, .int .i64 a2, .int .i64 a3])).put (some 52) (.tuple #[.agg #[.int .i64 r, .slice B1 V1.length d1], .agg #[.slice B2 V2.length d2], .slice B3 V3.length d3])).put (some 47) (.tuple #[.agg #[.int .i64 r, .slice B1 V1.length d1], .agg #[.slice B2 V2.length d2], .slice B3 V3.length d3])).put (some 53) (.agg #[.int .i64 r, .slice B1 V1.length d1])) ∧ Tri w W u0.heap.size W.heap.size (.slice B1 V1.length d1) (.slice B2 V2.length d2) (.slice B3 V3.length d3) V1 V2 V3)
  | 8, x, W => Below u0.heap.size u0 W ∧ (∃ (B1 : Option Addr) (d1 : Nat) (B2 : Option Addr) (d2 : Nat) (B3 : Option Addr) (d3 : Nat), x = ((((((((a.put (some 48) (.agg #[.int .i64 a0, .int .i64 a1, .int .i64 a2, .int .i64 a3])).put (some 50) (.agg #[.int .i64 b0, .slice O1 l.length o1])).put (some 51) (.agg #[.slice I1 m.length i1])).put (some 49) (.agg #[.int .i64 a0, .int .i64 a1, .int .i64 a2, .int .i64 a3])).put (some 52) (.tuple #[.agg #[.int .i64 r, .slice B1 V1.length d1], .agg #[.slice B2 V2.length d2], .slice B3 V3.length d3])).put (some 47) (.tuple #[.agg #[.int .i64 r, .slice B1 V1.length d1], .agg #[.slice B2 V2.length d2], .slice B3 V3.length d3])).put (some 53) (.agg #[.int .i64 r, .slice B1 V1.length d1])).put (some 54) (.agg #[.slice B2 V2.length d2])) ∧ Tri w W u0.heap.size W.heap.size (.slice B1 V1.length d1) (.slice B2 V2.length d2) (.slice B3 V3.length d3) V1 V2 V3)
  | _ + 9, x, W => Below u0.heap.size u0 W ∧ (∃ (B1 : Option Addr) (d1 : Nat) (B2 : Option Addr) (d2 : Nat) (B3 : Option Addr) (d3 : Nat), x = (((((((((a.put (some 48) (.agg #[.int .i64 a0, .int .i64 a1, .int .i64 a2, .int .i64 a3])).put (some 50) (.agg #[.int .i64 b0, .slice O1 l.length o1])).put (some 51) (.agg #[.slice I1 m.length i1])).put (some 49) (.agg #[.int .i64 a0, .int .i64 a1, .int .i64 a2, .int .i64 a3])).put (some 52) (.tuple #[.agg #[.int .i64 r, .slice B1 V1.length d1], .agg #[.slice B2 V2.length d2], .slice B3 V3.length d3])).put (some 47) (.tuple #[.agg #[.int .i64 r, .slice B1 V1.length d1], .agg #[.slice B2 V2.length d2], .slice B3 V3.length d3])).put (some 53) (.agg #[.int .i64 r, .slice B1 V1.length d1])).put (some 54) (.agg #[.slice B2 V2.length d2])).put (some 55) (.slice B3 V3.length d3)) ∧ Tri w W u0.heap.size W.heap.size (.slice B1 V1.length d1) (.slice B2 V2.length d2) (.slice B3 V3.length d3) V1 V2 V3)
structure Ops2 (ops : Array Oper) : Prop where
  sz : ops.size = 14
  tb : chainOk ops 14 [0, 2, 3, 1, 4, 5, 6, 7, 8] 3 5 9 10 = true
  o0 : At ops 0 (some 48) (IsLoad 23 3)
  o1 : At ops 1 (some 49) (IsCall 16 [48])
  o2 : At ops 2 (some 50) (IsLoad 39 11)
  o3 : At ops 3 (some 51) (IsLoad 31 12)
  o4 : At ops 4 (some 52) (IsCall 38 [49, 50, 51])
  o5 : At ops 5 (some 47) (IsMove 52)
  o6 : At ops 6 (some 53) (IsPart 47 0)
  o7 : At ops 7 (some 54) (IsPart 47 1)
  o8 : At ops 8 (some 55) (IsPart 47 2)
  o9 : AtNew ops 9 13 Z39
  o10 : AtNew ops 10 14 Z31
  o11 : At ops 11 none (IsStore 39 13 53)
  o12 : At ops 12 none (IsStore 31 14 54)
  o13 : At ops 13 (some 15) (IsMove 55)
  t1 : Region.ready .any ops (lst 14 [0, 2, 3, 1, 4, 5, 6, 7, 8] 9 10 9 true true) = [11]
  t2 : Region.ready .any ops ((lst 14 [0, 2, 3, 1, 4, 5, 6, 7, 8] 9 10 9 true true).setIfInBounds 11 true) = [12]
  t3 : Region.ready .any ops (((lst 14 [0, 2, 3, 1, 4, 5, 6, 7, 8] 9 10 9 true true).setIfInBounds 11 true).setIfInBounds 12 true) = [13]
  t4 : Region.ready .any ops ((((lst 14 [0, 2, 3, 1, 4, 5, 6, 7, 8] 9 10 9 true true).setIfInBounds 11 true).setIfInBounds 12 true).setIfInBounds 13 true) = []
def d2_ (j : Nat) : Tmp := ([48, 50, 51, 49, 52, 47, 53, 54, 55] : List Nat).getD j 0
theorem G2.ls {a0 a1 a2 a3 b0 : Int} {O1 : Option Addr} {o1 : Nat} {l : List Int} {I1 : Option Addr} {i1 : Nat} {m : List Int} {r : Int} {V1 V2 V3 : List Int} {w u0 : World} {a : Act} {j : Nat} {x : Act} {W : World} (h : G2 a0 a1 a2 a3 b0 O1 o1 l I1 i1 m r V1 V2 V3 w u0 a j x W) : Below u0.heap.size u0 W := by
  rcases j with _ | _ | _ | _ | _ | _ | _ | _ | _ | j <;> exact h.1
theorem G2.al {a0 a1 a2 a3 b0 : Int} {O1 : Option Addr} {o1 : Nat} {l : List Int} {I1 : Option Addr} {i1 : Nat} {m : List Int} {r : Int} {V1 V2 V3 : List Int} {w u0 : World} {a : Act} {j : Nat} {x : Act} {W : World} (o : Obj) (h : G2 a0 a1 a2 a3 b0 O1 o1 l I1 i1 m r V1 V2 V3 w u0 a j x W) : G2 a0 a1 a2 a3 b0 O1 o1 l I1 i1 m r V1 V2 V3 w u0 a j x (W.alloc o) := by
  rcases j with _ | _ | _ | _ | _ | _ | _ | _ | _ | j
  · exact ⟨lq h.1, h.2⟩
  · exact ⟨lq h.1, h.2⟩
  · exact ⟨lq h.1, h.2⟩
  · exact ⟨lq h.1, h.2⟩
  · exact ⟨lq h.1, h.2⟩
  · obtain ⟨hl, B1, d1, B2, d2, B3, d3, hx, ht⟩ := h
    exact ⟨lq hl, B1, d1, B2, d2, B3, d3, hx, (trq ht).wide (Nat.le_refl _) (by simp)⟩
  · obtain ⟨hl, B1, d1, B2, d2, B3, d3, hx, ht⟩ := h
    exact ⟨lq hl, B1, d1, B2, d2, B3, d3, hx, (trq ht).wide (Nat.le_refl _) (by simp)⟩
  · obtain ⟨hl, B1, d1, B2, d2, B3, d3, hx, ht⟩ := h
    exact ⟨lq hl, B1, d1, B2, d2, B3, d3, hx, (trq ht).wide (Nat.le_refl _) (by simp)⟩
  · obtain ⟨hl, B1, d1, B2, d2, B3, d3, hx, ht⟩ := h
    exact ⟨lq hl, B1, d1, B2, d2, B3, d3, hx, (trq ht).wide (Nat.le_refl _) (by simp)⟩
  · obtain ⟨hl, B1, d1, B2, d2, B3, d3, hx, ht⟩ := h
    exact ⟨lq hl, B1, d1, B2, d2, B3, d3, hx, (trq ht).wide (Nat.le_refl _) (by simp)⟩
theorem G2.take {ops : Array Oper} {Q : Exit → Act → World → Prop} {a0 a1 a2 a3 b0 : Int} {O1 : Option Addr} {o1 : Nat} {l : List Int} {I1 : Option Addr} {i1 : Nat} {m : List Int} {r : Int} {V1 V2 V3 : List Int} {w u0 : World} {a : Act} (O : Ops2 ops) (z : a.tmps.size = 180) (e3 : a.eval (.tmp 3) = .pointer (some ⟨w.heap.size, 0, none⟩)) {C1 C2 : Array Value} {b8 b9 bX bY n1 n2 n3 : Nat} {v1 v2 v3 : Value} (e11 : a.eval (.tmp 11) = .pointer (some ⟨bX, 0, none⟩)) (e12 : a.eval (.tmp 12) = .pointer (some ⟨bY, 0, none⟩)) (LY : LX w u0 #[.int .i64 a0, .int .i64 a1, .int .i64 a2, .int .i64 a3] C1 C2 b8 b9 bX bY n1 n2 n3 r b0 v1 v2 v3 (.slice O1 l.length o1) (.slice I1 m.length i1) V1 V2 V3 l m) {j : Nat} {x b : Act} {W : World} (ht : tkAt 3 5 j = true) (hj : j < 9) (hg : G2 a0 a1 a2 a3 b0 O1 o1 l I1 i1 m r V1 V2 V3 w u0 a j x W) (hlk : Like 13 14 x b) :
    ∃ i o v, ([0, 2, 3, 1, 4, 5, 6, 7, 8] : List Nat)[j]? = some i ∧ ops[i]? = some o ∧ o.dst = some (d2_ j) ∧ YieldsIf Try.prog ops (fun W => Below u0.heap.size u0 W) o v b ∧ G2 a0 a1 a2 a3 b0 O1 o1 l I1 i1 m r V1 V2 V3 w u0 a (j + 1) (x.put (some (d2_ j)) v) W := by
  have hlk' : ∀ t : Nat, (t < 13 ∨ 14 < t) → b.eval (.tmp t) = x.eval (.tmp t) := fun t h => hlk t (fun e => absurd (show (t : Nat) = 13 from e) (by omega)) (fun e => absurd (show (t : Nat) = 14 from e) (by omega))
  rcases j with _ | _ | _ | _ | _ | _ | _ | _ | _ | j
  · obtain ⟨hl, hx⟩ := hg
    obtain ⟨o, h1, h2, h3, h4⟩ := O.o0
    exact ⟨0, o, .agg #[.int .i64 a0, .int .i64 a1, .int .i64 a2, .int .i64 a3], rfl, h1, h2, .inl ⟨h3 _, fun W hW => run_load h4 (by rw [hlk' 3 (by omega), hx]; (try simp [ev_put, sz_put, z]); exact e3) (LY.below hW).l.k0 Try.underlying23 rfl (by kernel_rfl)⟩, hl, by rw [hx]; rfl⟩
  · obtain ⟨hl, hx⟩ := hg
    obtain ⟨o, h1, h2, h3, h4⟩ := O.o2
    exact ⟨2, o, .agg #[.int .i64 b0, .slice O1 l.length o1], rfl, h1, h2, .inl ⟨h3 _, fun W hW => run_load h4 (by rw [hlk' 11 (by omega), hx]; (try simp [ev_put, sz_put, z]); exact e11) (LY.below hW).px.p Try.underlying39 rfl (by kernel_rfl)⟩, hl, by rw [hx]; rfl⟩
  · obtain ⟨hl, hx⟩ := hg
    obtain ⟨o, h1, h2, h3, h4⟩ := O.o3
    exact ⟨3, o, .agg #[.slice I1 m.length i1], rfl, h1, h2, .inl ⟨h3 _, fun W hW => run_load h4 (by rw [hlk' 12 (by omega), hx]; (try simp [ev_put, sz_put, z]); exact e12) (LY.below hW).px.q Try.underlying31 rfl (by kernel_rfl)⟩, hl, by rw [hx]; rfl⟩
  · exact absurd ht (by decide)
  · exact absurd ht (by decide)
  · obtain ⟨hl, B1, d1, B2, d2, B3, d3, hx, ht⟩ := hg
    obtain ⟨o, h1, h2, h3, h4⟩ := O.o5
    exact ⟨5, o, .tuple #[.agg #[.int .i64 r, .slice B1 V1.length d1], .agg #[.slice B2 V2.length d2], .slice B3 V3.length d3], rfl, h1, h2, .inl ⟨h3 _, fun W hW => (run_move h4 W).trans (congrArg (fun v => Result.ok (Next.value v) W) (by rw [hlk' 52 (by omega), hx]; simp [ev_put, sz_put, z]))⟩, hl, B1, d1, B2, d2, B3, d3, by rw [hx]; rfl, ht⟩
  · obtain ⟨hl, B1, d1, B2, d2, B3, d3, hx, ht⟩ := hg
    obtain ⟨o, h1, h2, h3, h4⟩ := O.o6
    exact ⟨6, o, .agg #[.int .i64 r, .slice B1 V1.length d1], rfl, h1, h2, .inl ⟨h3 _, fun W hW => run_part h4 (vs := #[.agg #[.int .i64 r, .slice B1 V1.length d1], .agg #[.slice B2 V2.length d2], .slice B3 V3.length d3]) (by rw [hlk' 47 (by omega), hx]; simp [ev_put, sz_put, z]) rfl W⟩, hl, B1, d1, B2, d2, B3, d3, by rw [hx]; rfl, ht⟩
  · obtain ⟨hl, B1, d1, B2, d2, B3, d3, hx, ht⟩ := hg
    obtain ⟨o, h1, h2, h3, h4⟩ := O.o7
    exact ⟨7, o, .agg #[.slice B2 V2.length d2], rfl, h1, h2, .inl ⟨h3 _, fun W hW => run_part h4 (vs := #[.agg #[.int .i64 r, .slice B1 V1.length d1], .agg #[.slice B2 V2.length d2], .slice B3 V3.length d3]) (by rw [hlk' 47 (by omega), hx]; simp [ev_put, sz_put, z]) rfl W⟩, hl, B1, d1, B2, d2, B3, d3, by rw [hx]; rfl, ht⟩
  · obtain ⟨hl, B1, d1, B2, d2, B3, d3, hx, ht⟩ := hg
    obtain ⟨o, h1, h2, h3, h4⟩ := O.o8
    exact ⟨8, o, .slice B3 V3.length d3, rfl, h1, h2, .inl ⟨h3 _, fun W hW => run_part h4 (vs := #[.agg #[.int .i64 r, .slice B1 V1.length d1], .agg #[.slice B2 V2.length d2], .slice B3 V3.length d3]) (by rw [hlk' 47 (by omega), hx]; simp [ev_put, sz_put, z]) rfl W⟩, hl, B1, d1, B2, d2, B3, d3, by rw [hx]; rfl, ht⟩
  · omega

theorem G2.step {ops : Array Oper} {Q : Exit → Act → World → Prop} {a0 a1 a2 a3 b0 : Int} {O1 : Option Addr} {o1 : Nat} {l : List Int} {I1 : Option Addr} {i1 : Nat} {m : List Int} {r : Int} {V1 V2 V3 : List Int} {w u0 : World} {a : Act} (O : Ops2 ops) (z : a.tmps.size = 180) (e3 : a.eval (.tmp 3) = .pointer (some ⟨w.heap.size, 0, none⟩)) {C1 C2 : Array Value} {b8 b9 bX bY n1 n2 n3 : Nat} {v1 v2 v3 : Value} (e11 : a.eval (.tmp 11) = .pointer (some ⟨bX, 0, none⟩)) (e12 : a.eval (.tmp 12) = .pointer (some ⟨bY, 0, none⟩)) (LY : LX w u0 #[.int .i64 a0, .int .i64 a1, .int .i64 a2, .int .i64 a3] C1 C2 b8 b9 bX bY n1 n2 n3 r b0 v1 v2 v3 (.slice O1 l.length o1) (.slice I1 m.length i1) V1 V2 V3 l m) (him : impl_Border.f a0 a1 a2 a3 b0 l m = some (r, V1, V2, V3)) {j : Nat} {x b : Act} {W : World} (ht : tkAt 3 5 j = false) (hj : j < 9) (hg : G2 a0 a1 a2 a3 b0 O1 o1 l I1 i1 m r V1 V2 V3 w u0 a j x W) (hlk : Like 13 14 x b) :
    ∃ i, ([0, 2, 3, 1, 4, 5, 6, 7, 8] : List Nat)[j]? = some i ∧ ∀ K : Act → World → Prop, (∀ v w', G2 a0 a1 a2 a3 b0 O1 o1 l I1 i1 m r V1 V2 V3 w u0 a (j + 1) (x.put (some (d2_ j)) v) w' → Below W.heap.size W w' → K (b.put (some (d2_ j)) v) w') → wpOp Try.prog ops Q i K b W := by
  have hlk' : ∀ t : Nat, (t < 13 ∨ 14 < t) → b.eval (.tmp t) = x.eval (.tmp t) := fun t h => hlk t (fun e => absurd (show (t : Nat) = 13 from e) (by omega)) (fun e => absurd (show (t : Nat) = 14 from e) (by omega))
  rcases j with _ | _ | _ | _ | _ | _ | _ | _ | _ | j
  · exact absurd ht (by decide)
  · exact absurd ht (by decide)
  · exact absurd ht (by decide)
  · obtain ⟨hl, hx⟩ := hg
    obtain ⟨o, h1, h2, h3, h4⟩ := O.o1
    refine ⟨1, rfl, fun K hK => wpOp_call h1 (h3 _) (run_call h4 (fn := Try.f16) Try.func16 rfl rfl #[.agg #[.int .i64 a0, .int .i64 a1, .int .i64 a2, .int .i64 a3]] (by simp only [List.map_cons, List.map_nil]; rw [hlk' 48 (by omega), hx]; simp [ev_put, sz_put, z]) W) ?_⟩
    refine (laws_toChanRow.calls a0 a1 a2 a3 a0 a1 a2 a3 W rfl).mono ?_
    rintro e w' ⟨rfl, hb⟩
    refine ⟨_, rfl, ?_⟩
    rw [h2]
    exact hK _ _ ⟨below_step hl hb, by rw [hx]; rfl⟩ hb
  · obtain ⟨hl, hx⟩ := hg
    obtain ⟨o, h1, h2, h3, h4⟩ := O.o4
    refine ⟨4, rfl, fun K hK => wpOp_call h1 (h3 _) (run_call h4 (fn := Try.f38) Try.func38 rfl rfl #[.agg #[.int .i64 a0, .int .i64 a1, .int .i64 a2, .int .i64 a3], .agg #[.int .i64 b0, .slice O1 l.length o1], .agg #[.slice I1 m.length i1]] (by simp only [List.map_cons, List.map_nil]; rw [hlk' 49 (by omega), hlk' 50 (by omega), hlk' 51 (by omega), hx]; simp [ev_put, sz_put, z]) W) ?_⟩
    refine (implB_calls a0 a1 a2 a3 b0 r V1 V2 V3 (LY.below hl).l.be (LY.below hl).x (LY.below hl).y him).mono ?_
    rintro e w' ⟨B1, d1, B2, d2, B3, d3, rfl, ht, hb⟩
    refine ⟨_, rfl, ?_⟩
    rw [h2]
    exact hK _ _ ⟨below_step hl hb, B1, d1, B2, d2, B3, d3, by rw [hx]; rfl, ht.wide hl.size (Nat.le_refl _)⟩ hb
  · exact absurd ht (by decide)
  · exact absurd ht (by decide)
  · exact absurd ht (by decide)
  · exact absurd ht (by decide)
  · omega

set_option maxHeartbeats 4000000 in
theorem reg2 {ops : Array Oper} {Q : Exit → Act → World → Prop} {a0 a1 a2 a3 b0 : Int} {O1 : Option Addr} {o1 : Nat} {l : List Int} {I1 : Option Addr} {i1 : Nat} {m : List Int} {r : Int} {V1 V2 V3 : List Int} {w u0 : World} {a : Act} (O : Ops2 ops) (z : a.tmps.size = 180) (e3 : a.eval (.tmp 3) = .pointer (some ⟨w.heap.size, 0, none⟩)) {C1 C2 : Array Value} {b8 b9 bX bY n1 n2 n3 : Nat} {v1 v2 v3 : Value} (e11 : a.eval (.tmp 11) = .pointer (some ⟨bX, 0, none⟩)) (e12 : a.eval (.tmp 12) = .pointer (some ⟨bY, 0, none⟩)) (LY : LX w u0 #[.int .i64 a0, .int .i64 a1, .int .i64 a2, .int .i64 a3] C1 C2 b8 b9 bX bY n1 n2 n3 r b0 v1 v2 v3 (.slice O1 l.length o1) (.slice I1 m.length i1) V1 V2 V3 l m) (him : impl_Border.f a0 a1 a2 a3 b0 l m = some (r, V1, V2, V3)) {id : Nat} {ops' : Array Oper} (he : ops' = ops) (hpan : ∀ c (x : Act) d v W, Q (.panic c) (x.put d v) W → Q (.panic c) x W)
    (hQ : ∀ (X : World) (bG bH : Nat) (B1 : Option Addr) (d1 : Nat) (B2 : Option Addr) (d2 : Nat) (B3 : Option Addr) (d3 : Nat), L8 w u0 X bG bH r (.slice B1 V1.length d1) (.slice B2 V2.length d2) (.slice B3 V3.length d3) V1 V2 V3 → Q .normal ((two (((((((((a.put (some 48) (.agg #[.int .i64 a0, .int .i64 a1, .int .i64 a2, .int .i64 a3])).put (some 50) (.agg #[.int .i64 b0, .slice O1 l.length o1])).put (some 51) (.agg #[.slice I1 m.length i1])).put (some 49) (.agg #[.int .i64 a0, .int .i64 a1, .int .i64 a2, .int .i64 a3])).put (some 52) (.tuple #[.agg #[.int .i64 r, .slice B1 V1.length d1], .agg #[.slice B2 V2.length d2], .slice B3 V3.length d3])).put (some 47) (.tuple #[.agg #[.int .i64 r, .slice B1 V1.length d1], .agg #[.slice B2 V2.length d2], .slice B3 V3.length d3])).put (some 53) (.agg #[.int .i64 r, .slice B1 V1.length d1])).put (some 54) (.agg #[.slice B2 V2.length d2])).put (some 55) (.slice B3 V3.length d3)) 13 14 (some bG) (some bH)).put (some 15) (.slice B3 V3.length d3)) X) :
    (Code.region id ops' true).wp Try.prog Q a u0 := by
  subst he
  have H : Chain Try.prog ops' Q (fun W => Below u0.heap.size u0 W) u0 14 [0, 2, 3, 1, 4, 5, 6, 7, 8] 3 5 9 10 d2_ 13 14 Z39 Z31 (G2 a0 a1 a2 a3 b0 O1 o1 l I1 i1 m r V1 V2 V3 w u0 a) :=
    { ok := O.tb
      pan := hpan
      sat := fun h => h.ls
      big := fun h => h.ls.size
      al := fun o h => G2.al o h
      da := fun j hj => by
        have hj' : j < 9 := hj
        rcases j with _ | _ | _ | _ | _ | _ | _ | _ | _ | j <;> first | exact ⟨by decide, by decide⟩ | omega
      ab := by decide
      opA := O.o9
      opB := O.o10
      take := fun ht hj hg hlk => G2.take (Q := Q) O z e3 e11 e12 LY ht hj hg hlk
      step := fun ht hj hg hlk => G2.step O z e3 e11 e12 LY him ht hj hg hlk
      tail := by
        intro x W p q hg hp hp0 hq hq0
        obtain ⟨hl, B1, d1, B2, d2, B3, d3, hx, ht⟩ := hg
        have npq : p ≠ q := blk_ne hp hq (by decide)
        have f1 : Fr (fun k => k = p ∨ k = q) W (W.setRow p #[.int .i64 r, .slice B1 V1.length d1]) := fr_row (Fr.refl _ W) (.inl rfl) _
        have f2 : Fr (fun k => k = p ∨ k = q) W ((W.setRow p #[.int .i64 r, .slice B1 V1.length d1]).setRow q #[.slice B2 V2.length d2]) := fr_row f1 (.inr rfl) _
        have g1 : (W.setRow p #[.int .i64 r, .slice B1 V1.length d1]).heap[p]? = some (.cells #[.int .i64 r, .slice B1 V1.length d1] 39 (0, 0)) := setRow_heap W p _ _ 39 (0, 0) hp
        have g2 : (W.setRow p #[.int .i64 r, .slice B1 V1.length d1]).heap[q]? = some Z31 := (setRow_other W p q _ (Ne.symm npq)).trans hq
        have g3 : ((W.setRow p #[.int .i64 r, .slice B1 V1.length d1]).setRow q #[.slice B2 V2.length d2]).heap[p]? = some (.cells #[.int .i64 r, .slice B1 V1.length d1] 39 (0, 0)) := (setRow_other _ q p _ npq).trans g1
        have g4 : ((W.setRow p #[.int .i64 r, .slice B1 V1.length d1]).setRow q #[.slice B2 V2.length d2]).heap[q]? = some (.cells #[.slice B2 V2.length d2] 31 (0, 0)) := setRow_heap _ q _ _ 31 (0, 0) g2
        have l1 : Below u0.heap.size u0 (W.setRow p #[.int .i64 r, .slice B1 V1.length d1]) := hl.trans (f1.below (fun i hi => hi.elim (fun e => e ▸ hp0) (fun e => e ▸ hq0)) hl.size)
        have l2 : Below u0.heap.size u0 ((W.setRow p #[.int .i64 r, .slice B1 V1.length d1]).setRow q #[.slice B2 V2.length d2]) := hl.trans (f2.below (fun i hi => hi.elim (fun e => e ▸ hp0) (fun e => e ▸ hq0)) hl.size)
        have ep : (two x 13 14 (some p) (some q)).eval (.tmp 13) = .pointer (some ⟨p, 0, none⟩) := by rw [hx]; simp [two, putO, ev_put, sz_put, z]
        have eq_ : (two x 13 14 (some p) (some q)).eval (.tmp 14) = .pointer (some ⟨q, 0, none⟩) := by rw [hx]; simp [two, putO, ev_put, sz_put, z]
        have hlk := like_two x 13 14 (some p) (some q)
        have hlk' : ∀ t : Nat, (t < 13 ∨ 14 < t) → (two x 13 14 (some p) (some q)).eval (.tmp t) = x.eval (.tmp t) := fun t h => hlk t (fun e => absurd (show (t : Nat) = 13 from e) (by omega)) (fun e => absurd (show (t : Nat) = 14 from e) (by omega))
        refine wpAnyH_all O.t1 (by simp) (fun i hi => ?_)
        obtain rfl := List.mem_singleton.1 hi
        obtain ⟨o, h1, h2, h3, h4⟩ := O.o11
        refine store_own h1 h3 h4 h2 ep (cells := #[.int .i64 r, .slice B1 V1.length d1]) (by rw [hlk' 53 (by omega), hx]; simp [ev_put, sz_put, z]) hp (by kernel_rfl) rfl (by simp [Value.oneCell']) ⟨l1, ?_⟩
        refine wpAnyH_all O.t2 (by simp) (fun i hi => ?_)
        obtain rfl := List.mem_singleton.1 hi
        obtain ⟨o, h1, h2, h3, h4⟩ := O.o12
        refine store_own h1 h3 h4 h2 eq_ (cells := #[.slice B2 V2.length d2]) (by rw [hlk' 54 (by omega), hx]; simp [ev_put, sz_put, z]) g2 (by kernel_rfl) rfl (by simp [Value.oneCell']) ⟨l2, ?_⟩
        refine wpAnyH_all O.t3 (by simp) (fun i hi => ?_)
        obtain rfl := List.mem_singleton.1 hi
        obtain ⟨o, h1, h2, h3, h4⟩ := O.o13
        refine wpOp_value (v := .slice B3 V3.length d3) h1 (h3 _) ((run_move h4 _).trans (congrArg (fun v => Result.ok (Next.value v) _) (by rw [hlk' 55 (by omega), hx]; simp [ev_put, sz_put, z]))) ⟨l2, ?_⟩
        refine wpAnyH_done O.t4 ?_ _
        rw [h2, hx]
        exact hQ _ p q B1 d1 B2 d2 B3 d3 (L8.mk_ hl ht f2 g3 g4 (.inr ⟨_, hp⟩) (.inr ⟨_, hq⟩) hp0 hq0) }
  exact H.region (by kernel_rfl) O.sz rfl rfl ⟨below_drew1 (Below.refl _ _), rfl⟩

theorem ops11 : Ops2 (opsOf Try.f9 11) :=
  ⟨by kernel_rfl, by kernel_rfl, ⟨_, rfl, rfl, fun _ => rfl, rfl⟩, ⟨_, rfl, rfl, fun _ => rfl, _, rfl⟩, ⟨_, rfl, rfl, fun _ => rfl, rfl⟩, ⟨_, rfl, rfl, fun _ => rfl, rfl⟩, ⟨_, rfl, rfl, fun _ => rfl, _, rfl⟩, ⟨_, rfl, rfl, fun _ => rfl, .inl rfl⟩, ⟨_, rfl, rfl, fun _ => rfl, rfl⟩, ⟨_, rfl, rfl, fun _ => rfl, rfl⟩, ⟨_, rfl, rfl, fun _ => rfl, rfl⟩, ⟨_, rfl, rfl, fun _ => rfl, fun ev w => by kernel_rfl⟩, ⟨_, rfl, rfl, fun _ => rfl, fun ev w => by kernel_rfl⟩, ⟨_, rfl, rfl, fun _ => rfl, rfl⟩, ⟨_, rfl, rfl, fun _ => rfl, rfl⟩, ⟨_, rfl, rfl, fun _ => rfl, .inr rfl⟩, by kernel_rfl, by kernel_rfl, by kernel_rfl, by kernel_rfl⟩
end Go.Proofs.Ytioifcanipijhaa.GC
