/- Rows of ways as cells; copy of elements of several cells; append of zeros where there is no room. -/
import Derived.Test.YtglehilfemfiiaaGUx0
import Derived.Test.YtglehilfemfiiaaHnd
import Derived.Laws.CopyOwn
import Derived.Deep.RegionLaw
import Derived.Lib.SliceRun
namespace Go.Proofs.Ytglehilfemfiiaa.GU
open Go.RowKit Go.Proofs.YtglehilfemfiiaaW.PrintWords Go.Proofs.YtglehilfemfiiaaW.PrintLast Go.Proofs.YtglehilfemfiiaaW.PrintMore Go.Proofs.Ytglehilfemfiiaa.Q Go.Proofs.Ytglehilfemfiiaa.Hnd
set_option linter.unusedVariables false
set_option linter.unusedSimpArgs false
/-- The cells of ways. -/
def cellsW : List S118 → List Value
  | [] => []
  | x :: xs => .int .i64 x.f0 :: .bool x.f1 :: cellsW xs
theorem cellsW_len : ∀ xs : List S118, (cellsW xs).length = xs.length * 2
  | [] => rfl
  | x :: xs => by simp only [cellsW, List.length_cons, cellsW_len xs]; omega
theorem cellsW_one : ∀ (xs : List S118), ∀ u ∈ cellsW xs, u.oneCell' = true
  | [], u, h => by cases h
  | x :: xs, u, h => by
    simp only [cellsW, List.mem_cons] at h
    rcases h with rfl | rfl | h
    · rfl
    · rfl
    · exact cellsW_one xs u h
theorem reps_cells : ∀ (xs : List S118) (inner : List Value), Reps (fun (x : S118) c => c = [.int .i64 x.f0, .bool x.f1]) 2 xs inner → inner = cellsW xs
  | [], inner, h => List.eq_nil_of_length_eq_zero (by simpa using h.1)
  | x :: xs, inner, h => by
    obtain ⟨h1, h2⟩ := h
    match inner, h1, h2 with
    | [], h1, _ => simp at h1
    | [_], h1, _ => simp at h1; omega
    | a :: b :: rest, h1, h2 =>
      have h0 := h2 0 x rfl
      simp at h0
      obtain ⟨rfl, rfl⟩ := h0
      have hr := reps_cells xs rest ⟨by simp at h1; omega, fun i p hp => by
        have := h2 (i + 1) p (by simpa using hp)
        rw [show (i + 1) * 2 = i * 2 + 2 by omega] at this
        simpa using this⟩
      rw [hr, cellsW]
theorem cells_reps : ∀ (xs : List S118), Reps (fun (x : S118) c => c = [.int .i64 x.f0, .bool x.f1]) 2 xs (cellsW xs)
  | [] => ⟨rfl, fun i p hp => by simp at hp⟩
  | x :: xs => ⟨by rw [cellsW_len], fun i p hp => by
      cases i with
      | zero => simp at hp; subst hp; simp [cellsW]
      | succ i =>
        have := (cells_reps xs).2 i p (by simpa using hp)
        rw [show (i + 1) * 2 = i * 2 + 2 by omega]
        simpa [cellsW] using this⟩
variable {W : World} {base g n c : Nat} {ok : Nat → Prop} {xs : List S118}
theorem R_cells (h : Kd.R k118 118 W base ok (.slice (some ⟨g, 0, none⟩) n c) xs) :
    n = xs.length ∧ base ≤ g ∧ n ≤ c ∧ c ≤ maxLen ∧ ok g ∧ ∃ spare : List Value, W.heap[g]? = some (.cells (cellsW xs ++ spare).toArray 118 (0, 0)) ∧ (cellsW xs ++ spare).length = c * 2 := by
  obtain ⟨h0, inner, ⟨hil, hw⟩, hr⟩ := h
  rcases hw with ⟨e, _⟩ | ⟨g', cap', cur, e, hb, hh, hc, hm, hs, ht⟩
  · cases e
  · injection e with e1 e2 e3
    injection e1 with e1
    injection e1 with e1
    subst e1; subst e3
    have hi : inner = cellsW xs := reps_cells xs inner (hr.imp_ (fun x cs hM => k118_openM hM))
    refine ⟨e2, hb, e2 ▸ hc, hm, h0 _ (by simp [Value.ownBlock]), cur.toList.drop (n * 2), ?_, ?_⟩
    · rw [← hi, ← ht, ← e2]
      have : (cur.toList.take (n * k118.sz) ++ cur.toList.drop (n * 2)).toArray = cur := by
        rw [show n * k118.sz = n * 2 from rfl, List.take_append_drop]
      rw [this]
      exact hh
    · rw [← hi, ← ht, ← e2, show n * k118.sz = n * 2 from rfl, List.take_append_drop, Array.length_toList, hs]
      rfl
theorem R_of_cells {spare : List Value} (hb : base ≤ g) (hok : ok g) (hh : W.heap[g]? = some (.cells (cellsW xs ++ spare).toArray 118 (0, 0))) (hl : (cellsW xs ++ spare).length = c * 2) (hn : n = xs.length) (hc : n ≤ c) (hm : c ≤ maxLen) :
    Kd.R k118 118 W base ok (.slice (some ⟨g, 0, none⟩) n c) xs := by
  refine ⟨fun k hk => ?_, cellsW xs, ⟨by rw [cellsW_len]; rfl, .inr ⟨g, c, _, by rw [hn], hb, hh, by omega, hm, by rw [List.size_toArray, hl]; rfl, ?_⟩⟩, (cells_reps xs).imp_ (fun x cs e => by subst e; exact k118_mkM _ _ _ x)⟩
  · have : g = k := by simpa [Value.ownBlock] using hk
    exact this ▸ hok
  · rw [show xs.length * k118.sz = (cellsW xs).length from (cellsW_len xs).symm]
    simp
/-- copy, elements of sz cells: the cells that go over are laid over the row from place o on. -/
theorem run_copyN {P : Program} (w : World) (dT sT ty elem : TypeId) (sz g o dLen dCap : Nat) (a : Addr) (sLen sCap : Nat) (cur : List Value) (t : TypeId) (cs : List Value)
    (hu : P.underlying dT = some (.slice elem)) (hs : (P.info? elem).map (·.size) = some sz)
    (hg : w.heap[g]? = some (.cells cur.toArray t (0, 0))) (hn : cs.length = Nat.min sLen dLen * sz)
    (hsrc : ∀ j v, cs[j]? = some v → w.cell? (a.add j) = some v) (hfit : o + cs.length ≤ cur.length) (h1 : ∀ v ∈ cs, v.oneCell' = true) :
    (Builtin.copy_ #[dT, sT] ty #[.slice (some ⟨g, o, none⟩) dLen dCap, .slice (some a) sLen sCap]).run P w =
      .ok (goInt (Nat.min sLen dLen)) (w.setRow g (splice cur o cs).toArray) := by
  have hst := run_storeCells_at P g o t cs 0 cur.toArray w hg (by simpa using hfit) h1
  cases hq : P.info? elem with
  | none => simp [hq] at hs
  | some i =>
    have hi : i.size = sz := by simpa [hq] using hs
    have hf := run_firstCells_some (P := P) w i.size (Nat.min sLen dLen) a sLen sCap cs (by rw [hn, hi]) hsrc
    simp only [Nat.add_zero] at hst
    simp [Builtin.copy_, run_underlying hu, Builtin.lenOf, sizeOf, typeInfo, hq, hf, hst, splice]
theorem fr_setRow {S : Nat → Prop} {w0 w : World} (h : Fr S w0 w) (hg : S g ∨ w0.heap.size ≤ g) (cs : Array Value) : Fr S w0 (w.setRow g cs) := by
  refine h.trans (T := fun k => k = g) ?_ (fun i hi => by subst hi; exact hg)
  exact ⟨rfl, rfl, rfl, by simp [World.setRow], fun k hk hn => setRow_other w g k cs hn⟩
section
variable {P : Program} {ops : Array Oper} {rest : List Oper} {o : Oper} {a : Act} {Q : Exit → Act → World → Prop} {K : Act → World → Prop} {E : Prop} {w w0 : World} {S : Nat → Prop}
theorem wpList_copyN (hgd : o.guard = none) (d s : Operand) (dT sT : TypeId)
    (ho : o.op = .call { callee := .builtin .copy, args := #[d, s], argTypes := #[dT, sT] }) (elem : TypeId) (sz : Nat) (hu : P.underlying dT = some (.slice elem)) (hsz : (P.info? elem).map (·.size) = some sz)
    (g off : Nat) (ad : Addr) (dLen dCap sLen sCap : Nat) (hd : a.eval d = .slice (some ⟨g, off, none⟩) dLen dCap) (hs : a.eval s = .slice (some ad) sLen sCap)
    (cur : List Value) (t : TypeId) (hg : w.heap[g]? = some (.cells cur.toArray t (0, 0))) (cs : List Value) (hn : cs.length = Nat.min sLen dLen * sz)
    (hsrc : ∀ j v, cs[j]? = some v → w.cell? (ad.add j) = some v) (hfit : off + cs.length ≤ cur.length) (h1 : ∀ v ∈ cs, v.oneCell' = true) (hf : Fr S w0 w) (hS : S g ∨ w0.heap.size ≤ g)
    (h : ∀ w', w'.heap[g]? = some (.cells (splice cur off cs).toArray t (0, 0)) → Fr S w0 w' → Fr (fun k => k = g) w w' → wpList P ops Q rest (a.put o.dst (goInt (Nat.min sLen dLen))) w') :
    wpList P ops Q (o :: rest) a w := by
  refine wpList_plain hgd fun K hK => ?_
  have hrun := run_copyN (P := P) w dT sT o.type elem sz g off dLen dCap ad sLen sCap cur t cs hu hsz hg hn hsrc hfit h1
  unfold Oper.wp
  simp [execOp, ho, resolve, invoke, builtin, hd, hs, hrun, Result.andThen]
  exact hK _ _ (h _ (setRow_heap w g _ _ t _ hg) (fr_setRow hf hS _) (fr_setRow (Fr.refl (fun k => k = g) w) (.inl rfl) _))
theorem step_copyN (hgd : o.guard = none) (d s : Operand) (dT sT : TypeId)
    (ho : o.op = .call { callee := .builtin .copy, args := #[d, s], argTypes := #[dT, sT] }) (elem : TypeId) (sz : Nat) (hu : P.underlying dT = some (.slice elem)) (hsz : (P.info? elem).map (·.size) = some sz)
    (g off : Nat) (ad : Addr) (dLen dCap sLen sCap : Nat) (hd : a.eval d = .slice (some ⟨g, off, none⟩) dLen dCap) (hs : a.eval s = .slice (some ad) sLen sCap)
    (cur : List Value) (t : TypeId) (hg : w.heap[g]? = some (.cells cur.toArray t (0, 0))) (cs : List Value) (hn : cs.length = Nat.min sLen dLen * sz)
    (hsrc : ∀ j v, cs[j]? = some v → w.cell? (ad.add j) = some v) (hfit : off + cs.length ≤ cur.length) (h1 : ∀ v ∈ cs, v.oneCell' = true) (hf : Fr S w0 w) (hS : S g ∨ w0.heap.size ≤ g)
    (h : ∀ w', w'.heap[g]? = some (.cells (splice cur off cs).toArray t (0, 0)) → Fr S w0 w' → Fr (fun k => k = g) w w' → K (a.put o.dst (goInt (Nat.min sLen dLen))) w') :
    if Region.wanted o (yielded ops a.tmps) = true then Oper.wp P o a w K Q else E := by
  have hw : Region.wanted o (yielded ops a.tmps) = true := by simp [Region.wanted, hgd]
  rw [if_pos hw]
  have hrun := run_copyN (P := P) w dT sT o.type elem sz g off dLen dCap ad sLen sCap cur t cs hu hsz hg hn hsrc hfit h1
  unfold Oper.wp
  simp [execOp, ho, resolve, invoke, builtin, hd, hs, hrun, Result.andThen]
  exact h _ (setRow_heap w g _ _ t _ hg) (fr_setRow hf hS _) (fr_setRow (Fr.refl (fun k => k = g) w) (.inl rfl) _)
end
/-- append(s[:0], make(S, m)...) beyond s's room: a row of its own, all zeros. -/
theorem run_zeros_new {P : Program} (w : World) (t ti ty e : TypeId) (i : TypeInfo) (z : Value) (size bytes : Nat) (ht : P.underlying t = some (.slice e)) {k : IntKind} (hti : P.underlying ti = some (.int k)) (hi : P.info? e = some i) (hz : i.zero = some z)
    (hsize : i.size = size) (hby : i.bytes = bytes) (hzs : z.cells.size = size) (hsz : 0 < size) (hb0 : 0 < bytes) (A : Option Addr) (cap : Nat) (kx : IntKind) (m : Nat) (hm : 0 < m) (hcap : cap < m) (hbytes : m * bytes ≤ 140737488355328) :
    ∃ c, m ≤ c ∧ c ≤ maxLen ∧ (Builtin.append_ #[t, ti] ty #[.slice A 0 cap, .int kx m]).run P w = .ok (.slice (some ⟨w.heap.size, 0, none⟩) m c) (w.drew.alloc (.cells (Builtin.zeroCells z.cells m ++ Builtin.zeroCells z.cells (c - m)) e)) := by
  subst hsize
  subst hby
  have hle : m ≤ 140737488355328 := Nat.le_trans (Nat.le_mul_of_pos_right _ hb0) hbytes
  have h63 : m ≤ maxLen := by simp only [maxLen]; omega
  have hw : IntKind.i64.wrap (m : Int) = m := by rw [IntKind.wrap_i64]; omega
  have hneg : ¬ ((m : Int) < 0) := by omega
  have hbig : ¬ (281474976710656 < (m : Int) * (i.bytes : Int)) := by
    rw [← Int.natCast_mul]
    omega
  have hsn : i.size ≠ 0 := by omega
  have hn : ¬ (m ≤ cap) := by omega
  have h63' : ¬ (9223372036854775807 < (m : Int)) := by omega
  have hfit := growslice_fits hcap hbytes
  have h48' : ¬ (281474976710656 < Builtin.nextslicecap m cap * i.bytes) := by omega
  have hmz : ¬ (m * i.size = 0) := Nat.mul_ne_zero (by omega) hsn
  have hfo : (Builtin.firstCells i.size 0 (.slice A 0 cap)).run P w.drew = .ok #[] w.drew := by
    cases A with
    | none => simp [Builtin.firstCells]
    | some ad => exact run_firstCells_some (P := P) w.drew i.size 0 ad 0 cap [] (by simp) (fun j u hu => by simp at hu)
  refine ⟨grownCap w m cap e, grownCap_ge w m cap e, grownCap_le_maxLen w m cap e h63, ?_⟩
  simp [Builtin.append_, run_underlying ht, run_underlying hti, sizeOf, typeInfo, zeroValue, hi, hz, asInt, asIntOf, hw, hneg, hbig, hn, h63', h48', Question.forced, hfo, newRow, grownCap, hmz]
end Go.Proofs.Ytglehilfemfiiaa.GU
