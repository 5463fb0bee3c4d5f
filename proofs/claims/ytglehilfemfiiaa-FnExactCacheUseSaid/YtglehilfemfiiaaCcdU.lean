/- slices.Delete and slices.Insert at rows of ways, walked by hand. -/
import Derived.Test.YtglehilfemfiiaaCccU
namespace Go.Proofs.Ytglehilfemfiiaa.GU
open Go.RowKit Go.Proofs.YtglehilfemfiiaaW.PrintWords Go.Proofs.YtglehilfemfiiaaW.PrintLast Go.Proofs.YtglehilfemfiiaaW.PrintMore Go.Proofs.Ytglehilfemfiiaa.Q Go.Proofs.Ytglehilfemfiiaa.Hnd
set_option linter.unusedVariables false
set_option linter.unusedSimpArgs false
theorem zeroY (w : World) : (zeroValue 118).run Try.prog w = .ok (.agg #[.int .i64 0, .bool false]) w := by kernel_rfl
def zcells : Nat → List Value
  | 0 => []
  | n + 1 => .int .i64 0 :: .bool false :: zcells n
theorem zcells_len : ∀ n, (zcells n).length = n * 2
  | 0 => rfl
  | n + 1 => by simp only [zcells, List.length_cons, zcells_len n]; omega
theorem zcells_one : ∀ n, ∀ u ∈ zcells n, u.oneCell' = true
  | 0, u, h => by cases h
  | n + 1, u, h => by
    simp only [zcells, List.mem_cons] at h
    rcases h with rfl | rfl | h
    · rfl
    · rfl
    · exact zcells_one n u h
theorem zcells_get : ∀ n i, i < n * 2 → (zcells n)[i]? = some (if i % 2 = 0 then .int .i64 0 else .bool false)
  | 0, i, h => by omega
  | n + 1, 0, _ => rfl
  | n + 1, 1, _ => rfl
  | n + 1, i + 2, h => by
    have := zcells_get n i (by omega)
    simp only [zcells, List.getElem?_cons_succ, this, Nat.add_mod_right]
theorem zeroCells_eq (n : Nat) : Builtin.zeroCells (Value.agg #[.int .i64 0, .bool false]).cells n = (zcells n).toArray := by
  show Builtin.zeroCells #[.int .i64 0, .bool false] n = _
  apply Array.ext'
  apply List.ext_getElem?
  intro i
  unfold Builtin.zeroCells
  by_cases h : i < n * 2
  · rw [List.toList_toArray, zcells_get n i h]
    have h3 : i % 2 = 0 ∨ i % 2 = 1 := by omega
    rcases h3 with h3 | h3 <;> simp [h, h3]
  · rw [List.getElem?_eq_none (by simp; omega), List.getElem?_eq_none (by simp [zcells_len]; omega)]
theorem clear_runY (w : World) (ty : TypeId) (b o n c : Nat) (hn : 0 < n)
    (hc : ∀ j, j < n * 2 → (w.cell? ⟨b, o + j, none⟩).isSome = true) (hf : ∀ j, j < n * 2 → w.frozen? ⟨b, o + j, none⟩ = false) :
    (Builtin.clear_ #[116] ty #[.slice (some ⟨b, o, none⟩) n c]).run Try.prog w = .ok (.tuple #[]) (w.setCells b o (zcells n)) := by
  have hzc : (Builtin.zeroCells (Value.agg #[.int .i64 0, .bool false]).cells n).toList = zcells n := by rw [zeroCells_eq]
  have hst := run_storeCells_cells (P := Try.prog) b o (zcells n) 0 w (by simpa [zcells_len] using hc) (by simpa [zcells_len] using hf) (zcells_one n)
  simp only [Nat.add_zero] at hst
  obtain ⟨m, rfl⟩ : ∃ m, n = m + 1 := ⟨n - 1, by omega⟩
  simp [Builtin.clear_, run_underlying Try.underlying116, zeroY, hzc, hst]
theorem R_pastY {W : World} {base g n cap : Nat} {ok : Nat → Prop} {xs : List S118} (h : Kd.R k118 118 W base ok (.slice (some ⟨g, 0, none⟩) n cap) xs) (vs : List Value) (o : Nat) (ho : n * 2 ≤ o) (hl : o + vs.length ≤ cap * 2) : Kd.R k118 118 (W.setCells g o vs) base ok (.slice (some ⟨g, 0, none⟩) n cap) xs := by
  obtain ⟨hn, hb, hc, hm, hok, spare, hh, hl2⟩ := R_cells h
  obtain ⟨cur', h3, h4, h5⟩ := setCells_row vs o W _ hh (by rw [List.size_toArray, hl2]; omega)
  have hx : (cellsW xs).length = n * 2 := by rw [cellsW_len, hn]
  have e : cur'.toList = cellsW xs ++ cur'.toList.drop (n * 2) := by
    conv => lhs; rw [← List.take_append_drop (n * 2) cur'.toList]
    congr 1
    rw [h5, List.append_assoc, List.take_append_of_le_length (by rw [List.length_take, List.length_append]; omega), List.take_take, Nat.min_eq_left ho]
    rw [List.take_append_of_le_length (by omega), List.take_of_length_le (by omega)]
  refine R_of_cells hb hok (spare := cur'.toList.drop (n * 2)) ?_ ?_ hn hc hm
  · rw [← e]; exact h3
  · rw [← e, Array.length_toList, h4, List.size_toArray, hl2]
theorem fr_setCells {S : Nat → Prop} {w0 : World} {g : Nat} (hS : S g ∨ w0.heap.size ≤ g) : ∀ (vs : List Value) (o : Nat) (w : World), Fr S w0 w → Fr S w0 (w.setCells g o vs)
  | [], _, _, h => h
  | v :: vs, o, w, h => fr_setCells hS vs (o + 1) _ (h.set (p := ⟨g, o, none⟩) hS v)
section
variable {ops : Array Oper} {o : Oper} {a : Act} {Q : Exit → Act → World → Prop} {Kc : Act → World → Prop}
theorem del_step {w0 W : World} (base : Nat) (hw : Region.wanted o (yielded ops a.tmps) = true) (s x : Operand) (ho : o.op = .call { callee := .builtin .append, args := #[s, x], argTypes := #[116, 116] })
    {g c k m c2 m2 : Nat} {A : Option Addr} {xs : List S118} {ok : Nat → Prop}
    (hs : a.eval s = .slice (some ⟨g, 0, none⟩) k c) (hx : a.eval x = .slice A m2 c2) (hA : A = if c = k + 1 then some ⟨g, 0, none⟩ else some ⟨g, (k + 1) * 2, none⟩) (hm : m2 = m - k)
    (HO : Kd.R k118 118 W base ok (.slice (some ⟨g, 0, none⟩) (m + 1) c) xs) (hk : k < m + 1) (HB : Below base w0 W) (hbase : base ≤ W.heap.size)
    (h : ∀ w1, Aside0 (Kd.R k118 118 w1 base ok (.slice (some ⟨g, 0, none⟩) m c) (xs.eraseIdx k)) → Aside0 (W.grownBy w1 (some g)) → Kc (a.put o.dst (.slice (some ⟨g, 0, none⟩) m c)) w1) :
    if Region.wanted o (yielded ops a.tmps) = true then Oper.wp Try.prog o a W Kc Q else Kc (a.put o.dst undef) W :=
  Kd.R_delete_step (P := Try.prog) k118 (w0 := w0) base hw s x 116 118 ho Try.underlying116 (by kernel_rfl) (g := g) (n := m + 1) (c := c) (k := k) (xs := xs) (ok := ok) hs hx
    (by rw [hA]; show _ = if c = k + 1 then _ else some (Addr.add ⟨g, 0, none⟩ ((k + 1) * 2)); rw [Addr.add_lit, Nat.zero_add]) (by rw [hm]; omega) HO hk HB hbase (fun w1 h1 _ h3 => h w1 ⟨h1⟩ ⟨h3⟩)
end
set_option maxHeartbeats 4000000 in
set_option maxRecDepth 100000 in
theorem delY_calls (g c m i : Nat) (j : Int) (l : List S118) (W : World) (base : Nat) (ok : Nat → Prop) (hr : Kd.R k118 118 W base ok (.slice (some ⟨g, 0, none⟩) (m + 1) c) l) (hi : i < m + 1) (hj : j = (i : Int) + 1) (hb : base ≤ W.heap.size) :
    Calls Try.prog 100 #[.slice (some ⟨g, 0, none⟩) (m + 1) c, .int .i64 (i : Int), .int .i64 j] W fun e w' => e = .returned (.slice (some ⟨g, 0, none⟩) m c) ∧ Kd.R k118 118 w' base ok (.slice (some ⟨g, 0, none⟩) m c) (l.eraseIdx i) ∧ Fr (fun k => k = g) W w' := by
  obtain ⟨hml, hbg, hlc, hcm, hok, spare, hh, hl2⟩ := R_cells hr
  have hu116 := Try.underlying116
  have hcm' : c ≤ 9223372036854775807 := hcm
  have HR := Aside0.mk hr
  have hji : j = ((i + 1 : Nat) : Int) := by omega
  subst hji
  have hic : i ≤ c := by omega
  have hic1 : i + 1 ≤ c := by omega
  have hil1 : i ≤ m := by omega
  have hne : ((i : Int) == ((i + 1 : Nat) : Int)) = false := beq_eq_false_iff_ne.mpr (by omega)
  have hne1 : ((i : Int) == (i : Int) + 1) = false := beq_eq_false_iff_ne.mpr (by omega)
  have HI := Aside0.mk hi
  have HBW := Aside0.mk (below_drew1 (Below.refl base W))
  have HB0 := Aside0.mk hb
  have q1 : 0 ≤ (i : Int) + 1 := by omega
  have q2 : (i : Int) + 1 ≤ (m : Int) + 1 := by omega
  have HCM := Aside0.mk (show ¬ c = m by omega)
  clear hr hh hl2 hok hj hbg hcm hml hb hi
  go_enter Try.func100, Try.ntmps100
  go_wp2_with fail
  go_region_law (refine del_step (w0 := W) (m := m) (k := i) base rfl (.tmp 22) (.tmp 25) rfl rfl rfl rfl rfl (rq HR.out) HI.out HBW.out (by simpa using HB0.out) ?_; intro w1 HR1 HG1)
  have hcl : ∀ ty, (Builtin.clear_ #[116] ty #[.slice (some ⟨g, m * 2, none⟩) 1 (c - m)]).run Try.prog w1 = .ok (.tuple #[]) (w1.setCells g (m * 2) (zcells 1)) := by
    obtain ⟨_, _, _, _, _, sp1, hh1, hl1⟩ := R_cells HR1.out
    exact fun ty => clear_runY w1 ty g (m * 2) 1 (c - m) (by omega) (fun t ht => by rw [blk_cell hh1, List.getElem?_toArray, List.getElem?_eq_getElem (by omega)]; rfl) (fun t ht => blk_frozen hh1 _)
  have HX : Aside0 (Kd.R k118 118 (w1.setCells g (m * 2) (zcells 1)) base ok (.slice (some ⟨g, 0, none⟩) m c) (l.eraseIdx i) ∧ Fr (fun k => k = g) W (w1.setCells g (m * 2) (zcells 1))) :=
    ⟨⟨R_pastY HR1.out (zcells 1) (m * 2) (Nat.le_refl _) (by rw [zcells_len]; omega), fr_setCells (S := fun k => k = g) (.inl rfl) _ _ _ (((Fr.refl (fun k => k = g) W).drew).grown HG1.out (fun k hk => .inl (by injection hk with hk; exact hk.symm)))⟩⟩
  have hcm2 : ¬ c = m := HCM.out
  go_wp2
  all_goals (go_ret; first | exact ⟨rfl, HX.out.1, HX.out.2⟩ | (obtain rfl : c = i + 1 := (by assumption); exact ⟨rfl, HX.out.1, HX.out.2⟩))
end Go.Proofs.Ytglehilfemfiiaa.GU
