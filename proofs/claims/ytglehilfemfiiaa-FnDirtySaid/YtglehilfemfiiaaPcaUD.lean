/- Plain laws of the cache: the reference's run is the program's run. No program in sight. -/
import Derived.Test.YtglehilfemfiiaaCcuUD
import Derived.Test.YtglehilfemfiiaaGUx4D
import Derived.Test.YtglehilfemfiiaaGUx5D
import Derived.Test.YtglehilfemfiiaaGUx6D
import Derived.Test.YtglehilfemfiiaaGUx7D
import Derived.Test.YtglehilfemfiiaaLstD
namespace Go.Proofs.Ytglehilfemfiiaa.PcaU
open Go.RowKit Go.Proofs.Ytglehilfemfiiaa Go.Proofs.Ytglehilfemfiiaa.GU Go.Proofs.Ytglehilfemfiiaa.Lst Go.Proofs.YtglehilfemfiiaaW.PrintWords Go.Proofs.YtglehilfemfiiaaW.PrintLast
set_option linter.unusedVariables false
set_option linter.unusedSimpArgs false
/-- Whether a shape is ok. -/
def shapeB (s0 s1 s2 : Int) : Bool := (impl_isShape.f s0 s1 s2).getD false
theorem shapeB_f (s0 s1 s2 : Int) : impl_isShape.f s0 s1 s2 = some (shapeB s0 s1 s2) := by
  unfold shapeB impl_isShape.f impl_within.f impl_isPower.f
  repeat (first | rfl | split | simp only [Option.bind_some])
theorem within_eq (a lo hi : Int) : impl_within.f a lo hi = some (decide (lo ≤ a ∧ a ≤ hi)) := by
  unfold impl_within.f; split <;> simp_all <;> omega
/-- One use of a cache: what is told of it, the rows behind it. -/
def stepC (s0 s1 s2 : Int) (rows : List (List S118)) (u : S32) : S36 × List (List S118) :=
  let x := useRow s1 (rows.getD (u.f0 / s2 % s0).toNat []) (u.f0 / s2 / s0) u.f1
  (⟨x.1, false, x.2.1⟩, rows.set (u.f0 / s2 % s0).toNat x.2.2)
theorem bs {α β : Type} {x : Option α} {r : α} {f : α → Option β} (h : x = some r) : x.bind f = f r := by rw [h]; rfl
theorem in_eq (a lo hi : Int) : spec_l01In.f a lo hi = some (decide (lo ≤ a ∧ a ≤ hi)) := by
  unfold spec_l01In.f; split <;> simp_all <;> omega
theorem pow_eq (n : Int) (h0 : 1 ≤ n) (h1 : n ≤ 32) : impl_isPower.f n = some (decide (n = 1 ∨ n = 2 ∨ n = 4 ∨ n = 8 ∨ n = 16 ∨ n = 32)) := by
  obtain ⟨m, rfl⟩ : ∃ m : Nat, n = (m : Int) := ⟨n.toNat, by omega⟩
  have h : ∀ m : Fin 33, 1 ≤ m.val → impl_isPower.f (m.val : Int) = some (decide ((m.val : Int) = 1 ∨ (m.val : Int) = 2 ∨ (m.val : Int) = 4 ∨ (m.val : Int) = 8 ∨ (m.val : Int) = 16 ∨ (m.val : Int) = 32)) := by decide +kernel
  exact h ⟨m, by omega⟩ (by omega : 1 ≤ m)
def okS (s0 s1 s2 : Int) : Prop := (s0 = 1 ∨ s0 = 2 ∨ s0 = 4 ∨ s0 = 8 ∨ s0 = 16) ∧ (1 ≤ s1 ∧ s1 ≤ 4) ∧ (s2 = 4 ∨ s2 = 8 ∨ s2 = 16 ∨ s2 = 32)
instance (s0 s1 s2 : Int) : Decidable (okS s0 s1 s2) := by unfold okS; infer_instance
theorem impl_shape (s0 s1 s2 : Int) : impl_isShape.f s0 s1 s2 = some (decide (okS s0 s1 s2)) := by
  unfold impl_isShape.f
  simp only [within_eq, Option.bind_some, decide_eq_true_eq]
  by_cases c1 : 1 ≤ s0 ∧ s0 ≤ 16
  · rw [if_pos c1, bs (pow_eq s0 c1.1 (by omega))]
    by_cases p1 : s0 = 1 ∨ s0 = 2 ∨ s0 = 4 ∨ s0 = 8 ∨ s0 = 16 ∨ s0 = 32
    · rw [decide_eq_true p1, if_pos rfl]
      by_cases c2 : 1 ≤ s1 ∧ s1 ≤ 4
      · rw [if_pos c2]
        by_cases c3 : 4 ≤ s2 ∧ s2 ≤ 32
        · rw [if_pos c3, bs (pow_eq s2 (by omega) c3.2)]
          congr 1
          rw [decide_eq_decide]
          unfold okS
          omega
        · rw [if_neg c3, decide_eq_false (by unfold okS; omega)]
      · rw [if_neg c2, decide_eq_false (by unfold okS; omega)]
    · rw [decide_eq_false p1, if_neg (by simp), decide_eq_false (by unfold okS; omega)]
  · rw [if_neg c1, decide_eq_false (by unfold okS; omega)]
theorem shapeB_eq (s0 s1 s2 : Int) : shapeB s0 s1 s2 = decide (okS s0 s1 s2) := by
  have h := shapeB_f s0 s1 s2
  rw [impl_shape] at h
  exact (Option.some.inj h).symm
theorem spec_shape (s0 s1 s2 : Int) : spec_ShapeOk.f s0 s1 s2 = some (shapeB s0 s1 s2) := by
  rw [shapeB_eq]
  unfold spec_ShapeOk.f
  simp only [in_eq, Option.bind_some]
  repeat' split
  all_goals (congr 1; first | (rw [decide_eq_decide]; unfold okS; omega) | (symm; rw [decide_eq_false_iff_not]; unfold okS; omega))
/-! Rows of ways. -/
def tg (l : List S118) : List Int := l.map (·.f0)
def noT (t : Int) (l : List S118) : List S118 := l.filter (fun w => !(w.f0 == t))
def dirtyOf (t : Int) (wr : Bool) : Bool → List S118 → Bool
  | d, [] => d
  | d, w :: ws => dirtyOf t wr (if w.f0 = t then (wr || w.f1) else d) ws
theorem dirty_no (t : Int) (wr : Bool) : ∀ (l : List S118) (d : Bool), t ∉ tg l → dirtyOf t wr d l = d
  | [], d, _ => rfl
  | w :: ws, d, h => by
    simp only [tg, List.map_cons, List.mem_cons, not_or] at h
    rw [dirtyOf, if_neg (Ne.symm h.1)]
    exact dirty_no t wr ws d h.2
theorem noT_no (t : Int) : ∀ (l : List S118), t ∉ tg l → noT t l = l
  | [], _ => rfl
  | w :: ws, h => by
    simp only [tg, List.map_cons, List.mem_cons, not_or] at h
    have h1 : (w.f0 == t) = false := beq_eq_false_iff_ne.mpr (Ne.symm h.1)
    unfold noT
    rw [List.filter_cons, h1]
    simp only [Bool.not_false, if_true]
    congr 1
    exact noT_no t ws h.2
theorem miss_tg {t : Int} {l : List S118} (h : l.findIdx? (tagB t) = none) : t ∉ tg l := by
  rw [List.findIdx?_eq_none_iff] at h
  intro hm
  obtain ⟨w, hw, e⟩ := List.mem_map.1 hm
  have := h w hw
  unfold tagB at this
  simp at this
  exact this e
/-- A row without doubles, in which t stands at place i. -/
theorem hit_row (t : Int) (wr : Bool) : ∀ (l : List S118) (i : Nat) (d : Bool), (tg l).Nodup → l.findIdx? (tagB t) = some i → noT t l = l.eraseIdx i ∧ dirtyOf t wr d l = ((rd_T118 l (i : Int)).f1 || wr) ∧ (rd_T118 l (i : Int)).f0 = t ∧ t ∈ tg l
  | [], i, d, _, h => by simp at h
  | w :: ws, i, d, hn, h => by
    simp only [tg, List.map_cons, List.nodup_cons] at hn
    rw [List.findIdx?_cons] at h
    by_cases hw : w.f0 = t
    · have hb : tagB t w = true := by unfold tagB; simp [hw]
      rw [if_pos hb] at h
      injection h with h
      subst h
      have hno : t ∉ tg ws := by rw [← hw]; exact hn.1
      refine ⟨?_, ?_, hw, by simp [tg, hw]⟩
      · unfold noT
        rw [List.filter_cons, show (w.f0 == t) = true by simp [hw]]
        simp only [Bool.not_true, Bool.false_eq_true, if_false, List.eraseIdx_zero, List.tail_cons]
        exact noT_no t ws hno
      · rw [dirtyOf, if_pos hw, dirty_no t wr ws _ hno, Bool.or_comm]
        rfl
    · have hb : ¬ tagB t w = true := by unfold tagB; simp [hw]
      rw [if_neg hb] at h
      obtain ⟨j, hj, rfl⟩ := Option.map_eq_some_iff.1 h
      obtain ⟨h1, h2, h3, h4⟩ := hit_row t wr ws j d hn.2 hj
      have hrd : rd_T118 (w :: ws) ((j + 1 : Nat) : Int) = rd_T118 ws (j : Int) := by unfold rd_T118; rw [Int.toNat_natCast, Int.toNat_natCast, List.getD_cons_succ]
      refine ⟨?_, ?_, by rw [hrd]; exact h3, by simp only [tg, List.map_cons, List.mem_cons]; exact .inr h4⟩
      · unfold noT at h1 ⊢
        rw [List.filter_cons, show (w.f0 == t) = false by simp [hw], List.eraseIdx_cons_succ, ← h1]
        rfl
      · rw [dirtyOf, if_neg hw, hrd]
        exact h2
theorem drop_rdW (l : List S118) (k : Nat) (h : k < l.length) : l.drop k = rd_T118 l (k : Int) :: l.drop (k + 1) := by
  rw [List.drop_eq_getElem_cons h]
  congr 1
  unfold rd_T118
  rw [Int.toNat_natCast, List.getD_eq_getElem?_getD, List.getElem?_eq_getElem h]
  rfl
theorem w1 {n : Nat} (h : n < 9000000000000000) : wrap64 ((n : Int) + 1) = ((n + 1 : Nat) : Int) := by rw [wr (by omega) (by omega)]; omega
section
variable (x2 : Bool) (home t : Int) (hit back : Bool) (r : Int) (row rest : List S118) (s0 s1 s2 : Int) (rows : List (List S118)) (o0 o1 o2 : Int) (outs : List (List S118)) (f0 : Int) (dy : Bool)
theorem l1_hit (K j : Nat) (hrow : row.length ≤ 1000) (hlt : j < row.length) (hx : (rd_T118 row (j : Int)).f0 = t) :
    spec_l05Use.l1 (K + 1) x2 home t hit back r row rest (j : Int) s0 s1 s2 rows o0 o1 o2 outs f0 dy = spec_l05Use.l1 K x2 home t true back r row rest ((j + 1 : Nat) : Int) s0 s1 s2 rows o0 o1 o2 outs f0 (x2 || (rd_T118 row (j : Int)).f1) := by
  have h1 : (j : Int) < (row.length : Int) := by omega
  have h2 : (0 : Int) ≤ (j : Int) := by omega
  simp only [spec_l05Use.l1]
  rw [if_pos h1, if_pos h2, if_pos hx, w1 (by omega)]
  cases x2 <;> rfl
theorem l1_other (K j : Nat) (hrow : row.length ≤ 1000) (hlt : j < row.length) (hr : rest.length ≤ j) (hx : ¬ (rd_T118 row (j : Int)).f0 = t) :
    spec_l05Use.l1 (K + 1) x2 home t hit back r row rest (j : Int) s0 s1 s2 rows o0 o1 o2 outs f0 dy = spec_l05Use.l1 K x2 home t hit back r row (rest ++ [rd_T118 row (j : Int)]) ((j + 1 : Nat) : Int) s0 s1 s2 rows o0 o1 o2 outs f0 dy := by
  have h1 : (j : Int) < (row.length : Int) := by omega
  have h2 : (0 : Int) ≤ (j : Int) := by omega
  have h3 : rest.length < 8796093022208 := by omega
  simp only [spec_l05Use.l1]
  rw [if_pos h1, if_pos h2, if_neg hx, if_pos h3, w1 (by omega)]
end
/-- The reference's loop over the row of the line. -/
theorem l1_go (x2 : Bool) (home t : Int) (back : Bool) (r : Int) (row : List S118) (s0 s1 s2 : Int) (rows : List (List S118)) (o0 o1 o2 : Int) (outs : List (List S118)) (f0 : Int) (hrow : row.length ≤ 1000) :
    ∀ (d k j : Nat) (hit : Bool) (rest : List S118) (dy : Bool), j ≤ row.length → row.length - j = d → rest.length ≤ j →
    spec_l05Use.l1 (k + 1 + d) x2 home t hit back r row rest (j : Int) s0 s1 s2 rows o0 o1 o2 outs f0 dy =
      spec_l05Use.l1 (k + 1) x2 home t (hit || (row.drop j).any (fun w => w.f0 == t)) back r row (rest ++ noT t (row.drop j)) (row.length : Int) s0 s1 s2 rows o0 o1 o2 outs f0 (dirtyOf t x2 dy (row.drop j)) := by
  intro d
  induction d with
  | zero =>
    intro k j hit rest dy hj hd hr
    obtain rfl : j = row.length := by omega
    rw [List.drop_length]
    simp only [noT, dirtyOf, List.any_nil, Bool.or_false, List.filter_nil, List.append_nil, Nat.add_zero]
  | succ d ih =>
    intro k j hit rest dy hj hd hr
    have hlt : j < row.length := by omega
    rw [drop_rdW row j hlt, show k + 1 + (d + 1) = (k + 1 + d) + 1 by omega]
    by_cases hx : (rd_T118 row (j : Int)).f0 = t
    · rw [l1_hit _ _ _ _ _ _ _ _ _ _ _ _ _ _ _ _ _ _ _ _ hrow hlt hx, ih k (j + 1) true rest _ (by omega) (by omega) (by omega)]
      generalize rd_T118 row (j : Int) = x at hx ⊢
      have e1 : noT t (x :: row.drop (j + 1)) = noT t (row.drop (j + 1)) := by
        unfold noT
        rw [List.filter_cons, show (x.f0 == t) = true by simp [hx]]
        rfl
      have e2 : (x :: row.drop (j + 1)).any (fun w => w.f0 == t) = true := by simp [hx]
      have e3 : dirtyOf t x2 dy (x :: row.drop (j + 1)) = dirtyOf t x2 (x2 || x.f1) (row.drop (j + 1)) := by rw [dirtyOf, if_pos hx]
      rw [e1, e2, e3, Bool.true_or, Bool.or_true]
    · rw [l1_other _ _ _ _ _ _ _ _ _ _ _ _ _ _ _ _ _ _ _ _ hrow hlt hr hx, ih k (j + 1) hit _ dy (by omega) (by omega) (by simp; omega)]
      generalize rd_T118 row (j : Int) = x at hx ⊢
      have e1 : noT t (x :: row.drop (j + 1)) = x :: noT t (row.drop (j + 1)) := by
        unfold noT
        rw [List.filter_cons, show (x.f0 == t) = false by simp [hx]]
        rfl
      have e2 : (x :: row.drop (j + 1)).any (fun w => w.f0 == t) = (row.drop (j + 1)).any (fun w => w.f0 == t) := by
        rw [List.any_cons, show (x.f0 == t) = false by simp [hx], Bool.false_or]
      have e3 : dirtyOf t x2 dy (x :: row.drop (j + 1)) = dirtyOf t x2 dy (row.drop (j + 1)) := by rw [dirtyOf, if_neg hx]
      rw [e1, e2, e3, List.append_assoc, List.singleton_append]
/-- The rows behind the line's own. -/
theorem l0_after (x2 : Bool) (home t : Int) (hit back : Bool) (s0 s1 s2 : Int) (rows : List (List S118)) (o0 o1 o2 : Int) (hl : rows.length ≤ 1000) (hr : ∀ xs ∈ rows, xs.length ≤ 1000) :
    ∀ (d k i : Nat) (outs : List (List S118)), i ≤ rows.length → rows.length - i = d → d < k → home < (i : Int) → outs.length = i →
    spec_l05Use.l0 k x2 home t hit back (i : Int) s0 s1 s2 rows o0 o1 o2 outs = some (o0, o1, o2, outs ++ rows.drop i, hit, back) := by
  intro d
  induction d with
  | zero =>
    intro k i outs hi hd hk hh ho
    obtain ⟨k, rfl⟩ : ∃ m, k = m + 1 := ⟨k - 1, by omega⟩
    have h1 : ¬ (i : Int) < (rows.length : Int) := by omega
    simp only [spec_l05Use.l0]
    rw [if_neg h1, List.drop_eq_nil_of_le (by omega), List.append_nil]
  | succ d ih =>
    intro k i outs hi hd hk hh ho
    obtain ⟨k, rfl⟩ : ∃ m, k = m + 1 := ⟨k - 1, by omega⟩
    have hlt : i < rows.length := by omega
    have h1 : (i : Int) < (rows.length : Int) := by omega
    have h2 : (0 : Int) ≤ (i : Int) := by omega
    have h3 : ¬ (i : Int) = home := by omega
    have hx : rd_L3 rows (i : Int) = rows[i] := by unfold rd_L3; rw [Int.toNat_natCast, List.getD_eq_getElem?_getD, List.getElem?_eq_getElem hlt]; rfl
    have h4 : ([] : List S118).length + (rd_L3 rows (i : Int)).length < 8796093022208 := by
      have := hr rows[i] (List.getElem_mem _)
      rw [hx]; simp; omega
    have h5 : outs.length < 5864062014805 := by omega
    simp only [spec_l05Use.l0]
    rw [if_pos h1, if_pos h2, if_neg h3, Option.bind_some, if_pos h4, if_pos h5, w1 (by omega), ih k (i + 1) _ (by omega) (by omega) (by omega) (by omega) (by simp [ho]), hx]
    congr 3
    rw [List.nil_append, List.append_assoc, List.drop_eq_getElem_cons hlt]
    rfl
/-- What the reference makes of a row without doubles: what the program makes of it. -/
theorem row_same (x2 : Bool) (t s1 : Int) (l : List S118) (hn : (tg l).Nodup) (hl : (l.length : Int) ≤ s1) (h1 : 1 ≤ s1) :
    useRow s1 l t x2 = (if ((noT t l).length : Int) = s1 then (l.any (fun w => w.f0 == t), (rd_T118 (noT t l) (((noT t l).length - 1 : Nat) : Int)).f1, ⟨t, dirtyOf t x2 x2 l⟩ :: (noT t l).take ((noT t l).length - 1)) else (l.any (fun w => w.f0 == t), false, ⟨t, dirtyOf t x2 x2 l⟩ :: noT t l)) := by
  unfold useRow
  cases hf : l.findIdx? (tagB t) with
  | some i =>
    obtain ⟨e1, e2, e3, e4⟩ := hit_row t x2 l i x2 hn hf
    have hil : i < l.length := by
      rw [List.findIdx?_eq_some_iff_getElem] at hf
      exact hf.1
    have hany : l.any (fun w => w.f0 == t) = true := by
      obtain ⟨w, hw, e⟩ := List.mem_map.1 e4
      exact List.any_eq_true.2 ⟨w, hw, by simp [e]⟩
    dsimp only
    rw [e1, e2, hany, List.length_eraseIdx_of_lt hil, if_neg (by omega), e3]
  | none =>
    have hno := miss_tg hf
    have hany : l.any (fun w => w.f0 == t) = false := by
      rw [List.any_eq_false]
      intro w hw he
      exact hno (List.mem_map.2 ⟨w, hw, by simpa using he⟩)
    dsimp only
    rw [noT_no t l hno, dirty_no t x2 l x2 hno, hany]
    by_cases hs : (l.length : Int) = s1
    · rw [if_pos hs, if_pos hs]
      obtain ⟨m, hm⟩ : ∃ m, l.length = m + 1 := ⟨l.length - 1, by omega⟩
      rw [hm, List.take_succ_cons]
      congr 2
    · rw [if_neg hs, if_neg hs]
/-- The reference's use of a cache. -/
theorem use_same (s0 s1 s2 : Int) (rows : List (List S118)) (a : Int) (x2 : Bool) (ha : 0 ≤ a) (ha2 : a ≤ 65535) (h0 : 1 ≤ s0) (h00 : s0 ≤ 16) (h1 : 1 ≤ s1) (h11 : s1 ≤ 4) (h2 : 1 ≤ s2) (hl : (rows.length : Int) = s0) (hn : ∀ xs ∈ rows, (tg xs).Nodup) (hw : ∀ xs ∈ rows, (xs.length : Int) ≤ s1) (k : Nat) (hk : 60 ≤ k) :
    spec_l05Use.f k s0 s1 s2 rows a x2 = some (s0, s1, s2, (stepC s0 s1 s2 rows ⟨a, x2⟩).2, (stepC s0 s1 s2 rows ⟨a, x2⟩).1.f0, (stepC s0 s1 s2 rows ⟨a, x2⟩).1.f2) := by
  obtain ⟨e1, hq0, hq1⟩ := tdiv_pos ha ha2 h2
  obtain ⟨e2, hq2, hq3⟩ := tdiv_pos hq0 hq1 h0
  unfold spec_l05Use.f stepC
  rw [if_neg (by omega), if_neg (by omega), e1, e2, Int.tmod_eq_emod_of_nonneg hq0]
  have hm0 : 0 ≤ a / s2 % s0 := Int.emod_nonneg _ (by omega)
  have hm1 : a / s2 % s0 < s0 := Int.emod_lt_of_pos _ (by omega)
  obtain ⟨r, hr⟩ : ∃ r : Nat, a / s2 % s0 = (r : Int) := ⟨(a / s2 % s0).toNat, by omega⟩
  dsimp only
  rw [hr, Int.toNat_natCast]
  generalize a / s2 / s0 = t
  have hrl : r < rows.length := by omega
  have hgd : rows.getD r [] = rows[r] := by rw [List.getD_eq_getElem?_getD, List.getElem?_eq_getElem hrl]; rfl
  rw [hgd]
  have hnr := hn rows[r] (List.getElem_mem _)
  have hwr := hw rows[r] (List.getElem_mem _)
  have hbig : ∀ xs ∈ rows, xs.length ≤ 1000 := fun xs hx => by have := hw xs hx; omega
  have before : ∀ (d k i : Nat), i ≤ r → r - i = d → 20 + (rows.length - i) < k → spec_l05Use.l0 k x2 (r : Int) t false false (i : Int) s0 s1 s2 rows s0 s1 s2 (rows.take i) = some (s0, s1, s2, rows.set r (useRow s1 rows[r] t x2).2.2, (useRow s1 rows[r] t x2).1, (useRow s1 rows[r] t x2).2.1) := by
    intro d
    induction d with
    | zero =>
      intro k i hi hd hk
      obtain rfl : i = r := by omega
      obtain ⟨k, rfl⟩ : ∃ m, k = (m + 1 + rows[i].length) + 1 := ⟨k - 2 - rows[i].length, by omega⟩
      have c1 : (i : Int) < (rows.length : Int) := by omega
      have c2 : (0 : Int) ≤ (i : Int) := by omega
      have hx : rd_L3 rows (i : Int) = rows[i] := by unfold rd_L3; rw [Int.toNat_natCast, List.getD_eq_getElem?_getD, List.getElem?_eq_getElem hrl]; rfl
      have hto : (rows.take i).length = i := by rw [List.length_take]; omega
      have hgo := l1_go x2 (i : Int) t false (i : Int) rows[i] s0 s1 s2 rows s0 s1 s2 (rows.take i) t (hbig _ (List.getElem_mem _)) rows[i].length k 0 false [] x2 (Nat.zero_le _) rfl (Nat.le_refl _)
      simp only [spec_l05Use.l0]
      rw [if_pos c1, if_pos c2, if_pos trivial, hx]
      refine hgo.trans ?_
      rw [List.drop_zero, Bool.false_or, List.nil_append]
      have hrow := row_same x2 t s1 rows[i] hnr hwr h1
      rw [hrow]
      have hnl : (noT t rows[i]).length ≤ rows[i].length := List.length_filter_le _ _
      have hset : ∀ y : List S118, rows.take i ++ [y] ++ rows.drop (i + 1) = rows.set i y := fun y => by
        rw [List.set_eq_take_append_cons_drop, if_pos hrl]
        simp
      have c3 : ¬ (rows[i].length : Int) < (rows[i].length : Int) := by omega
      simp only [spec_l05Use.l1]
      rw [if_neg c3]
      by_cases hs : ((noT t rows[i]).length : Int) = s1
      · have w : wrap64 (((noT t rows[i]).length : Int) - 1) = (((noT t rows[i]).length - 1 : Nat) : Int) := by rw [wr (by omega) (by omega)]; omega
        have c4 : (0 : Int) ≤ (((noT t rows[i]).length - 1 : Nat) : Int) := by omega
        have c5 : (((noT t rows[i]).length - 1 : Nat) : Int) < ((noT t rows[i]).length : Int) := by omega
        have c6 : (((noT t rows[i]).length - 1 : Nat) : Int) ≤ ((noT t rows[i]).length : Int) := by omega
        have c7 : ([(⟨t, dirtyOf t x2 x2 rows[i]⟩ : S118)] : List S118).length + ((noT t rows[i]).take ((noT t rows[i]).length - 1)).length < 8796093022208 := by rw [List.length_take]; simp; omega
        have c8 : (rows.take i).length < 5864062014805 := by omega
        rw [if_pos hs, if_pos hs, w, if_pos c4, if_pos c5, if_pos c6, Option.bind_some, Option.bind_some, Int.toNat_natCast, if_pos c7, if_pos c8, w1 (by omega)]
        rw [l0_after x2 (i : Int) t _ _ s0 s1 s2 rows s0 s1 s2 (by omega) hbig (rows.length - (i + 1)) k (i + 1) _ (by omega) rfl (by omega) (by omega) (by simp [hto])]
        rw [hset]
        rfl
      · have c7 : ([(⟨t, dirtyOf t x2 x2 rows[i]⟩ : S118)] : List S118).length + (noT t rows[i]).length < 8796093022208 := by simp; omega
        have c8 : (rows.take i).length < 5864062014805 := by omega
        rw [if_neg hs, if_neg hs, Option.bind_some, if_pos c7, if_pos c8, w1 (by omega)]
        rw [l0_after x2 (i : Int) t _ _ s0 s1 s2 rows s0 s1 s2 (by omega) hbig (rows.length - (i + 1)) k (i + 1) _ (by omega) rfl (by omega) (by omega) (by simp [hto])]
        rw [hset]
        rfl
    | succ d ih =>
      intro k i hi hd hk
      obtain ⟨k, rfl⟩ : ∃ m, k = m + 1 := ⟨k - 1, by omega⟩
      have hlt : i < rows.length := by omega
      have c1 : (i : Int) < (rows.length : Int) := by omega
      have c2 : (0 : Int) ≤ (i : Int) := by omega
      have c3 : ¬ (i : Int) = (r : Int) := by omega
      have hx : rd_L3 rows (i : Int) = rows[i] := by unfold rd_L3; rw [Int.toNat_natCast, List.getD_eq_getElem?_getD, List.getElem?_eq_getElem hlt]; rfl
      have c4 : ([] : List S118).length + (rd_L3 rows (i : Int)).length < 8796093022208 := by
        have := hbig rows[i] (List.getElem_mem _)
        rw [hx]; simp; omega
      have c5 : (rows.take i).length < 5864062014805 := by rw [List.length_take]; omega
      simp only [spec_l05Use.l0]
      rw [if_pos c1, if_pos c2, if_neg c3, Option.bind_some, if_pos c4, if_pos c5, w1 (by omega), hx, List.nil_append, List.take_append_getElem hlt]
      exact ih k (i + 1) (by omega) (by omega) (by omega)
  exact before r k 0 (Nat.zero_le _) rfl (by omega)
/-! The reference's run. -/
theorem use_tg (s1 : Int) (l : List S118) (t : Int) (wr : Bool) (hn : (tg l).Nodup) (hl : (l.length : Int) ≤ s1) (h1 : 1 ≤ s1) : (tg (useRow s1 l t wr).2.2).Nodup := by
  have hno : ∀ z : Bool, (tg (⟨t, z⟩ :: noT t l)).Nodup := fun z => by
    simp only [tg, List.map_cons, List.nodup_cons]
    refine ⟨fun hm => ?_, ?_⟩
    · obtain ⟨w, hw, e⟩ := List.mem_map.1 hm
      unfold noT at hw
      rw [List.mem_filter] at hw
      simp [e] at hw
    · exact (List.Sublist.map _ List.filter_sublist).nodup hn
  rw [row_same wr t s1 l hn hl h1]
  split
  · have h := hno (dirtyOf t wr wr l)
    exact (List.Sublist.map _ ((List.take_sublist _ _).cons_cons _)).nodup h
  · exact hno _
theorem useRow_len (s1 : Int) (l : List S118) (t : Int) (wr : Bool) (h : (l.length : Int) ≤ s1) : ((useRow s1 l t wr).2.2.length : Int) ≤ s1 := by
  unfold useRow
  split
  · rename_i i hi
    rw [List.findIdx?_eq_some_iff_getElem] at hi
    obtain ⟨hil, _⟩ := hi
    simp only [List.length_cons, List.length_eraseIdx_of_lt hil]
    omega
  · split
    · rw [List.length_take, List.length_cons]
      omega
    · simp only [List.length_cons]
      omega
structure Inv (s0 s1 : Int) (rows : List (List S118)) : Prop where
  len : (rows.length : Int) = s0
  nd : ∀ xs ∈ rows, (tg xs).Nodup
  le : ∀ xs ∈ rows, (xs.length : Int) ≤ s1
theorem Inv.start (s0 s1 : Int) (h0 : 0 ≤ s0) (h1 : 0 ≤ s1) : Inv s0 s1 (List.replicate s0.toNat []) :=
  ⟨by rw [List.length_replicate]; omega, fun xs hx => by rw [List.eq_of_mem_replicate hx]; simp [tg], fun xs hx => by rw [List.eq_of_mem_replicate hx]; simpa using h1⟩
theorem Inv.getD {s0 s1 : Int} {rows : List (List S118)} (h : Inv s0 s1 rows) (h1 : 0 ≤ s1) (r : Nat) : (tg (rows.getD r [])).Nodup ∧ ((rows.getD r []).length : Int) ≤ s1 := by
  rw [List.getD_eq_getElem?_getD]
  cases hr : rows[r]? with
  | none => simp [tg, h1]
  | some xs => exact ⟨h.nd xs (List.mem_of_getElem? hr), h.le xs (List.mem_of_getElem? hr)⟩
theorem Inv.step {s0 s1 s2 : Int} {rows : List (List S118)} (h : Inv s0 s1 rows) (h1 : 1 ≤ s1) (u : S32) : Inv s0 s1 (stepC s0 s1 s2 rows u).2 := by
  obtain ⟨g1, g2⟩ := h.getD (by omega) (u.f0 / s2 % s0).toNat
  unfold stepC
  dsimp only
  refine ⟨by rw [List.length_set]; exact h.len, fun xs hx => ?_, fun xs hx => ?_⟩
  · rcases List.mem_or_eq_of_mem_set hx with hx | rfl
    · exact h.nd xs hx
    · exact use_tg s1 _ _ _ g1 g2 h1
  · rcases List.mem_or_eq_of_mem_set hx with hx | rfl
    · exact h.le xs hx
    · exact useRow_len s1 _ _ _ g2
theorem empty_some (s0 s1 s2 : Int) (hs : okS s0 s1 s2) (k : Nat) (hk : 20 ≤ k) : spec_CacheEmpty.f k s0 s1 s2 = some (s0, s1, s2, List.replicate s0.toNat []) := by
  have hs0 : 1 ≤ s0 ∧ s0 ≤ 16 := by unfold okS at hs; omega
  have loop : ∀ (d k i : Nat), (i : Int) ≤ s0 → s0.toNat - i = d → d < k → spec_CacheEmpty.l0 k (i : Int) s0 s1 s2 s0 s1 s2 (List.replicate i []) = some (s0, s1, s2, List.replicate s0.toNat []) := by
    intro d
    induction d with
    | zero =>
      intro k i hi hd hk
      obtain ⟨k, rfl⟩ : ∃ m, k = m + 1 := ⟨k - 1, by omega⟩
      simp only [spec_CacheEmpty.l0]
      rw [if_neg (by omega), show i = s0.toNat by omega]
    | succ d ih =>
      intro k i hi hd hk
      obtain ⟨k, rfl⟩ : ∃ m, k = m + 1 := ⟨k - 1, by omega⟩
      have c1 : (i : Int) < s0 := by omega
      have c2 : (List.replicate i ([] : List S118)).length < 5864062014805 := by rw [List.length_replicate]; omega
      simp only [spec_CacheEmpty.l0]
      rw [if_pos c1, if_pos c2, w1 (by omega)]
      have e : List.replicate i ([] : List S118) ++ [[]] = List.replicate (i + 1) [] := (List.replicate_succ' ..).symm
      rw [e]
      exact ih k (i + 1) (by omega) (by omega) (by omega)
  unfold spec_CacheEmpty.f
  rw [bs (spec_shape s0 s1 s2), shapeB_eq, decide_eq_true hs, if_pos rfl]
  exact loop s0.toNat k 0 (by omega) (by omega) (by omega)
/-! Whether a cache is ok: both say the same. -/
/-- An elder way has the same tag. -/
def dup (xs : List S118) (i : Nat) : Bool := decide (idxW (tagB (rd_T118 xs (i : Int)).f0) xs < (i : Int))
theorem dup_iff (xs : List S118) (i : Nat) (hi : i < xs.length) : dup xs i = true ↔ ∃ j, j < i ∧ (rd_T118 xs (j : Int)).f0 = (rd_T118 xs (i : Int)).f0 := by
  unfold dup
  rw [decide_eq_true_eq]
  have self : tagB (rd_T118 xs (i : Int)).f0 (rd_T118 xs (i : Int)) = true := by simp [tagB]
  constructor
  · intro h
    unfold idxW at h
    cases hf : xs.findIdx? (tagB (rd_T118 xs (i : Int)).f0) with
    | none =>
      rw [List.findIdx?_eq_none_iff] at hf
      have := hf _ (List.mem_of_getElem? (rdx_W xs i hi))
      rw [self] at this
      cases this
    | some j =>
      rw [hf] at h
      have hj : j < i := by simpa using h
      rw [List.findIdx?_eq_some_iff_getElem] at hf
      obtain ⟨hl, hp, _⟩ := hf
      refine ⟨j, hj, ?_⟩
      have e : rd_T118 xs (j : Int) = xs[j] := by
        have := rdx_W xs j hl
        rw [List.getElem?_eq_getElem hl] at this
        exact (Option.some.inj this).symm
      rw [e]
      simpa [tagB] using hp
  · rintro ⟨j, hj, e⟩
    unfold idxW
    cases hf : xs.findIdx? (tagB (rd_T118 xs (i : Int)).f0) with
    | none =>
      show (-1 : Int) < (i : Int)
      omega
    | some m =>
      rw [List.findIdx?_eq_some_iff_getElem] at hf
      obtain ⟨hl, _, hq⟩ := hf
      show (m : Int) < (i : Int)
      by_cases c : m ≤ j
      · omega
      · have hjl : j < xs.length := by omega
        have e2 : rd_T118 xs (j : Int) = xs[j] := by
          have := rdx_W xs j hjl
          rw [List.getElem?_eq_getElem hjl] at this
          exact (Option.some.inj this).symm
        have := hq j (by omega)
        rw [← e2] at this
        simp [tagB, e] at this
theorem isAddr_eq (a : Int) : impl_isAddr.f a = some (decide (0 ≤ a ∧ a ≤ 65535)) := isAddr_f a
end Go.Proofs.Ytglehilfemfiiaa.PcaU
