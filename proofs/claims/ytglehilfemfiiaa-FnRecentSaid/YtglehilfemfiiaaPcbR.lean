/- Plain laws of the cache: a row holds the lines used latest. No program in sight. -/
import Derived.Test.YtglehilfemfiiaaPcaR
namespace Go.Proofs.Ytglehilfemfiiaa.PcbR
open Go.RowKit Go.Proofs.Ytglehilfemfiiaa Go.Proofs.Ytglehilfemfiiaa.GR Go.Proofs.Ytglehilfemfiiaa.PcaR Go.Proofs.Ytglehilfemfiiaa.Lst Go.Proofs.YtglehilfemfiiaaW.PrintWords Go.Proofs.YtglehilfemfiiaaW.PrintLast
set_option linter.unusedVariables false
set_option linter.unusedSimpArgs false
/-- The lines of row r, the latest first, each once. -/
def stk (s0 r : Int) : List Int → List Int
  | [] => []
  | x :: H => if x % s0 = r then x :: (stk s0 r H).filter (fun y => !(y == x)) else stk s0 r H
theorem stk_row (s0 r : Int) : ∀ (H : List Int) (x : Int), x ∈ stk s0 r H → x % s0 = r
  | [], x, h => by cases h
  | y :: H, x, h => by
    unfold stk at h
    split at h
    · rename_i hy
      rcases List.mem_cons.1 h with rfl | h
      · exact hy
      · exact stk_row s0 r H x (List.mem_filter.1 h).1
    · exact stk_row s0 r H x h
theorem stk_nd (s0 r : Int) : ∀ (H : List Int), (stk s0 r H).Nodup
  | [] => List.nodup_nil
  | y :: H => by
    unfold stk
    split
    · rw [List.nodup_cons]
      exact ⟨fun h => by simp at h, (List.filter_sublist).nodup (stk_nd s0 r H)⟩
    · exact stk_nd s0 r H
theorem take_filter (x : Int) : ∀ (S : List Int) (v : Nat), S.Nodup → ((S.take (v + 1)).filter (fun y => !(y == x))).take v = (S.filter (fun y => !(y == x))).take v
  | [], v, _ => by simp
  | y :: S, v, h => by
    rw [List.nodup_cons] at h
    rw [List.take_succ_cons]
    by_cases hy : y = x
    · subst hy
      have hno : ∀ l : List Int, (∀ z ∈ l, z ∈ S) → l.filter (fun z => !(z == y)) = l := fun l hl => by
        rw [List.filter_eq_self]
        intro z hz
        have : z ≠ y := fun e => h.1 (e ▸ hl z hz)
        simp [this]
      rw [List.filter_cons, List.filter_cons, show (!(y == y)) = false by simp]
      simp only [Bool.false_eq_true, if_false]
      rw [hno _ (fun z hz => List.mem_of_mem_take hz), hno _ (fun z hz => hz), List.take_take, Nat.min_self]
    · rw [List.filter_cons, List.filter_cons, show (!(y == x)) = true by simp [hy]]
      simp only [if_true]
      cases v with
      | zero => rfl
      | succ v => rw [List.take_succ_cons, List.take_succ_cons, take_filter x S v h.2]
/-- The line of a way in row r. -/
def ln (s0 r : Int) (w : S118) : Int := w.f0 * s0 + r
theorem ln_eq {s0 r t x : Int} (h0 : 1 ≤ s0) (hx : x / s0 = t) (hr : x % s0 = r) (w : S118) : (ln s0 r w = x) ↔ w.f0 = t := by
  have hd := Int.mul_ediv_add_emod x s0
  rw [hx, hr] at hd
  unfold ln
  constructor
  · intro h
    have h2 : w.f0 * s0 = t * s0 := by rw [Int.mul_comm t s0]; omega
    exact Int.eq_of_mul_eq_mul_right (by omega) h2
  · intro h
    rw [h, Int.mul_comm t s0]
    omega
theorem map_noT {s0 r t x : Int} (h0 : 1 ≤ s0) (hx : x / s0 = t) (hr : x % s0 = r) : ∀ l : List S118, (noT t l).map (ln s0 r) = (l.map (ln s0 r)).filter (fun y => !(y == x))
  | [] => rfl
  | w :: l => by
    have ih := map_noT h0 hx hr l
    unfold noT at ih ⊢
    rw [List.filter_cons, List.map_cons, List.filter_cons, ← ih]
    by_cases h : w.f0 = t
    · rw [show (w.f0 == t) = true by simp [h], show (ln s0 r w == x) = true by simp [(ln_eq h0 hx hr w).2 h]]
      rfl
    · rw [show (w.f0 == t) = false by simp [h], show (ln s0 r w == x) = false from beq_eq_false_iff_ne.mpr (fun e => h ((ln_eq h0 hx hr w).1 e))]
      rfl
/-- A cache against what was used. -/
structure Rel (s0 s1 : Int) (rows : List (List S118)) (H : List Int) : Prop where
  inv : Inv s0 s1 rows
  row : ∀ r : Nat, r < rows.length → (rows.getD r []).map (ln s0 r) = (stk s0 r H).take s1.toNat
theorem Rel.start (s0 s1 : Int) (h0 : 0 ≤ s0) (h1 : 0 ≤ s1) : Rel s0 s1 (List.replicate s0.toNat []) [] :=
  ⟨Inv.start s0 s1 h0 h1, fun r hr => by
    rw [List.length_replicate] at hr
    rw [List.getD_eq_getElem?_getD, List.getElem?_replicate, if_pos hr]
    simp [stk]⟩
theorem Rel.step {s0 s1 s2 : Int} {rows : List (List S118)} {H : List Int} (h : Rel s0 s1 rows H) (h0 : 1 ≤ s0) (h1 : 1 ≤ s1) (u : S32) :
    Rel s0 s1 (stepC s0 s1 s2 rows u).2 (u.f0 / s2 :: H) ∧ ((stepC s0 s1 s2 rows u).1.f0 = true ↔ u.f0 / s2 ∈ (stk s0 (u.f0 / s2 % s0) H).take s1.toNat) ∧ (stepC s0 s1 s2 rows u).1.f1 = false := by
  have hI := h.inv.step (s2 := s2) h1 u
  unfold stepC at hI ⊢
  dsimp only at hI ⊢
  generalize hx : u.f0 / s2 = x at hI ⊢
  have hm0 : 0 ≤ x % s0 := Int.emod_nonneg _ (by omega)
  have hm1 : x % s0 < s0 := Int.emod_lt_of_pos _ (by omega)
  obtain ⟨r, hr⟩ : ∃ r : Nat, x % s0 = (r : Int) := ⟨(x % s0).toNat, by omega⟩
  rw [hr, Int.toNat_natCast] at hI ⊢
  have hrl : r < rows.length := by have := h.inv.len; omega
  obtain ⟨g1, g2⟩ := h.inv.getD (by omega) r
  have hrow := h.row r hrl
  generalize rows.getD r [] = l at g1 g2 hrow hI ⊢
  obtain ⟨v, hv⟩ : ∃ v : Nat, s1.toNat = v + 1 := ⟨s1.toNat - 1, by omega⟩
  have hsame := row_same u.f1 (x / s0) s1 l g1 g2 h1
  have hmap := map_noT h0 rfl hr l
  have hnl : (noT (x / s0) l).length ≤ l.length := List.length_filter_le _ _
  have hhd : ∀ d : Bool, ln s0 r ⟨x / s0, d⟩ = x := fun d => (ln_eq h0 rfl hr _).2 rfl
  have hnew : (useRow s1 l (x / s0) u.f1).2.2.map (ln s0 r) = (stk s0 r (x :: H)).take s1.toNat := by
    have e : stk s0 (r : Int) (x :: H) = x :: (stk s0 r H).filter (fun y => !(y == x)) := by
      show (if x % s0 = (r : Int) then _ else _) = _
      rw [if_pos hr]
    rw [e, hv, List.take_succ_cons, ← take_filter x _ v (stk_nd s0 r H), ← hv, ← hrow, ← hmap, hsame]
    by_cases hs : ((noT (x / s0) l).length : Int) = s1
    · rw [if_pos hs, List.map_cons, hhd, List.map_take, show (noT (x / s0) l).length - 1 = v by omega]
    · rw [if_neg hs, List.map_cons, hhd, List.take_of_length_le (by rw [List.length_map]; omega)]
  have hhit : (useRow s1 l (x / s0) u.f1).1 = true ↔ x ∈ (stk s0 r H).take s1.toNat := by
    rw [← hrow]
    have e : (useRow s1 l (x / s0) u.f1).1 = l.any (fun w => w.f0 == x / s0) := by rw [hsame]; split <;> rfl
    rw [e, List.any_eq_true, List.mem_map]
    constructor
    · rintro ⟨w, hw, hq⟩
      exact ⟨w, hw, (ln_eq h0 rfl hr w).2 (by simpa using hq)⟩
    · rintro ⟨w, hw, hq⟩
      exact ⟨w, hw, by simpa using (ln_eq h0 rfl hr w).1 hq⟩
  refine ⟨⟨hI, fun q hq => ?_⟩, hhit, rfl⟩
  rw [List.length_set] at hq
  by_cases e : q = r
  · subst e
    rw [List.getD_eq_getElem?_getD, List.getElem?_set_self hrl]
    exact hnew
  · rw [List.getD_eq_getElem?_getD, List.getElem?_set_ne (Ne.symm e), ← List.getD_eq_getElem?_getD, h.row q hq]
    have e2 : stk s0 (q : Int) (x :: H) = stk s0 q H := by
      show (if x % s0 = (q : Int) then _ else _) = _
      rw [if_neg (by rw [hr]; omega)]
    rw [e2]
/-- One way more: what was found is found. -/
theorem more_ways (s0 s1 s2 : Int) (h0 : 1 ≤ s0) (h1 : 1 ≤ s1) : ∀ (us : List S32) (rows rows' : List (List S118)) (H : List Int), Rel s0 s1 rows H → Rel s0 (s1 + 1) rows' H → ∀ (i : Nat) (a b : S36), (runC s0 s1 s2 rows us)[i]? = some a → (runC s0 (s1 + 1) s2 rows' us)[i]? = some b → a.f0 = true → b.f0 = true
  | [], rows, rows', H, hr, hr', i, a, b, ha, _, _ => by simp [runC] at ha
  | u :: us, rows, rows', H, hr, hr', i, a, b, ha, hb, h => by
    obtain ⟨k1, k2, _⟩ := hr.step (s2 := s2) h0 h1 u
    obtain ⟨k1', k2', _⟩ := hr'.step (s2 := s2) h0 (by omega) u
    cases i with
    | zero =>
      simp only [runC, List.getElem?_cons_zero, Option.some.injEq] at ha hb
      subst ha; subst hb
      have hm := k2.1 h
      refine k2'.2 ?_
      rw [show (s1 + 1).toNat = s1.toNat + 1 by omega]
      exact List.mem_of_mem_take (i := s1.toNat) (by rw [List.take_take, Nat.min_eq_left (by omega)]; exact hm)
    | succ i =>
      simp only [runC, List.getElem?_cons_succ] at ha hb
      exact more_ways s0 s1 s2 h0 h1 us _ _ _ k1 k1' i a b ha hb h
/-- The lines of uses. -/
def lines (s2 : Int) (us : List S32) : List Int := us.map (fun u => u.f0 / s2)
theorem at_use (s0 s1 s2 : Int) (h0 : 1 ≤ s0) (h1 : 1 ≤ s1) : ∀ (us : List S32) (rows : List (List S118)) (H : List Int), Rel s0 s1 rows H → ∀ (i : Nat) (a : S36) (u : S32), (runC s0 s1 s2 rows us)[i]? = some a → us[i]? = some u →
    (a.f0 = true ↔ u.f0 / s2 ∈ (stk s0 (u.f0 / s2 % s0) ((lines s2 (us.take i)).reverse ++ H)).take s1.toNat) ∧ a.f1 = false
  | [], rows, H, hr, i, a, u, ha, _ => by simp [runC] at ha
  | v :: us, rows, H, hr, i, a, u, ha, hu => by
    obtain ⟨k1, k2, k3⟩ := hr.step (s2 := s2) h0 h1 v
    cases i with
    | zero =>
      simp only [runC, List.getElem?_cons_zero, Option.some.injEq] at ha hu
      subst ha; subst hu
      exact ⟨by simpa [lines] using k2, k3⟩
    | succ i =>
      simp only [runC, List.getElem?_cons_succ] at ha hu
      have := at_use s0 s1 s2 h0 h1 us _ _ k1 i a u ha hu
      simpa [lines] using this
/-- Looking back for a line: whether it was there, and which other lines of its row came since. -/
def scan (s0 line : Int) : List Int → List Int → Bool × List Int
  | [], O => (false, O)
  | x :: L, O => if x = line then (true, O) else if x % s0 = line % s0 ∧ x ∉ O then scan s0 line L (O ++ [x]) else scan s0 line L O
theorem scan_stk (s0 line : Int) : ∀ (L O : List Int), line ∉ O → scan s0 line L O = (decide (line ∈ stk s0 (line % s0) L), O ++ ((stk s0 (line % s0) L).filter (fun y => !(O.contains y))).takeWhile (fun y => !(y == line)))
  | [], O, _ => by simp [scan, stk]
  | x :: L, O, hO => by
    unfold scan stk
    by_cases hx : x = line
    · subst hx
      have hc : O.contains x = false := by simpa using hO
      rw [if_pos rfl, if_pos rfl, List.filter_cons, hc]
      simp
    · rw [if_neg hx]
      by_cases hr : x % s0 = line % s0
      · rw [if_pos hr]
        have hmem : (line ∈ x :: (stk s0 (line % s0) L).filter (fun y => !(y == x))) ↔ line ∈ stk s0 (line % s0) L := by
          rw [List.mem_cons, List.mem_filter]
          constructor
          · rintro (e | e)
            · exact absurd e.symm hx
            · exact e.1
          · intro e
            exact .inr ⟨e, by simp [Ne.symm hx]⟩
        by_cases hm : x ∈ O
        · have hc : O.contains x = true := by simpa using hm
          rw [if_neg (fun h => h.2 hm), scan_stk s0 line L O hO, decide_eq_decide.2 hmem]
          congr 2
          rw [List.filter_cons, hc]
          simp only [Bool.not_true, Bool.false_eq_true, if_false]
          rw [List.filter_filter]
          congr 1
          apply List.filter_congr
          intro y hy
          by_cases hyx : y = x
          · subst hyx
            rw [hc]
            simp
          · simp [hyx]
        · have hc : O.contains x = false := by simpa using hm
          rw [if_pos ⟨hr, hm⟩, scan_stk s0 line L (O ++ [x]) (by simp [hO, Ne.symm hx]), decide_eq_decide.2 hmem]
          congr 1
          rw [List.append_assoc]
          congr 1
          rw [List.filter_cons, hc]
          simp only [Bool.not_false, if_true]
          rw [List.takeWhile_cons, show (!(x == line)) = true by simp [hx]]
          simp only [if_true, List.singleton_append]
          congr 2
          rw [List.filter_filter]
          apply List.filter_congr
          intro y hy
          by_cases h1 : y = x <;> by_cases h2 : y ∈ O <;> simp [h1, h2]
      · rw [if_neg hr, if_neg (fun h => hr h.1)]
        exact scan_stk s0 line L O hO
theorem mem_take_iff (x : Int) : ∀ (S : List Int) (v : Nat), (x ∈ S.take v) ↔ (x ∈ S ∧ (S.takeWhile (fun y => !(y == x))).length < v)
  | [], v => by simp
  | y :: S, 0 => by simp
  | y :: S, v + 1 => by
    rw [List.take_succ_cons, List.mem_cons, List.takeWhile_cons]
    by_cases h : y = x
    · subst h
      simp
    · rw [show (!(y == x)) = true by simp [h]]
      simp only [if_true, List.length_cons, Nat.add_lt_add_iff_right, List.mem_cons]
      rw [mem_take_iff x S v]
      constructor
      · rintro (e | e)
        · exact absurd e.symm h
        · exact ⟨.inr e.1, e.2⟩
      · rintro ⟨e | e, e2⟩
        · exact absurd e.symm h
        · exact .inr ⟨e, e2⟩
/-- What the law of the latest lines says of a use. -/
theorem cached_iff (s0 line : Int) (v : Nat) (L : List Int) : (line ∈ (stk s0 (line % s0) L).take v) ↔ ((scan s0 line L []).1 = true ∧ (scan s0 line L []).2.length < v) := by
  rw [scan_stk s0 line L [] (by simp), mem_take_iff]
  have e : (stk s0 (line % s0) L).filter (fun y => !(([] : List Int).contains y)) = stk s0 (line % s0) L := by rw [List.filter_eq_self]; intro a _; simp
  rw [e]
  simp
end Go.Proofs.Ytglehilfemfiiaa.PcbR
