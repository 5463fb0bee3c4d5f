/- Plain laws for FnDirty: what one use, and a flush, tell. No program in sight. -/
import Derived.Test.YtglehilfemfiiaaPcaUD
import Derived.Test.YtglehilfemfiiaaMkcUD
import Derived.Test.YtglehilfemfiiaaGUx16D
import Derived.Test.YtglehilfemfiiaaGUx17D
import Derived.Test.YtglehilfemfiiaaGUx18D
import Derived.Test.YtglehilfemfiiaaGUx19D
import Derived.Test.YtglehilfemfiiaaGUx8D
section
namespace Go.Proofs.Ytglehilfemfiiaa.PdaU
open Go.RowKit Go.Proofs.Ytglehilfemfiiaa Go.Proofs.Ytglehilfemfiiaa.GU Go.Proofs.Ytglehilfemfiiaa.Lst Go.Proofs.Ytglehilfemfiiaa.PcaU Go.Proofs.YtglehilfemfiiaaW.PrintWords Go.Proofs.YtglehilfemfiiaaW.PrintLast
theorem rd_get (xs : List S118) (m : Nat) (hm : m < xs.length) : rd_T118 xs (m : Int) = xs[m] := by
  have := rdx_W xs m hm
  rw [List.getElem?_eq_getElem hm] at this
  exact (Option.some.inj this).symm
theorem rd3 (l : List (List S118)) (i : Nat) (hi : i < l.length) : rd_L3 l (i : Int) = l[i] := by
  unfold rd_L3
  rw [Int.toNat_natCast, List.getD_eq_getElem?_getD, List.getElem?_eq_getElem hi]
  rfl
/-- Tags in range. -/
def TagsOk (xs : List S118) : Prop := ∀ x ∈ xs, 0 ≤ x.f0 ∧ x.f0 ≤ 65535
structure InvT (s0 s1 : Int) (rows : List (List S118)) : Prop where
  inv : Inv s0 s1 rows
  tags : ∀ xs ∈ rows, TagsOk xs
theorem dup_no (xs : List S118) (h : (tg xs).Nodup) (i : Nat) (hi : i < xs.length) : dup xs i = false := by
  refine Bool.eq_false_iff.mpr (fun hd => ?_)
  obtain ⟨j, hj, e⟩ := (dup_iff xs i hi).1 hd
  unfold tg List.Nodup at h
  rw [List.pairwise_iff_getElem] at h
  have := h j i (by rw [List.length_map]; omega) (by rw [List.length_map]; omega) hj
  rw [rd_get xs j (by omega), rd_get xs i hi] at e
  exact this (by simpa using e)
theorem l1_true (s0 s1 s2 : Int) (rows : List (List S118)) (n : Int) (r : Nat) (xs : List S118) (hl : xs.length ≤ 10) (hr : r < 1000) (hn : (tg xs).Nodup) (ht : TagsOk xs) (N : Nat)
    (HI : ∀ k, N ≤ k → impl_isCache.l0 k rows n ((r + 1 : Nat) : Int) s0 s1 s2 rows = some true) :
    ∀ (d i : Nat), i ≤ xs.length → xs.length - i = d → ∀ k, N + d + 1 ≤ k → impl_isCache.l1 k xs rows n (r : Int) xs (xs.length : Int) (i : Int) s0 s1 s2 rows = some true
  | 0, i, hi, hd, k, hk => by
    obtain ⟨k, rfl⟩ : ∃ m, k = m + 1 := ⟨k - 1, by omega⟩
    simp only [impl_isCache.l1]
    rw [if_neg (by omega), w1 (by omega)]
    exact HI k (by omega)
  | d + 1, i, hi, hd, k, hk => by
    obtain ⟨k, rfl⟩ : ∃ m, k = m + 1 := ⟨k - 1, by omega⟩
    have hlt : i < xs.length := by omega
    have ca : 0 ≤ (rd_T118 xs (i : Int)).f0 ∧ (rd_T118 xs (i : Int)).f0 ≤ 65535 := by
      rw [rd_get xs i hlt]
      exact ht _ (List.getElem_mem _)
    have hd2 := dup_no xs hn i hlt
    unfold dup at hd2
    have hd3 : ¬ idxW (tagB (rd_T118 xs (i : Int)).f0) xs < (i : Int) := of_decide_eq_false hd2
    simp only [impl_isCache.l1]
    rw [if_pos (by omega), if_pos (by omega), if_pos (by omega), bs (isAddr_eq _), decide_eq_true ca, if_pos rfl]
    unfold impl_wayIndex.f
    rw [Option.bind_some, w1 (by omega), if_neg hd3]
    exact l1_true s0 s1 s2 rows n r xs hl hr hn ht N HI d (i + 1) (by omega) (by omega) k (by omega)
theorem l0_true (s0 s1 s2 : Int) (rows : List (List S118)) (hl : rows.length ≤ 100) (h11 : s1 ≤ 4) (hn : ∀ xs ∈ rows, (tg xs).Nodup) (hw : ∀ xs ∈ rows, (xs.length : Int) ≤ s1) (ht : ∀ xs ∈ rows, TagsOk xs) :
    ∀ (d r : Nat), r ≤ rows.length → rows.length - r = d → ∀ k, 20 * d + 1 ≤ k → impl_isCache.l0 k rows (rows.length : Int) (r : Int) s0 s1 s2 rows = some true
  | 0, r, hr, hd, k, hk => by
    obtain ⟨k, rfl⟩ : ∃ m, k = m + 1 := ⟨k - 1, by omega⟩
    simp only [impl_isCache.l0]
    rw [if_neg (by omega)]
  | d + 1, r, hr, hd, k, hk => by
    obtain ⟨k, rfl⟩ : ∃ m, k = m + 1 := ⟨k - 1, by omega⟩
    have hlt : r < rows.length := by omega
    have hm : rows[r] ∈ rows := List.getElem_mem _
    have hle := hw _ hm
    simp only [impl_isCache.l0]
    rw [if_pos (by omega), if_pos (by omega), if_pos (by omega), rd3 rows r hlt, if_neg (by omega)]
    exact l1_true s0 s1 s2 rows _ r rows[r] (by omega) (by omega) (hn _ hm) (ht _ hm) (20 * d + 1) (fun k hk => l0_true s0 s1 s2 rows hl h11 hn hw ht d (r + 1) (by omega) (by omega) k hk) rows[r].length 0 (by omega) (by omega) k (by omega)
theorem cache_true {s0 s1 s2 : Int} {rows : List (List S118)} (hs : okS s0 s1 s2) (h : InvT s0 s1 rows) (k : Nat) (hk : 5000 ≤ k) : impl_isCache.f k s0 s1 s2 rows = some true := by
  obtain ⟨k, rfl⟩ : ∃ m, k = m + 1 := ⟨k - 1, by omega⟩
  have hlen := h.inv.len
  obtain ⟨ca, cb, cc⟩ := hs
  have hne : ¬ ((rows.length : Int) != s0) = true := by simp [hlen]
  unfold impl_isCache.f
  rw [bs (impl_shape s0 s1 s2), decide_eq_true (show okS s0 s1 s2 from ⟨ca, cb, cc⟩), if_pos rfl]
  simp only [impl_isCache.j0]
  rw [if_neg hne]
  exact l0_true s0 s1 s2 rows (by omega) cb.2 h.inv.nd h.inv.le h.tags rows.length 0 (by omega) (by omega) k (by omega)
/-! Dirty ways. -/
def dn (xs : List S118) : Nat := xs.countP (fun w => w.f1)
def dR : List (List S118) → Nat
  | [] => 0
  | x :: t => dn x + dR t
theorem dR_set : ∀ (rows : List (List S118)) (r : Nat) (l l' : List S118), rows[r]? = some l → dR (rows.set r l') + dn l = dR rows + dn l'
  | [], r, l, l', h => by simp at h
  | x :: t, 0, l, l', h => by
    have : x = l := by simpa using h
    subst this
    simp only [List.set_cons_zero, dR]
    omega
  | x :: t, r + 1, l, l', h => by
    have := dR_set t r l l' (by simpa using h)
    simp only [List.set_cons_succ, dR]
    omega
def b1 (b : Bool) : Nat := if b = true then 1 else 0
theorem dn_cons (x : S118) (l : List S118) : dn (x :: l) = dn l + b1 x.f1 := by
  unfold dn b1
  rw [List.countP_cons]
theorem row_dirty (s1 : Int) (l : List S118) (t : Int) (wr : Bool) : dn (useRow s1 l t wr).2.2 + b1 (useRow s1 l t wr).2.1 ≤ dn l + b1 wr := by
  unfold useRow
  split
  · rename_i i hi
    rw [List.findIdx?_eq_some_iff_getElem] at hi
    obtain ⟨hil, _⟩ := hi
    dsimp only
    have e : dn l = dn (l.eraseIdx i) + b1 l[i].f1 := by
      have e1 : l = l.take i ++ l[i] :: l.drop (i + 1) := by rw [← List.drop_eq_getElem_cons hil, List.take_append_drop]
      have e2 : l.eraseIdx i = l.take i ++ l.drop (i + 1) := List.eraseIdx_eq_take_drop_succ l i
      have e3 : dn l = dn (l.take i ++ l[i] :: l.drop (i + 1)) := congrArg dn e1
      rw [e3, e2]
      unfold dn b1
      rw [List.countP_append, List.countP_append, List.countP_cons]
      omega
    rw [dn_cons, rd_get l i hil, e]
    cases l[i].f1 <;> cases wr <;> simp [b1]
  · split
    · dsimp only
      have hlt : l.length < ((⟨t, wr⟩ : S118) :: l).length := by simp
      have e : dn ((⟨t, wr⟩ : S118) :: l) = dn (((⟨t, wr⟩ : S118) :: l).take l.length) + b1 (((⟨t, wr⟩ : S118) :: l)[l.length]).f1 := by
        have e1 : ((⟨t, wr⟩ : S118) :: l) = ((⟨t, wr⟩ : S118) :: l).take l.length ++ [((⟨t, wr⟩ : S118) :: l)[l.length]] := by
          rw [← List.take_succ_eq_append_getElem hlt, List.take_of_length_le (by simp)]
        conv => lhs; rw [e1]
        unfold dn b1
        rw [List.countP_append, List.countP_singleton]
      rw [rd_get _ l.length hlt, ← e, dn_cons]
      exact Nat.le_refl _
    · dsimp only
      rw [dn_cons]
      simp [b1]
theorem row_tags (s1 : Int) (l : List S118) (t : Int) (wr : Bool) (ht : TagsOk l) (h0 : 0 ≤ t) (h1 : t ≤ 65535) : TagsOk (useRow s1 l t wr).2.2 := by
  have hnew : TagsOk ((⟨t, wr⟩ : S118) :: l) := fun x hx => by
    rcases List.mem_cons.1 hx with rfl | hx
    · exact ⟨h0, h1⟩
    · exact ht x hx
  unfold useRow
  split
  · rename_i i hi
    rw [List.findIdx?_eq_some_iff_getElem] at hi
    obtain ⟨hil, _⟩ := hi
    intro x hx
    rcases List.mem_cons.1 hx with rfl | hx
    · dsimp only
      rw [rd_get l i hil]
      exact ht _ (List.getElem_mem _)
    · exact ht x (List.mem_of_mem_eraseIdx hx)
  · split
    · intro x hx
      exact hnew x (List.mem_of_mem_take hx)
    · exact hnew
theorem row_head (s1 : Int) (l : List S118) (t : Int) (wr : Bool) (h1 : 1 ≤ s1) : idxW (tagB t) (useRow s1 l t wr).2.2 = 0 := by
  have hd : ∀ (x : S118) (m : List S118), x.f0 = t → idxW (tagB t) (x :: m) = 0 := fun x m e => by
    unfold idxW
    rw [List.findIdx?_cons, if_pos (by simp [tagB, e])]
    rfl
  unfold useRow
  split
  · rename_i i hi
    rw [List.findIdx?_eq_some_iff_getElem] at hi
    obtain ⟨hil, hp, _⟩ := hi
    refine hd _ _ ?_
    dsimp only
    rw [rd_get l i hil]
    simpa [tagB] using hp
  · split
    · rename_i hs
      dsimp only
      obtain ⟨m, hm⟩ : ∃ m, l.length = m + 1 := ⟨l.length - 1, by omega⟩
      rw [hm, List.take_succ_cons]
      exact hd _ _ rfl
    · exact hd _ _ rfl
end Go.Proofs.Ytglehilfemfiiaa.PdaU
end
section
namespace Go.Proofs.Ytglehilfemfiiaa.PdbU
open Go.RowKit Go.Proofs.Ytglehilfemfiiaa Go.Proofs.Ytglehilfemfiiaa.GU Go.Proofs.Ytglehilfemfiiaa.Lst Go.Proofs.Ytglehilfemfiiaa.PcaU Go.Proofs.Ytglehilfemfiiaa.PdaU Go.Proofs.YtglehilfemfiiaaW.PrintWords Go.Proofs.YtglehilfemfiiaaW.PrintLast
def runC (s0 s1 s2 : Int) : List (List S118) → List S32 → List S36
  | _, [] => []
  | rows, u :: us => (stepC s0 s1 s2 rows u).1 :: runC s0 s1 s2 (stepC s0 s1 s2 rows u).2 us
def impl_CacheRun.f (s0 s1 s2 : Int) (l : List S32) : Option (List S36) := some (if shapeB s0 s1 s2 = true ∧ l.length ≤ 2000 ∧ l.any badU = false then runC s0 s1 s2 (List.replicate s0.toNat []) l else [])
theorem badU_no {u : S32} (h : badU u = false) : 0 ≤ u.f0 ∧ u.f0 ≤ 65535 := by simpa [badU] using h
theorem run_loop (s0 s1 s2 : Int) (hs : okS s0 s1 s2) (l : List S32) (hl : l.length ≤ 2000) (hb : ∀ u ∈ l, badU u = false) : ∀ (d k i : Nat) (rows : List (List S118)) (acc : List S36), i ≤ l.length → l.length - i = d → d + 61 < k → acc.length = i → Inv s0 s1 rows →
    spec_CacheRun.l1 k l acc (i : Int) s0 s1 s2 rows = some (acc ++ runC s0 s1 s2 rows (l.drop i)) := by
  have hs' : 1 ≤ s0 ∧ s0 ≤ 16 ∧ 1 ≤ s1 ∧ s1 ≤ 4 ∧ 1 ≤ s2 := by unfold okS at hs; omega
  intro d
  induction d with
  | zero =>
    intro k i rows acc hi hd hk ha hI
    obtain ⟨k, rfl⟩ : ∃ m, k = m + 1 := ⟨k - 1, by omega⟩
    have c1 : ¬ (i : Int) < (l.length : Int) := by omega
    simp only [spec_CacheRun.l1]
    rw [if_neg c1, List.drop_eq_nil_of_le (by omega), runC, List.append_nil]
  | succ d ih =>
    intro k i rows acc hi hd hk ha hI
    obtain ⟨k, rfl⟩ : ∃ m, k = m + 1 := ⟨k - 1, by omega⟩
    have hlt : i < l.length := by omega
    have c1 : (i : Int) < (l.length : Int) := by omega
    have c2 : (0 : Int) ≤ (i : Int) := by omega
    have c3 : acc.length < 46912496118442 := by omega
    have hx : rd_T32 l (i : Int) = l[i] := by unfold rd_T32; rw [Int.toNat_natCast, List.getD_eq_getElem?_getD, List.getElem?_eq_getElem hlt]; rfl
    have hu := badU_no (hb l[i] (List.getElem_mem _))
    have hus := use_same s0 s1 s2 rows l[i].f0 l[i].f1 hu.1 hu.2 hs'.1 hs'.2.1 hs'.2.2.1 hs'.2.2.2.1 hs'.2.2.2.2 hI.len hI.nd hI.le k (by omega)
    simp only [spec_CacheRun.l1]
    rw [if_pos c1, if_pos c2, hx, bs hus, if_pos c3, w1 (by omega)]
    refine (ih k (i + 1) _ _ (by omega) (by omega) (by omega) (by simp [ha]) (hI.step hs'.2.2.1 _)).trans ?_
    rw [List.drop_eq_getElem_cons hlt, runC, List.append_assoc]
    rfl
theorem spec_run (s0 s1 s2 : Int) (l : List S32) (hlen : l.length ≤ 9000000000000) (k : Nat) (hk : l.length + 3000 ≤ k) : spec_CacheRun.f k s0 s1 s2 l = impl_CacheRun.f s0 s1 s2 l := by
  unfold spec_CacheRun.f impl_CacheRun.f
  rw [Option.bind_some, bs (spec_shape s0 s1 s2)]
  obtain ⟨k, rfl⟩ : ∃ m, k = m + 1 := ⟨k - 1, by omega⟩
  cases hS : shapeB s0 s1 s2 with
  | false =>
    rw [if_neg (by simp), if_neg (by simp)]
    simp only [spec_CacheRun.j0]
    rw [if_pos trivial]
  | true =>
    have hs : okS s0 s1 s2 := by rw [shapeB_eq] at hS; simpa using hS
    rw [if_pos rfl]
    simp only [spec_CacheRun.j0]
    by_cases hl : l.length ≤ 2000
    · rw [decide_eq_false (by omega), if_neg (by simp)]
      have check : ∀ (d k i : Nat), i ≤ l.length → l.length - i = d → d + 2900 < k → (∀ u ∈ l.take i, badU u = false) → spec_CacheRun.l0 k l [] (i : Int) s0 s1 s2 = some (if l.any badU = false then runC s0 s1 s2 (List.replicate s0.toNat []) l else []) := by
        intro d
        induction d with
        | zero =>
          intro k i hi hd hk hb
          obtain ⟨k, rfl⟩ : ∃ m, k = m + 1 := ⟨k - 1, by omega⟩
          have c1 : ¬ (i : Int) < (l.length : Int) := by omega
          rw [List.take_of_length_le (by omega)] at hb
          have hany : l.any badU = false := by rw [List.any_eq_false]; intro u hu; simp [hb u hu]
          simp only [spec_CacheRun.l0]
          rw [if_neg c1, bs (empty_some s0 s1 s2 hs k (by omega)), if_pos hany]
          have hh := run_loop s0 s1 s2 hs l hl hb l.length k 0 (List.replicate s0.toNat []) [] (Nat.zero_le _) (by omega) (by omega) rfl (Inv.start s0 s1 (by unfold okS at hs; omega) (by unfold okS at hs; omega))
          exact hh
        | succ d ih =>
          intro k i hi hd hk hb
          obtain ⟨k, rfl⟩ : ∃ m, k = m + 1 := ⟨k - 1, by omega⟩
          have hlt : i < l.length := by omega
          have c1 : (i : Int) < (l.length : Int) := by omega
          have c2 : (0 : Int) ≤ (i : Int) := by omega
          have hx : rd_T32 l (i : Int) = l[i] := by unfold rd_T32; rw [Int.toNat_natCast, List.getD_eq_getElem?_getD, List.getElem?_eq_getElem hlt]; rfl
          simp only [spec_CacheRun.l0]
          rw [if_pos c1, if_pos c2, hx, bs (in_eq _ _ _)]
          by_cases hc : 0 ≤ l[i].f0 ∧ l[i].f0 ≤ 65535
          · rw [decide_eq_true hc, if_pos rfl, w1 (by omega)]
            refine ih k (i + 1) (by omega) (by omega) (by omega) (fun u hu => ?_)
            rw [← List.take_append_getElem hlt, List.mem_append] at hu
            rcases hu with hu | hu
            · exact hb u hu
            · rw [List.mem_singleton.1 hu]
              simp [badU, hc]
          · rw [decide_eq_false hc, if_neg (by simp)]
            have hany : ¬ l.any badU = false := by
              rw [List.any_eq_false]
              intro h
              exact h l[i] (List.getElem_mem _) (by simp only [badU, decide_eq_false hc]; rfl)
            rw [if_neg hany]
      refine (check l.length k 0 (Nat.zero_le _) (by omega) (by omega) (fun u hu => by simp at hu)).trans ?_
      by_cases hany : l.any badU = false
      · rw [if_pos hany, if_pos ⟨trivial, hl, hany⟩]
      · rw [if_neg hany, if_neg (fun h => hany h.2.2)]
    · rw [decide_eq_true (by omega), if_pos rfl, if_neg (fun h => hl h.2.1)]
/-- A run of the full length: all addresses are right. -/
theorem run_valid (s0 s1 s2 : Int) (l : List S32) (hl : l.length ≤ 150) (k : Nat) (hk : 4000 ≤ k) : ∃ out, spec_CacheRun.f k s0 s1 s2 l = some out ∧ (out.length = l.length → ∀ u ∈ l, 0 ≤ u.f0 ∧ u.f0 ≤ 65535) := by
  rw [spec_run s0 s1 s2 l (by omega) k (by omega)]
  unfold impl_CacheRun.f
  by_cases c : shapeB s0 s1 s2 = true ∧ l.length ≤ 2000 ∧ l.any badU = false
  · rw [if_pos c]
    refine ⟨_, rfl, fun _ u hu => badU_no ?_⟩
    have := List.any_eq_false.1 c.2.2 u hu
    simpa using this
  · rw [if_neg c]
    refine ⟨_, rfl, fun h u hu => ?_⟩
    have : l = [] := List.eq_nil_of_length_eq_zero h.symm
    subst this
    cases hu
theorem dirty_l1 (rows : List (List S118)) (n : Int) (r : Nat) (xs : List S118) (hl : xs.length ≤ 1000) (hr : r < 1000) (N : Nat) (T C : Nat) (hC : C ≤ 1000000)
    (H : ∀ (c : Nat), c ≤ C → ∀ k, N ≤ k → impl_Cache_dirty.l0 k (c : Int) rows n ((r + 1 : Nat) : Int) = some ((c + T : Nat) : Int)) :
    ∀ (d i c : Nat), i ≤ xs.length → xs.length - i = d → c + d ≤ C → ∀ k, N + d + 1 ≤ k → impl_Cache_dirty.l1 k (c : Int) rows n (r : Int) xs (xs.length : Int) (i : Int) = some ((c + dn (xs.drop i) + T : Nat) : Int)
  | 0, i, c, hi, hd, hc, k, hk => by
    obtain ⟨k, rfl⟩ : ∃ m, k = m + 1 := ⟨k - 1, by omega⟩
    simp only [impl_Cache_dirty.l1]
    rw [if_neg (by omega), w1 (by omega), H c (by omega) k (by omega), List.drop_eq_nil_of_le (by omega)]
    simp [dn]
  | d + 1, i, c, hi, hd, hc, k, hk => by
    obtain ⟨k, rfl⟩ : ∃ m, k = m + 1 := ⟨k - 1, by omega⟩
    have hlt : i < xs.length := by omega
    have e : dn (xs.drop i) = dn (xs.drop (i + 1)) + b1 xs[i].f1 := by rw [List.drop_eq_getElem_cons hlt, dn_cons]
    simp only [impl_Cache_dirty.l1]
    rw [if_pos (by omega), if_pos (by omega), if_pos (by omega), rd_get xs i hlt, e, w1 (n := i) (by omega)]
    cases hf : xs[i].f1 with
    | true =>
      rw [if_pos rfl, w1 (by omega), dirty_l1 rows n r xs hl hr N T C hC H d (i + 1) (c + 1) (by omega) (by omega) (by omega) k (by omega)]
      refine congrArg some ?_
      simp only [b1, if_true]
      omega
    | false =>
      rw [if_neg (by simp), dirty_l1 rows n r xs hl hr N T C hC H d (i + 1) c (by omega) (by omega) (by omega) k (by omega)]
      refine congrArg some ?_
      simp only [b1]
      simp
theorem dn_le (xs : List S118) : dn xs ≤ xs.length := List.countP_le_length
theorem dR_le : ∀ (rows : List (List S118)), dR rows ≤ tot rows
  | [] => Nat.le_refl _
  | x :: t => by
    have := dn_le x
    have := dR_le t
    simp only [dR, tot]
    omega
theorem tot_few (m : Nat) : ∀ (l : List (List S118)), (∀ x ∈ l, x.length ≤ m) → tot l ≤ m * l.length
  | [], _ => by simp [tot]
  | x :: t, h => by
    have h1 := h x List.mem_cons_self
    have h2 := tot_few m t (fun y hy => h y (List.mem_cons_of_mem _ hy))
    simp only [tot, List.length_cons, Nat.mul_succ]
    omega
theorem dirty_l0 (rows : List (List S118)) (hl : rows.length ≤ 100) (hw : ∀ xs ∈ rows, xs.length ≤ 10) :
    ∀ (d r c : Nat), r ≤ rows.length → rows.length - r = d → c ≤ 1000000 - 20 * d → ∀ k, 20 * d + 1 ≤ k → impl_Cache_dirty.l0 k (c : Int) rows (rows.length : Int) (r : Int) = some ((c + dR (rows.drop r) : Nat) : Int)
  | 0, r, c, hr, hd, hc, k, hk => by
    obtain ⟨k, rfl⟩ : ∃ m, k = m + 1 := ⟨k - 1, by omega⟩
    simp only [impl_Cache_dirty.l0]
    rw [if_neg (by omega), List.drop_eq_nil_of_le (by omega)]
    simp [dR]
  | d + 1, r, c, hr, hd, hc, k, hk => by
    obtain ⟨k, rfl⟩ : ∃ m, k = m + 1 := ⟨k - 1, by omega⟩
    have hlt : r < rows.length := by omega
    have hle := hw _ (List.getElem_mem hlt)
    have h1 := dirty_l1 rows (rows.length : Int) r rows[r] (by omega) (by omega) (20 * d + 1) (dR (rows.drop (r + 1))) (1000000 - 20 * d) (by omega) (fun c' hc' k hk => dirty_l0 rows hl hw d (r + 1) c' (by omega) (by omega) hc' k hk) rows[r].length 0 c (by omega) (by omega) (by omega) k (by omega)
    simp only [impl_Cache_dirty.l0]
    rw [if_pos (by omega), if_pos (by omega), if_pos (by omega), rd3 rows r hlt]
    refine h1.trans (congrArg some ?_)
    rw [List.drop_eq_getElem_cons hlt (l := rows), List.drop_zero]
    simp only [dR]
    omega
theorem dirty_f (s0 s1 s2 : Int) (rows : List (List S118)) (hl : rows.length ≤ 100) (hw : ∀ xs ∈ rows, xs.length ≤ 10) (k : Nat) (hk : 3000 ≤ k) : impl_Cache_dirty.f k s0 s1 s2 rows = some (dR rows : Int) := by
  unfold impl_Cache_dirty.f
  have h := dirty_l0 rows hl hw rows.length 0 0 (by omega) (by omega) (by omega) k (by omega)
  rw [List.drop_zero, Nat.zero_add] at h
  exact h
end Go.Proofs.Ytglehilfemfiiaa.PdbU
end
section
namespace Go.Proofs.Ytglehilfemfiiaa.PdcU
open Go.RowKit Go.Proofs.Ytglehilfemfiiaa Go.Proofs.Ytglehilfemfiiaa.GU Go.Proofs.Ytglehilfemfiiaa.Lst Go.Proofs.Ytglehilfemfiiaa.PcaU Go.Proofs.Ytglehilfemfiiaa.PdaU Go.Proofs.Ytglehilfemfiiaa.PdbU Go.Proofs.YtglehilfemfiiaaW.PrintWords Go.Proofs.YtglehilfemfiiaaW.PrintLast
theorem lines_l1 (s0 s1 s2 : Int) (rows : List (List S118)) (n : Int) (r : Nat) (xs : List S118) (hl : xs.length ≤ 1000) (hr : r < 1000) (N T C : Nat) (hC : C ≤ 1000000)
    (H : ∀ (acc : List Int), acc.length ≤ C → ∀ k, N ≤ k → ∃ out, impl_CacheLines.l0 k acc rows n ((r + 1 : Nat) : Int) s0 s1 s2 rows = some out ∧ out.length = acc.length + T) :
    ∀ (d i : Nat) (acc : List Int), i ≤ xs.length → xs.length - i = d → acc.length + d ≤ C → ∀ k, N + d + 1 ≤ k → ∃ out, impl_CacheLines.l1 k acc (r : Int) rows n (r : Int) xs (xs.length : Int) (i : Int) s0 s1 s2 rows = some out ∧ out.length = acc.length + d + T
  | 0, i, acc, hi, hd, hc, k, hk => by
    obtain ⟨k, rfl⟩ : ∃ m, k = m + 1 := ⟨k - 1, by omega⟩
    simp only [impl_CacheLines.l1]
    rw [if_neg (by omega), w1 (by omega)]
    obtain ⟨out, h1, h2⟩ := H acc (by omega) k (by omega)
    exact ⟨out, h1, by omega⟩
  | d + 1, i, acc, hi, hd, hc, k, hk => by
    obtain ⟨k, rfl⟩ : ∃ m, k = m + 1 := ⟨k - 1, by omega⟩
    simp only [impl_CacheLines.l1]
    rw [if_pos (by omega), if_pos (by omega), if_pos (by omega), if_pos (by omega), w1 (n := i) (by omega)]
    obtain ⟨out, h1, h2⟩ := lines_l1 s0 s1 s2 rows n r xs hl hr N T C hC H d (i + 1) (acc ++ [wrap64 (wrap64 ((rd_T118 xs (i : Int)).f0 * s0) + (r : Int))]) (by omega) (by omega) (by simp; omega) k (by omega)
    refine ⟨out, h1, ?_⟩
    rw [h2, List.length_append, List.length_singleton]
    omega
theorem lines_l0 (s0 s1 s2 : Int) (rows : List (List S118)) (hl : rows.length ≤ 100) (hw : ∀ xs ∈ rows, xs.length ≤ 10) :
    ∀ (d r : Nat) (acc : List Int), r ≤ rows.length → rows.length - r = d → acc.length ≤ 1000000 - 20 * d → ∀ k, 20 * d + 1 ≤ k → ∃ out, impl_CacheLines.l0 k acc rows (rows.length : Int) (r : Int) s0 s1 s2 rows = some out ∧ out.length = acc.length + tot (rows.drop r)
  | 0, r, acc, hr, hd, hc, k, hk => by
    obtain ⟨k, rfl⟩ : ∃ m, k = m + 1 := ⟨k - 1, by omega⟩
    simp only [impl_CacheLines.l0]
    unfold slices_Sort_int_int.f
    rw [if_neg (by omega), if_pos (by omega), Option.bind_some, List.drop_eq_nil_of_le (by omega)]
    exact ⟨_, rfl, by rw [sortI_len]; simp [tot]⟩
  | d + 1, r, acc, hr, hd, hc, k, hk => by
    obtain ⟨k, rfl⟩ : ∃ m, k = m + 1 := ⟨k - 1, by omega⟩
    have hlt : r < rows.length := by omega
    have hle := hw _ (List.getElem_mem hlt)
    obtain ⟨out, h1, h2⟩ := lines_l1 s0 s1 s2 rows (rows.length : Int) r rows[r] (by omega) (by omega) (20 * d + 1) (tot (rows.drop (r + 1))) (1000000 - 20 * d) (by omega) (fun acc' hc' k hk => lines_l0 s0 s1 s2 rows hl hw d (r + 1) acc' (by omega) (by omega) hc' k hk) rows[r].length 0 acc (by omega) (by omega) (by omega) k (by omega)
    simp only [impl_CacheLines.l0]
    rw [if_pos (by omega), if_pos (by omega), if_pos (by omega), rd3 rows r hlt]
    refine ⟨out, h1, ?_⟩
    rw [h2, List.drop_eq_getElem_cons hlt (l := rows)]
    simp only [tot]
    omega
theorem lines_f {s0 s1 s2 : Int} {rows : List (List S118)} (hs : okS s0 s1 s2) (h : InvT s0 s1 rows) (k : Nat) (hk : 5000 ≤ k) : ∃ out, impl_CacheLines.f k s0 s1 s2 rows = some out ∧ out.length = tot rows := by
  unfold impl_CacheLines.f
  rw [bs (cache_true hs h k hk), if_pos rfl]
  obtain ⟨ca, cb, cc⟩ := hs
  have hlen := h.inv.len
  obtain ⟨out, h1, h2⟩ := lines_l0 s0 s1 s2 rows (by omega) (fun xs hx => by have := h.inv.le xs hx; omega) rows.length 0 [] (by omega) (by omega) (by simp) k (by omega)
  rw [List.drop_zero] at h2
  exact ⟨out, h1, by simpa using h2⟩
theorem step_inv {s0 s1 s2 : Int} {rows : List (List S118)} (hs : okS s0 s1 s2) (h : InvT s0 s1 rows) (a : Int) (wr : Bool) (ha : 0 ≤ a) (ha2 : a ≤ 65535) : InvT s0 s1 (useC s0 s1 s2 rows a wr).2.2 := by
  obtain ⟨ca, cb, cc⟩ := hs
  refine ⟨h.inv.step (s2 := s2) (by omega) ⟨a, wr⟩, fun xs hx => ?_⟩
  obtain ⟨_, hq0, hq1⟩ := tdiv_pos ha ha2 (show 1 ≤ s2 by omega)
  obtain ⟨_, hq2, hq3⟩ := tdiv_pos hq0 hq1 (show 1 ≤ s0 by omega)
  unfold useC at hx
  dsimp only at hx
  rcases List.mem_or_eq_of_mem_set hx with hx | rfl
  · exact h.tags xs hx
  · refine row_tags s1 _ _ _ ?_ hq2 hq3
    rw [List.getD_eq_getElem?_getD]
    cases hr : rows[(a / s2 % s0).toNat]? with
    | none => intro x hx; simp at hx
    | some l => exact h.tags l (List.mem_of_getElem? hr)
end Go.Proofs.Ytglehilfemfiiaa.PdcU
end
section
namespace Go.Proofs.Ytglehilfemfiiaa.PddU
open Go.RowKit Go.Proofs.Ytglehilfemfiiaa Go.Proofs.Ytglehilfemfiiaa.GU Go.Proofs.Ytglehilfemfiiaa.Lst Go.Proofs.Ytglehilfemfiiaa.PcaU Go.Proofs.Ytglehilfemfiiaa.PdaU Go.Proofs.Ytglehilfemfiiaa.PdbU Go.Proofs.Ytglehilfemfiiaa.PdcU Go.Proofs.YtglehilfemfiiaaW.PrintWords Go.Proofs.YtglehilfemfiiaaW.PrintLast
theorem use_some {s0 s1 s2 : Int} {rows : List (List S118)} (hs : okS s0 s1 s2) (h : InvT s0 s1 rows) (a : Int) (wr : Bool) (ha : 0 ≤ a) (ha2 : a ≤ 65535) (k : Nat) (hk : 5000 ≤ k) :
    impl_CacheUse.f k s0 s1 s2 rows a wr = some (s0, s1, s2, (useC s0 s1 s2 rows a wr).2.2, (useC s0 s1 s2 rows a wr).1, (useC s0 s1 s2 rows a wr).2.1) := by
  have hct := cache_true hs h k hk
  obtain ⟨ca, cb, cc⟩ := hs
  have h3 : ∀ x ∈ rows, x.length < 900 := fun x hx => by have := h.inv.le x hx; omega
  have h4 := h.inv.len
  unfold impl_CacheUse.f
  rw [bs hct, if_pos ⟨rfl, ha, ha2⟩, if_pos ⟨by omega, by omega, h4, by omega, h3⟩]
theorem use_dirty {s0 s1 s2 : Int} {rows : List (List S118)} (hs : okS s0 s1 s2) (h : InvT s0 s1 rows) (a : Int) (wr : Bool) : dR (useC s0 s1 s2 rows a wr).2.2 + b1 (useC s0 s1 s2 rows a wr).2.1 ≤ dR rows + b1 wr := by
  obtain ⟨ca, cb, cc⟩ := hs
  have h4 := h.inv.len
  have hm0 : 0 ≤ a / s2 % s0 := Int.emod_nonneg _ (by omega)
  have hm1 : a / s2 % s0 < s0 := Int.emod_lt_of_pos _ (by omega)
  have hr : (a / s2 % s0).toNat < rows.length := by omega
  have hg : rows.getD (a / s2 % s0).toNat [] = rows[(a / s2 % s0).toNat] := by rw [List.getD_eq_getElem?_getD, List.getElem?_eq_getElem hr]; rfl
  unfold useC
  dsimp only
  rw [hg]
  have h1 := dR_set rows (a / s2 % s0).toNat rows[(a / s2 % s0).toNat] (useRow s1 rows[(a / s2 % s0).toNat] (a / s2 / s0) wr).2.2 (List.getElem?_eq_getElem hr)
  have h2 := row_dirty s1 rows[(a / s2 % s0).toNat] (a / s2 / s0) wr
  omega
theorem ok_some {s0 s1 s2 : Int} {rows : List (List S118)} (hs : okS s0 s1 s2) (h : InvT s0 s1 rows) (k : Nat) (hk : 5000 ≤ k) : impl_CacheOk.f k s0 s1 s2 rows = some true := by
  unfold impl_CacheOk.f
  rw [bs (cache_true hs h k hk)]
theorem holds_some {s0 s1 s2 : Int} {rows : List (List S118)} (hs : okS s0 s1 s2) (h : InvT s0 s1 rows) (a : Int) (wr : Bool) (ha : 0 ≤ a) (ha2 : a ≤ 65535) (k : Nat) (hk : 5000 ≤ k) :
    impl_CacheHolds.f k s0 s1 s2 (useC s0 s1 s2 rows a wr).2.2 a = some true := by
  have hct := cache_true hs (step_inv hs h a wr ha ha2) k hk
  obtain ⟨ca, cb, cc⟩ := hs
  have h4 := h.inv.len
  have hm0 : 0 ≤ a / s2 % s0 := Int.emod_nonneg _ (by omega)
  have hm1 : a / s2 % s0 < s0 := Int.emod_lt_of_pos _ (by omega)
  have hr : (a / s2 % s0).toNat < rows.length := by omega
  obtain ⟨e1, hq0, hq1⟩ := tdiv_pos ha ha2 (show 1 ≤ s2 by omega)
  obtain ⟨e2, hq2, hq3⟩ := tdiv_pos hq0 hq1 (show 1 ≤ s0 by omega)
  have e3 : Int.tmod (wrap64 (Int.tdiv a s2)) s0 = a / s2 % s0 := by rw [e1, Int.tmod_eq_emod_of_nonneg hq0]
  have e4 : rd_L3 (useC s0 s1 s2 rows a wr).2.2 (a / s2 % s0) = (useRow s1 (rows.getD (a / s2 % s0).toNat []) (a / s2 / s0) wr).2.2 := by
    unfold useC rd_L3
    dsimp only
    rw [List.getD_eq_getElem?_getD, List.getElem?_set_self hr]
    rfl
  have hl : (useC s0 s1 s2 rows a wr).2.2.length = rows.length := by unfold useC; dsimp only; rw [List.length_set]
  have hf : impl_Cache_find.f s0 s1 s2 (useC s0 s1 s2 rows a wr).2.2 a = some (a / s2 % s0, 0) := by
    unfold impl_Cache_find.f
    rw [e3, if_pos ⟨by omega, by omega, hm0, by rw [hl]; omega⟩, e4, e1, e2, row_head s1 _ _ _ cb.1]
  unfold impl_CacheHolds.f
  rw [bs hct, if_pos rfl, bs (isAddr_eq a), decide_eq_true ⟨ha, ha2⟩, if_pos rfl, bs hf]
  dsimp only
  rw [if_pos (by decide), decide_eq_true (show a / s2 % s0 ≥ 0 from hm0)]
theorem new_some {s0 s1 s2 : Int} (hs : okS s0 s1 s2) : impl_newCache.f s0 s1 s2 = some (s0, s1, s2, List.replicate s0.toNat []) := by
  obtain ⟨ca, _, _⟩ := hs
  unfold impl_newCache.f
  rw [if_pos (by omega), if_pos (by omega)]
theorem empty_inv {s0 s1 s2 : Int} (hs : okS s0 s1 s2) : InvT s0 s1 (List.replicate s0.toNat []) := by
  obtain ⟨ca, cb, _⟩ := hs
  exact ⟨Inv.start s0 s1 (by omega) (by omega), fun xs hx => by rw [List.eq_of_mem_replicate hx]; intro x hx; cases hx⟩
theorem cempty_some {s0 s1 s2 : Int} (hs : okS s0 s1 s2) : impl_CacheEmpty.f s0 s1 s2 = some (s0, s1, s2, List.replicate s0.toNat []) := by
  unfold impl_CacheEmpty.f
  rw [bs (impl_shape s0 s1 s2), decide_eq_true hs, if_pos rfl, bs (new_some hs)]
theorem flush_some {s0 s1 s2 : Int} {rows : List (List S118)} (hs : okS s0 s1 s2) (h : InvT s0 s1 rows) (k : Nat) (hk : 5000 ≤ k) : impl_CacheFlush.f k s0 s1 s2 rows = some (s0, s1, s2, List.replicate s0.toNat [], (dR rows : Int)) := by
  have hct := cache_true hs h k hk
  have hnew := new_some hs
  obtain ⟨ca, cb, cc⟩ := hs
  have hlen := h.inv.len
  unfold impl_CacheFlush.f
  rw [bs hct, if_pos rfl, bs hnew, bs (dirty_f s0 s1 s2 rows (by omega) (fun xs hx => by have := h.inv.le xs hx; omega) k (by omega))]
theorem worst_some {s0 s1 s2 : Int} (hs : okS s0 s1 s2) : impl_WorstDirty.f s0 s1 s2 = some (s0 * s1) := by
  unfold impl_WorstDirty.f
  rw [bs (impl_shape s0 s1 s2), decide_eq_true hs, if_pos rfl]
  obtain ⟨ca, cb, _⟩ := hs
  have h1 : 0 ≤ s0 * s1 := Int.mul_nonneg (by omega) (by omega)
  have h2 : s0 * s1 ≤ 16 * 4 := Int.mul_le_mul (by omega) cb.2 (by omega) (by omega)
  rw [wr (by omega) (by omega)]
theorem tot_worst {s0 s1 : Int} {rows : List (List S118)} (h0 : 1 ≤ s1) (h : InvT s0 s1 rows) : (tot rows : Int) ≤ s0 * s1 := by
  have h1 := tot_few s1.toNat rows (fun x hx => by have := h.inv.le x hx; omega)
  have h2 : ((s1.toNat * rows.length : Nat) : Int) = s0 * s1 := by
    rw [Int.natCast_mul, h.inv.len, Int.toNat_of_nonneg (by omega), Int.mul_comm]
  omega
theorem tot_empty : ∀ (n : Nat), tot (List.replicate n []) = 0
  | 0 => rfl
  | n + 1 => by simp [List.replicate_succ, tot, tot_empty n]
end Go.Proofs.Ytglehilfemfiiaa.PddU
end
