/- The pure statement of the law FnRecent: a drawn use finds its line in the cache just when since the last use of that line fewer than Ways other lines of its row were used. No condition. -/
import Derived.Test.YtglehilfemfiiaaPcbR
import Derived.Test.YtglehilfemfiiaaDrtR
import Derived.Test.YtglehilfemfiiaaGRx14
namespace Go.Proofs.Ytglehilfemfiiaa.Pure
open Go.RowKit Go.Proofs.Ytglehilfemfiiaa Go.Proofs.Ytglehilfemfiiaa.GR Go.Proofs.Ytglehilfemfiiaa.PcaR Go.Proofs.Ytglehilfemfiiaa.PcbR Go.Proofs.Ytglehilfemfiiaa.Lst Go.Proofs.YtglehilfemfiiaaW.PrintWords Go.Proofs.YtglehilfemfiiaaW.PrintLast
theorem runC_lenR (s0 s1 s2 : Int) : ∀ (us : List S32) (rows : List (List S118)), (runC s0 s1 s2 rows us).length = us.length
  | [], _ => rfl
  | u :: us, rows => by rw [runC, List.length_cons, runC_lenR s0 s1 s2 us, List.length_cons]
theorem rd36_atR (l : List S36) (i : Nat) (h : i < l.length) : l[i]? = some (rd_T36 l (i : Int)) := by
  unfold rd_T36
  rw [Int.toNat_natCast, List.getD_eq_getElem?_getD, List.getElem?_eq_getElem h]
  rfl
theorem rd32_atR (l : List S32) (i : Nat) (h : i < l.length) : l[i]? = some (rd_T32 l (i : Int)) := by
  unfold rd_T32
  rw [Int.toNat_natCast, List.getD_eq_getElem?_getD, List.getElem?_eq_getElem h]
  rfl
theorem has_f (O : List Int) (x : Int) (hO : O.length ≤ 1000) (k : Nat) (hk : O.length < k) : laws_has.f k O x = some (decide (x ∈ O)) := by
  have loop : ∀ (d k i : Nat), i ≤ O.length → O.length - i = d → d < k → laws_has.l0 k O x (i : Int) = some (decide (x ∈ O.drop i)) := by
    intro d
    induction d with
    | zero =>
      intro k i hi hd hk
      obtain ⟨k, rfl⟩ : ∃ m, k = m + 1 := ⟨k - 1, by omega⟩
      have c1 : ¬ (i : Int) < (O.length : Int) := by omega
      simp only [laws_has.l0]
      rw [if_neg c1, List.drop_eq_nil_of_le (by omega)]
      simp
    | succ d ih =>
      intro k i hi hd hk
      obtain ⟨k, rfl⟩ : ∃ m, k = m + 1 := ⟨k - 1, by omega⟩
      have hlt : i < O.length := by omega
      have c1 : (i : Int) < (O.length : Int) := by omega
      have c2 : (0 : Int) ≤ (i : Int) := by omega
      have hr : rd O (i : Int) = O[i] := by unfold rd; rw [Int.toNat_natCast, List.getD_eq_getElem?_getD, List.getElem?_eq_getElem hlt]; rfl
      have hn := ih k (i + 1) (by omega) (by omega) (by omega)
      simp only [laws_has.l0]
      rw [if_pos c1, if_pos c2, w1 (by omega), hn, hr, List.drop_eq_getElem_cons hlt]
      by_cases hx : O[i] = x
      · rw [if_pos hx]
        simp [hx]
      · rw [if_neg hx]
        congr 1
        rw [decide_eq_decide, List.mem_cons]
        constructor
        · exact fun h => .inr h
        · rintro (h | h)
          · exact absurd h.symm hx
          · exact h
  have := loop O.length k 0 (Nat.zero_le _) (by omega) (by omega)
  exact this
section
variable (s0 s1 s2 : Int) (us : List S32) (xs : List S36)
theorem td (a : Int) (h0 : 0 ≤ a) (h1 : a ≤ 65535) (h2 : 1 ≤ s2) : wrap64 (Int.tdiv a s2) = a / s2 := (tdiv_pos h0 h1 h2).1
/-- Looking back in the law's own loop: j uses are left to look at. -/
theorem back_loop (hs : okS s0 s1 s2) (hu : us.length ≤ 2000) (hx : xs.length = us.length) (hb : ∀ u ∈ us, 0 ≤ u.f0 ∧ u.f0 ≤ 65535) (i : Nat) (hi : i < us.length) (line : Int) (hl0 : 0 ≤ line) (F : Nat) (R : Option Bool)
    (hF : ∀ k, F ≤ k → laws_FnRecent.l0 k us xs ((i + 1 : Nat) : Int) s0 s1 s2 = R)
    (hk1 : (rd_T36 xs (i : Int)).f1 = false) :
    ∀ (j k : Nat) (O : List Int), j ≤ i → i ≤ 200 → O.length + j ≤ 300 → F + j + 400 ≤ k →
    ((rd_T36 xs (i : Int)).f0 = true ↔ ((scan s0 line (lines s2 (us.take j)).reverse O).1 = true ∧ ((scan s0 line (lines s2 (us.take j)).reverse O).2.length : Int) < s1)) →
    laws_FnRecent.l1 k us xs (i : Int) line false O ((j : Int) - 1) s0 s1 s2 = R := by
  have hs' : 1 ≤ s0 ∧ 1 ≤ s2 := by unfold okS at hs; omega
  intro j
  induction j with
  | zero =>
    intro k O hj hi2 hO hk h
    obtain ⟨k, rfl⟩ : ∃ m, k = m + 1 := ⟨k - 1, by omega⟩
    have c1 : ¬ (((0 : Nat) : Int) - 1 ≥ 0) := by omega
    have c2 : (0 : Int) ≤ (i : Int) := by omega
    have c3 : (i : Int) < (xs.length : Int) := by omega
    have hn := hF k (by omega)
    have h' : (rd_T36 xs (i : Int)).f0 = false := by
      cases hc : (rd_T36 xs (i : Int)).f0 with
      | false => rfl
      | true => rw [hc] at h; simp [lines, scan] at h
    simp only [laws_FnRecent.l1]
    rw [if_neg c1, if_pos c2, if_pos c3, h', hk1, w1 (by omega), hn]
    rfl
  | succ j ih =>
    intro k O hj hi2 hO hk h
    obtain ⟨k, rfl⟩ : ∃ m, k = m + 1 := ⟨k - 1, by omega⟩
    have e1 : ((j + 1 : Nat) : Int) - 1 = (j : Int) := by omega
    have hjl : j < us.length := by omega
    have c1 : (j : Int) ≥ 0 := by omega
    have c2 : (0 : Int) ≤ (i : Int) := by omega
    have c3 : (i : Int) < (xs.length : Int) := by omega
    have c4 : (j : Int) < (us.length : Int) := by omega
    have c5 : ¬ s2 = 0 := by omega
    have c6 : ¬ s0 = 0 := by omega
    have hr : rd_T32 us (j : Int) = us[j] := by unfold rd_T32; rw [Int.toNat_natCast, List.getD_eq_getElem?_getD, List.getElem?_eq_getElem hjl]; rfl
    have hbj := hb us[j] (List.getElem_mem _)
    have hq := tdiv_pos hbj.1 hbj.2 hs'.2
    have hw : wrap64 ((j : Int) - 1) = (j : Int) - 1 := wr (by omega) (by omega)
    have hlr : (lines s2 (us.take (j + 1))).reverse = us[j].f0 / s2 :: (lines s2 (us.take j)).reverse := by
      unfold lines
      rw [← List.take_append_getElem hjl, List.map_append, List.reverse_append]
      rfl
    rw [hlr] at h
    unfold scan at h
    rw [e1]
    simp only [laws_FnRecent.l1]
    rw [if_pos c1, if_pos c1, if_pos c4, if_neg c5, hr, hq.1]
    generalize us[j].f0 / s2 = x at h hq ⊢
    by_cases hx1 : x = line
    · rw [if_pos hx1] at h ⊢
      rw [if_pos c2, if_pos c3]
      have hd : (rd_T36 xs (i : Int)).f0 = decide ((O.length : Int) < s1) := by
        rw [Bool.eq_iff_iff, h]
        simp
      have hn := hF k (by omega)
      rw [hd, hk1, w1 (by omega), hn]
      simp
    · rw [if_neg hx1] at h ⊢
      rw [if_neg c6, Int.tmod_eq_emod_of_nonneg hq.2.1, Int.tmod_eq_emod_of_nonneg hl0, hw]
      by_cases hx2 : x % s0 = line % s0
      · rw [if_pos hx2, bs (has_f O x (by omega) k (by omega))]
        by_cases hx3 : x ∈ O
        · rw [if_neg (fun z => z.2 hx3)] at h
          rw [decide_eq_true hx3, if_pos rfl]
          exact ih k O (by omega) hi2 (by omega) (by omega) h
        · rw [if_pos ⟨hx2, hx3⟩] at h
          have c7 : O.length < 17592186044416 := by omega
          rw [decide_eq_false hx3, if_neg (by simp), if_pos c7]
          exact ih k (O ++ [x]) (by omega) hi2 (by simp; omega) (by omega) h
      · rw [if_neg (fun z => hx2 z.1)] at h
        rw [if_neg hx2]
        exact ih k O (by omega) hi2 (by omega) (by omega) h
end
theorem FnRecent : ∀ (l0 : List Int), (l0.length ≤ maxLen ∧ ∀ x ∈ l0, (Lit.int .u8 x).wf = true) → ∃ k, GR.laws_FnRecent.f k l0 = some true := by
  intro l hl
  obtain ⟨K, hK⟩ : ∃ K : Nat, K = 200000 := ⟨_, rfl⟩
  refine ⟨K + 1, ?_⟩
  unfold laws_FnRecent.f laws_big.f
  rw [Option.bind_some]
  by_cases hbig : (l.length : Int) > 1048576
  · rw [decide_eq_true hbig, if_pos rfl]
  · rw [decide_eq_false hbig, if_neg (by simp)]
    obtain ⟨s0, s1, s2, us, he, hul⟩ := DrtR.run_some l (by omega) (K + 1) (by omega)
    rw [bs he]
    dsimp only
    obtain ⟨xs, hxs⟩ : ∃ xs, impl_CacheRun.f s0 s1 s2 us = some xs := ⟨_, rfl⟩
    have hsp : spec_CacheRun.f (K + 1) s0 s1 s2 us = some xs := (spec_run s0 s1 s2 us (by omega) (K + 1) (by omega)).trans hxs
    rw [bs hxs, bs hsp, if_pos rfl]
    unfold impl_CacheRun.f at hxs
    replace hxs := Option.some.inj hxs
    have stop : ∀ (k : Nat) (i : Nat), 2 ≤ k → i ≤ 5000 → (¬ i < xs.length ∨ ¬ i < 120) → laws_FnRecent.l0 k us xs (i : Int) s0 s1 s2 = some true := by
      intro k i hk hi h
      obtain ⟨k, rfl⟩ : ∃ m, k = m + 2 := ⟨k - 2, by omega⟩
      simp only [laws_FnRecent.l0]
      by_cases hx : (i : Int) < (xs.length : Int)
      · rw [if_pos hx, decide_eq_false (by omega)]
        simp only [laws_FnRecent.j1]
        rw [if_neg (by simp)]
      · rw [if_neg hx]
        simp only [laws_FnRecent.j1]
        rw [if_neg (by simp)]
    by_cases hc : shapeB s0 s1 s2 = true ∧ us.length ≤ 2000 ∧ us.any badU = false
    · rw [if_pos hc] at hxs
      obtain ⟨hs, hu1, hu2⟩ := hc
      have hok : okS s0 s1 s2 := by rw [shapeB_eq] at hs; simpa using hs
      have hb1 : 1 ≤ s0 ∧ 1 ≤ s1 ∧ 1 ≤ s2 := by unfold okS at hok; omega
      have hxl : xs.length = us.length := by rw [← hxs, runC_lenR]
      have hub : ∀ u ∈ us, 0 ≤ u.f0 ∧ u.f0 ≤ 65535 := fun u hu => badU_no (by rw [List.any_eq_false] at hu2; simpa using hu2 u hu)
      have loop : ∀ (d k i : Nat), i ≤ 120 → 120 - i = d → d * 1000 + 1000 ≤ k → laws_FnRecent.l0 k us xs (i : Int) s0 s1 s2 = some true := by
        intro d
        induction d with
        | zero =>
          intro k i hi hd hk
          exact stop k i (by omega) (by omega) (.inr (by omega))
        | succ d ih =>
          intro k i hi hd hk
          by_cases hx : i < xs.length
          · obtain ⟨k, rfl⟩ : ∃ m, k = m + 2 := ⟨k - 2, by omega⟩
            have c1 : (i : Int) < (xs.length : Int) := by omega
            have c2 : (0 : Int) ≤ (i : Int) := by omega
            have c3 : (i : Int) < (us.length : Int) := by omega
            have c5 : ¬ s2 = 0 := by omega
            have hil : i < us.length := by omega
            have hr : rd_T32 us (i : Int) = us[i] := by unfold rd_T32; rw [Int.toNat_natCast, List.getD_eq_getElem?_getD, List.getElem?_eq_getElem hil]; rfl
            have hbi := hub us[i] (List.getElem_mem _)
            have hq := tdiv_pos hbi.1 hbi.2 hb1.2.2
            have hw : wrap64 ((i : Int) - 1) = (i : Int) - 1 := wr (by omega) (by omega)
            have hat := at_use s0 s1 s2 hb1.1 hb1.2.1 us _ [] (Rel.start s0 s1 (by omega) (by omega)) i _ us[i] (by rw [hxs]; exact rd36_atR xs i hx) (List.getElem?_eq_getElem hil)
            simp only [laws_FnRecent.l0]
            rw [if_pos c1, decide_eq_true (by omega)]
            simp only [laws_FnRecent.j1]
            rw [if_pos trivial, if_pos c2, if_pos c3, if_neg c5, hr, hq.1, hw]
            refine back_loop s0 s1 s2 us xs hok hu1 hxl hub i hil _ hq.2.1 (d * 1000 + 1000) (some true) (fun k hk => ih k (i + 1) (by omega) (by omega) hk) hat.2 i k [] (Nat.le_refl _) (by omega) (by simp; omega) (by omega) ?_
            rw [hat.1, List.append_nil, cached_iff]
            constructor
            · rintro ⟨h1, h2⟩
              exact ⟨h1, by omega⟩
            · rintro ⟨h1, h2⟩
              exact ⟨h1, by omega⟩
          · exact stop k i (by omega) (by omega) (.inl hx)
      exact loop 120 (K + 1) 0 (by omega) (by omega) (by omega)
    · rw [if_neg hc] at hxs
      subst hxs
      exact stop (K + 1) 0 (by omega) (by omega) (.inl (by simp))
end Go.Proofs.Ytglehilfemfiiaa.Pure
