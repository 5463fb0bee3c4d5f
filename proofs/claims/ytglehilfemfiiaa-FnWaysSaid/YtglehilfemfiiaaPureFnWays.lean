/- The pure statement of the law FnWays: with one way more a drawn use that found its line finds it still. No condition. -/
import Derived.Test.YtglehilfemfiiaaPcbR
import Derived.Test.YtglehilfemfiiaaDrtR
import Derived.Test.YtglehilfemfiiaaGRx15
namespace Go.Proofs.Ytglehilfemfiiaa.Pure
open Go.RowKit Go.Proofs.Ytglehilfemfiiaa Go.Proofs.Ytglehilfemfiiaa.GR Go.Proofs.Ytglehilfemfiiaa.PcaR Go.Proofs.Ytglehilfemfiiaa.PcbR Go.Proofs.Ytglehilfemfiiaa.Lst Go.Proofs.YtglehilfemfiiaaW.PrintWords Go.Proofs.YtglehilfemfiiaaW.PrintLast
theorem runC_lenW (s0 s1 s2 : Int) : ∀ (us : List S32) (rows : List (List S118)), (runC s0 s1 s2 rows us).length = us.length
  | [], _ => rfl
  | u :: us, rows => by rw [runC, List.length_cons, runC_lenW s0 s1 s2 us, List.length_cons]
theorem rd36_at (l : List S36) (i : Nat) (h : i < l.length) : l[i]? = some (rd_T36 l (i : Int)) := by
  unfold rd_T36
  rw [Int.toNat_natCast, List.getD_eq_getElem?_getD, List.getElem?_eq_getElem h]
  rfl
theorem ways_loop (xs ys : List S36) (hl : xs.length ≤ 2000) (he : ys.length = xs.length) (h : ∀ (i : Nat) (a b : S36), xs[i]? = some a → ys[i]? = some b → a.f0 = true → b.f0 = true) : ∀ (d k i : Nat), i ≤ xs.length → xs.length - i = d → d < k → laws_FnWays.l0 k xs ys (i : Int) = some true := by
  intro d
  induction d with
  | zero =>
    intro k i hi hd hk
    obtain ⟨k, rfl⟩ : ∃ m, k = m + 1 := ⟨k - 1, by omega⟩
    have c1 : ¬ (i : Int) < (xs.length : Int) := by omega
    simp only [laws_FnWays.l0]
    rw [if_neg c1]
  | succ d ih =>
    intro k i hi hd hk
    obtain ⟨k, rfl⟩ : ∃ m, k = m + 1 := ⟨k - 1, by omega⟩
    have c1 : (i : Int) < (xs.length : Int) := by omega
    have c2 : (0 : Int) ≤ (i : Int) := by omega
    have c3 : (i : Int) < (ys.length : Int) := by omega
    have hn := ih k (i + 1) (by omega) (by omega) (by omega)
    simp only [laws_FnWays.l0]
    rw [if_pos c1, if_pos c2, w1 (by omega), hn]
    by_cases hx : (rd_T36 xs (i : Int)).f0 = true
    · rw [if_pos hx, if_pos c3, if_pos (h i _ _ (rd36_at xs i (by omega)) (rd36_at ys i (by omega)) hx)]
    · rw [if_neg hx]
theorem FnWays : ∀ (l0 : List Int), (l0.length ≤ maxLen ∧ ∀ x ∈ l0, (Lit.int .u8 x).wf = true) → ∃ k, GR.laws_FnWays.f k l0 = some true := by
  intro l hl
  obtain ⟨K, hK⟩ : ∃ K : Nat, K = 100000 := ⟨_, rfl⟩
  refine ⟨K + 1, ?_⟩
  unfold laws_FnWays.f laws_big.f
  rw [Option.bind_some]
  by_cases hbig : (l.length : Int) > 1048576
  · rw [decide_eq_true hbig, if_pos rfl]
  · rw [decide_eq_false hbig, if_neg (by simp)]
    obtain ⟨s0, s1, s2, us, he, hul⟩ := DrtR.run_some l (by omega) (K + 1) (by omega)
    rw [bs he]
    dsimp only
    obtain ⟨xs, hxs⟩ : ∃ xs, impl_CacheRun.f s0 s1 s2 us = some xs := ⟨_, rfl⟩
    have hsp : spec_CacheRun.f (K + 1) s0 s1 s2 us = some xs := (spec_run s0 s1 s2 us (by omega) (K + 1) (by omega)).trans hxs
    rw [bs hxs, bs hsp, if_pos rfl]
    by_cases h0 : (xs.length : Int) = 0
    · rw [if_pos h0]
      simp only [laws_FnWays.j0]
      rw [if_pos trivial]
    · rw [if_neg h0]
      simp only [laws_FnWays.j0]
      by_cases h4 : s1 = 4
      · rw [if_pos (by simp [h4])]
      · rw [if_neg (by simpa using h4)]
        unfold impl_CacheRun.f at hxs
        replace hxs := Option.some.inj hxs
        by_cases hc : shapeB s0 s1 s2 = true ∧ us.length ≤ 2000 ∧ us.any badU = false
        · rw [if_pos hc] at hxs
          obtain ⟨hs, hu1, hu2⟩ := hc
          have hok : okS s0 s1 s2 := by rw [shapeB_eq] at hs; simpa using hs
          have hok2 : okS s0 (s1 + 1) s2 := by unfold okS at hok ⊢; omega
          have hw : wrap64 (s1 + 1) = s1 + 1 := by unfold okS at hok; exact wr (by omega) (by omega)
          have hs2 : shapeB s0 (s1 + 1) s2 = true := by rw [shapeB_eq]; simpa using hok2
          have hb1 : 1 ≤ s0 ∧ 1 ≤ s1 := by unfold okS at hok; omega
          have hrun2 : impl_CacheRun.f s0 (wrap64 (s1 + 1)) s2 us = some (runC s0 (s1 + 1) s2 (List.replicate s0.toNat []) us) := by
            unfold impl_CacheRun.f
            rw [hw, if_pos ⟨hs2, hu1, hu2⟩]
          have hxl : xs.length = us.length := by rw [← hxs, runC_lenW]
          rw [bs hrun2, runC_lenW, if_pos (by rw [hxl])]
          refine ways_loop xs _ (by omega) (by rw [runC_lenW, hxl]) (fun i a b ha hb hf => ?_) xs.length K 0 (Nat.zero_le _) rfl (by omega)
          rw [← hxs] at ha
          exact more_ways s0 s1 s2 hb1.1 hb1.2 us _ _ [] (Rel.start s0 s1 (by omega) (by omega)) (Rel.start s0 (s1 + 1) (by omega) (by omega)) i a b ha hb hf
        · rw [if_neg hc] at hxs
          subst hxs
          exact absurd rfl h0
end Go.Proofs.Ytglehilfemfiiaa.Pure
