/- The pure statement of the law FnPages: of drawn addresses the first of each page is not known; where there are at most Size pages in all, every other one is; a known page changes nothing. -/
import Derived.Test.YtglehilfemfiiaaAidE
import Derived.Test.YtglehilfemfiiaaDrtE
import Derived.Test.YtglehilfemfiiaaGEx7
import Derived.Test.YtglehilfemfiiaaGEx13
import Derived.Test.YtglehilfemfiiaaGEx14
namespace Go.Proofs.Ytglehilfemfiiaa.Pure
open Go.RowKit Go.Proofs.Ytglehilfemfiiaa Go.Proofs.Ytglehilfemfiiaa.GE Go.Proofs.Ytglehilfemfiiaa.AidE Go.Proofs.Ytglehilfemfiiaa.DrtE Go.Proofs.Ytglehilfemfiiaa.Lst Go.Proofs.YtglehilfemfiiaaW.PrintWords Go.Proofs.YtglehilfemfiiaaW.PrintLast
/-- The page of an address. -/
def pg (a : Int) : Int := wrap64 (Int.tdiv a 64)
theorem pg_in (a : Int) (h : 0 ≤ a ∧ a ≤ 65535) : 0 ≤ pg a ∧ pg a ≤ 1023 := by
  unfold pg
  rw [Int.tdiv_eq_ediv_of_nonneg h.1, wr (by omega) (by omega)]
  omega
def TlbL (s : Int) (t : List Int) : Prop := (1 ≤ s ∧ s ≤ 8) ∧ (t.length : Int) ≤ s ∧ (∀ p ∈ t, 0 ≤ p ∧ p ≤ 1023) ∧ t.Pairwise (· ≠ ·)
theorem TlbL.p {s : Int} {t : List Int} (h : TlbL s t) : TlbP s t := by
  refine ⟨h.1.1, h.1.2, h.2.1, fun j hj => ?_⟩
  have hj' := rd_int t j hj
  refine ⟨h.2.2.1 _ (List.mem_of_getElem? hj'), fun i hi e => ?_⟩
  have hi' := rd_int t i (by omega)
  rw [List.getElem?_eq_getElem (by omega)] at hi' hj'
  exact (List.pairwise_iff_getElem.1 h.2.2.2) i j (by omega) hj hi ((Option.some.inj hi').trans (e.trans (Option.some.inj hj').symm))
theorem TlbL.use {s : Int} {t : List Int} (h : TlbL s t) (p : Int) (hp : 0 ≤ p ∧ p ≤ 1023) : TlbL s (useF s t p).2 ∧ p ∈ (useF s t p).2 ∧ (∀ q ∈ (useF s t p).2, q ∈ t ∨ q = p) := by
  unfold useF
  by_cases hm : p ∈ t
  · rw [if_pos hm]
    exact ⟨h, hm, fun q hq => .inl hq⟩
  · rw [if_neg hm]
    have hpw : (t ++ [p]).Pairwise (· ≠ ·) := by
      rw [List.pairwise_append]
      refine ⟨h.2.2.2, List.pairwise_singleton _ _, fun a ha b hb => ?_⟩
      have : b = p := by simpa using hb
      subst this
      exact fun e => hm (e ▸ ha)
    have hr : ∀ q ∈ t ++ [p], 0 ≤ q ∧ q ≤ 1023 := by
      intro q hq
      rcases List.mem_append.1 hq with hq | hq
      · exact h.2.2.1 q hq
      · have : q = p := by simpa using hq
        exact this ▸ hp
    have hs := h.1
    have hl := h.2.1
    by_cases c : s < (t.length : Int) + 1
    · simp only [if_pos c]
      have hsub := List.drop_sublist 1 (t ++ [p])
      refine ⟨⟨hs, by simp; omega, fun q hq => hr q (hsub.subset hq), hpw.sublist hsub⟩, ?_, fun q hq => ?_⟩
      · rw [List.drop_append_of_le_length (by omega)]
        simp
      · rcases List.mem_append.1 (hsub.subset hq) with hq | hq
        · exact .inl hq
        · exact .inr (by simpa using hq)
    · simp only [if_neg c]
      refine ⟨⟨hs, by simp; omega, hr, hpw⟩, by simp, fun q hq => ?_⟩
      rcases List.mem_append.1 hq with hq | hq
      · exact .inl hq
      · exact .inr (by simpa using hq)
theorem ok_i {s : Int} {t : List Int} (h : TlbL s t) (hl : t.length ≤ 9000000) (k : Nat) (hk : 20 ≤ k) : impl_isTlb.f k s t = some true := by
  obtain ⟨b, hb, hb'⟩ := tlb_i s t hl k hk
  rw [hb, hb'.2 h.p]
theorem run_l1 (s : Int) (bs : List Int) (R : List Bool) (hn : bs.length ≤ 90000) : ∀ (d k i : Nat) (acc : List Bool) (t : List Int), i ≤ bs.length → bs.length - i = d → 200000 + d < k → acc.length = i → t.length ≤ i → acc ++ hitsF s t (bs.drop i) = R → spec_TlbRun.l1 k bs acc (i : Int) s t = some R := by
  intro d
  induction d with
  | zero =>
    intro k i acc t hi hd hk ha ht hR
    obtain ⟨k, rfl⟩ : ∃ m, k = m + 1 := ⟨k - 1, by omega⟩
    have hz : ¬ (i : Int) < (bs.length : Int) := by omega
    rw [List.drop_of_length_le (by omega)] at hR
    simp only [hitsF, List.append_nil] at hR
    simp only [spec_TlbRun.l1]
    rw [if_neg hz, hR]
  | succ d ih =>
    intro k i acc t hi hd hk ha ht hR
    obtain ⟨k, rfl⟩ : ∃ m, k = m + 1 := ⟨k - 1, by omega⟩
    have hlt : i < bs.length := by omega
    have h1 : (i : Int) < (bs.length : Int) := by omega
    have h2 : (0 : Int) ≤ (i : Int) := by omega
    have h3 : acc.length < 140737488355328 := by omega
    rw [drop_rd bs i hlt] at hR
    simp only [hitsF] at hR
    have hu := use_s s t (rd bs (i : Int)) (by omega) k (by omega)
    have hul := useF_len s t (wrap64 (Int.tdiv (rd bs (i : Int)) 64))
    have hrec := ih k (i + 1) (acc ++ [(useF s t (wrap64 (Int.tdiv (rd bs (i : Int)) 64))).1]) (useF s t (wrap64 (Int.tdiv (rd bs (i : Int)) 64))).2 (by omega) (by omega) (by omega) (by simp [ha]) (by omega) (by rw [← hR]; simp)
    simp only [spec_TlbRun.l1]
    rw [if_pos h1, if_pos h2, hu, Option.bind_some, if_pos h3, wsucc (by omega)]
    exact hrec
theorem run_l0 (s : Int) (hs : 1 ≤ s ∧ s ≤ 8) (bs : List Int) (hn : bs.length ≤ 90000) : ∀ (d k i : Nat), i ≤ bs.length → bs.length - i = d → 300000 + d < k → (∀ j, j < i → badA (rd bs (j : Int)) = false) → spec_TlbRun.l0 k s bs [] (i : Int) = some (if bs.any badA = false then hitsF s [] bs else []) := by
  intro d
  induction d with
  | zero =>
    intro k i hi hd hk hok
    obtain ⟨k, rfl⟩ : ∃ m, k = m + 1 := ⟨k - 1, by omega⟩
    have hz : ¬ (i : Int) < (bs.length : Int) := by omega
    have hany : bs.any badA = false := by
      rw [List.any_eq_false]
      intro x hx
      obtain ⟨j, hj⟩ := List.getElem?_of_mem hx
      have := (List.getElem?_eq_some_iff.1 hj).1
      have hb := hok j (by omega)
      rw [rd_get bs j x hj] at hb
      simp [hb]
    have hte : spec_TlbEmpty.f s = some (s, []) := by
      unfold spec_TlbEmpty.f
      rw [in_s, Option.bind_some, if_pos (by simpa using hs)]
    simp only [spec_TlbRun.l0]
    rw [if_neg hz, hte, Option.bind_some, if_pos hany]
    exact run_l1 s bs (hitsF s [] bs) hn bs.length k 0 [] [] (Nat.zero_le _) (by omega) (by omega) rfl (Nat.zero_le _) rfl
  | succ d ih =>
    intro k i hi hd hk hok
    obtain ⟨k, rfl⟩ : ∃ m, k = m + 1 := ⟨k - 1, by omega⟩
    have hlt : i < bs.length := by omega
    have h1 : (i : Int) < (bs.length : Int) := by omega
    have h2 : (0 : Int) ≤ (i : Int) := by omega
    simp only [spec_TlbRun.l0]
    rw [if_pos h1, if_pos h2, in_s, Option.bind_some]
    by_cases hb : badA (rd bs (i : Int)) = false
    · have hb' : decide (0 ≤ rd bs (i : Int) ∧ rd bs (i : Int) ≤ 65535) = true := by unfold badA at hb; simpa using hb
      rw [if_pos hb', wsucc (by omega)]
      refine ih k (i + 1) (by omega) (by omega) (by omega) (fun j hj => ?_)
      by_cases e : j = i
      · exact e ▸ hb
      · exact hok j (by omega)
    · have hb1 : badA (rd bs (i : Int)) = true := by simpa using hb
      have hb' : ¬ decide (0 ≤ rd bs (i : Int) ∧ rd bs (i : Int) ≤ 65535) = true := by
        unfold badA at hb1
        simp at hb1 ⊢
        omega
      have hany : bs.any badA = true := List.any_eq_true.2 ⟨_, List.mem_of_getElem? (rd_int bs i hlt), hb1⟩
      rw [if_neg hb', if_neg (by rw [hany]; decide)]
theorem run_s (s : Int) (bs : List Int) (hn : bs.length ≤ 90000) (k : Nat) (hk : 500000 ≤ k) : spec_TlbRun.f k s bs = some (if (1 ≤ s ∧ s ≤ 8) ∧ bs.length ≤ 2000 ∧ bs.any badA = false then hitsF s [] bs else []) := by
  obtain ⟨k, rfl⟩ : ∃ m, k = m + 1 := ⟨k - 1, by omega⟩
  unfold spec_TlbRun.f
  rw [Option.bind_some, in_s, Option.bind_some]
  by_cases hs : 1 ≤ s ∧ s ≤ 8
  · rw [if_pos (by simpa using hs)]
    simp only [spec_TlbRun.j0]
    by_cases hl : bs.length ≤ 2000
    · have : ¬ decide ((bs.length : Int) > 2000) = true := by simp; omega
      rw [if_neg this]
      have hm := run_l0 s hs bs hn bs.length k 0 (Nat.zero_le _) (by omega) (by omega) (fun j hj => absurd hj (Nat.not_lt_zero _))
      rw [show ((0 : Nat) : Int) = 0 from rfl] at hm
      rw [hm]
      by_cases hb : bs.any badA = false
      · rw [if_pos hb, if_pos ⟨hs, hl, hb⟩]
      · rw [if_neg hb, if_neg (fun x => hb x.2.2)]
    · have : decide ((bs.length : Int) > 2000) = true := by simp; omega
      rw [if_pos this, if_neg (fun x => hl x.2.1)]
  · rw [if_neg (by simpa using hs)]
    simp only [spec_TlbRun.j0]
    rw [if_pos trivial, if_neg (fun x => hs x.1)]
theorem has_l (p : Int) (l : List Int) (hl : l.length ≤ 9000000) (k : Nat) (hk : l.length < k) : laws_has.f k l p = some (decide (p ∈ l)) :=
  has_loop laws_has.l0 (fun _ _ _ _ => rfl) p l (by omega) l.length k 0 (Nat.zero_le _) (by omega) hk (fun j hj => absurd hj (Nat.not_lt_zero _))
theorem same_l (l : List Int) (hl : l.length ≤ 9000000) (k : Nat) (hk : l.length < k) : laws_sameInts.f k l l = some true := by
  unfold laws_sameInts.f
  rw [if_pos rfl]
  exact eq_int laws_sameInts.l0 (fun _ _ _ _ => rfl) l (by omega) k hk
/-- What the law holds behind i accesses: the pages met, the table. -/
structure Inv (s : Int) (bs : List Int) (H : List Bool) (i : Nat) (P t : List Int) (done : List Bool) : Prop where
  tl : TlbL s t
  h : done ++ hitsF s t (bs.drop i) = H
  dl : done.length = i
  pl : P.length ≤ i
  sub : ∀ p ∈ t, p ∈ P
  eq : (P.length : Int) ≤ s → t = P
theorem law_loop (s : Int) (bs : List Int) (H : List Bool) (hn : bs.length ≤ 2000) (hb : ∀ a ∈ bs, 0 ≤ a ∧ a ≤ 65535) (hH : H.length = bs.length) : ∀ (d k i : Nat) (P t : List Int) (done : List Bool), i ≤ bs.length → bs.length - i = d → 100000 + 3 * d < k → Inv s bs H i P t done → laws_FnPages.l0 k s bs H P (i : Int) s t = some true := by
  intro d
  induction d with
  | zero =>
    intro k i P t done hi hd hk I
    obtain ⟨k, rfl⟩ : ∃ m, k = m + 2 := ⟨k - 2, by omega⟩
    have hz : ¬ (i : Int) < (H.length : Int) := by omega
    simp only [laws_FnPages.l0]
    rw [if_neg hz]
    simp only [laws_FnPages.j1]
    rw [if_neg (by decide)]
  | succ d ih =>
    intro k i P t done hi hd hk I
    obtain ⟨k, rfl⟩ : ∃ m, k = m + 3 := ⟨k - 3, by omega⟩
    have hlt : i < bs.length := by omega
    have h1 : (i : Int) < (H.length : Int) := by omega
    have h2 : (0 : Int) ≤ (i : Int) := by omega
    have h3 : (i : Int) < (bs.length : Int) := by omega
    simp only [laws_FnPages.l0]
    rw [if_pos h1]
    simp only [laws_FnPages.j1]
    by_cases h150 : (i : Int) < 150
    · rw [if_pos (by simpa using h150), if_pos h2, if_pos h3]
      have hr := hb _ (List.mem_of_getElem? (rd_int bs i hlt))
      have hdrop := drop_rd bs i hlt
      generalize ha : rd bs (i : Int) = a at hr hdrop ⊢
      have hpg := pg_in a hr
      have epg : wrap64 (Int.tdiv a 64) = pg a := rfl
      have hh := I.h
      rw [hdrop] at hh
      simp only [hitsF] at hh
      rw [epg] at hh ⊢
      generalize pg a = p at hpg hh epg ⊢
      have hat : rdOf false H (i : Int) = (useF s t p).1 := by
        unfold rdOf
        rw [Int.toNat_natCast, ← hh, List.getD_eq_getElem?_getD, List.getElem?_append_right (by rw [I.dl]; omega), I.dl, Nat.sub_self]
        rfl
      obtain ⟨ht', hp', hq'⟩ := I.tl.use p hpg
      have htl := I.tl.2.1
      have htl' := ht'.2.1
      have hsz := I.tl.1
      have hpl := I.pl
      have huse : impl_TlbUse.f s t a = some (s, (useF s t p).2, (useF s t p).1) := by
        unfold impl_TlbUse.f
        have hx : t.length < 2000000 := by omega
        rw [if_pos hx, ok_i I.tl (by omega) _ (by omega), Option.bind_some, if_pos rfl, addr_i, Option.bind_some, if_pos (by simpa using hr), epg]
      have hhold : ∀ k, 20 ≤ k → impl_TlbHolds.f k s (useF s t p).2 a = some true := by
        intro k hk
        unfold impl_TlbHolds.f
        rw [ok_i ht' (by omega) k hk, Option.bind_some, if_pos rfl, addr_i, Option.bind_some, if_pos (by simpa using hr), epg, contains_f _ _ (by omega) k (by omega), Option.bind_some, decide_eq_true hp']
      have tail : ∀ P', Inv s bs H (i + 1) P' (useF s t p).2 (done ++ [(useF s t p).1]) → laws_FnPages.j2 (k + 1) s bs H P' (i : Int) s t = some true := by
        intro P' I'
        have hrec := ih k (i + 1) P' (useF s t p).2 _ (by omega) (by omega) (by omega) I'
        have hw := wsucc (n := i) (by omega)
        simp only [laws_FnPages.j2]
        rw [if_pos h2, if_pos h3, ha, huse, Option.bind_some]
        dsimp only
        rw [if_pos h1, hat, if_neg (by simp)]
        by_cases hit : (useF s t p).1 = true
        · have e2 : (useF s t p).2 = t := by
            unfold useF at hit ⊢
            by_cases hm : p ∈ t
            · rw [if_pos hm]
            · rw [if_neg hm] at hit
              exact absurd hit (by simp)
          have hsame : laws_sameInts.f k (useF s t p).2 t = some true := by
            rw [e2]
            exact same_l t (by omega) k (by omega)
          rw [if_pos hit, hsame, Option.bind_some, if_pos rfl, hhold k (by clear hw; omega), Option.bind_some, if_pos rfl, hw]
          exact hrec
        · rw [if_neg hit, hhold k (by clear hw; omega), Option.bind_some, if_pos rfl, hw]
          exact hrec
      rw [has_l p P (by omega) (k + 1) (by omega), Option.bind_some]
      by_cases hm : p ∈ P
      · rw [if_pos (by simpa using hm)]
        have hin : (P.length : Int) ≤ s → useF s t p = (true, t) := fun hs => by
          unfold useF
          rw [if_pos (by rw [I.eq hs]; exact hm)]
        have I' : Inv s bs H (i + 1) P (useF s t p).2 (done ++ [(useF s t p).1]) := ⟨ht', by rw [← hh]; simp, by simp [I.dl], by omega, fun q hq => (hq' q hq).elim (I.sub q) (fun e => e ▸ hm), fun hs => by rw [hin hs]; exact I.eq hs⟩
        by_cases hs : (P.length : Int) ≤ s
        · rw [if_pos hs, if_pos h1, hat, if_pos (by rw [hin hs])]
          exact tail P I'
        · rw [if_neg hs]
          exact tail P I'
      · have hnt : p ∉ t := fun h => hm (I.sub p h)
        have hnh : (useF s t p).1 = false := by unfold useF; rw [if_neg hnt]
        have hx : P.length < 17592186044416 := by omega
        rw [if_neg (by simpa using hm), if_pos hx, if_pos h1, hat, if_neg (by rw [hnh]; decide)]
        refine tail (P ++ [p]) ⟨ht', by rw [← hh]; simp, by simp [I.dl], by simp; omega, fun q hq => ?_, fun hs => ?_⟩
        · rcases hq' q hq with h | h
          · exact List.mem_append_left _ (I.sub q h)
          · exact List.mem_append_right _ (by simp [h])
        · have hs' : (P.length : Int) + 1 ≤ s := by simpa using hs
          have et := I.eq (by omega)
          unfold useF
          rw [if_neg hnt, et]
          have : ¬ s < (P.length : Int) + 1 := by omega
          simp only [if_neg this]
    · rw [if_neg (by simpa using h150)]
theorem l0_nil (s : Int) (bs P : List Int) (a : Int) (l : List Int) (k : Nat) (hk : 2 ≤ k) : laws_FnPages.l0 k s bs [] P 0 a l = some true := by
  obtain ⟨k, rfl⟩ : ∃ m, k = m + 2 := ⟨k - 2, by omega⟩
  simp only [laws_FnPages.l0]
  rw [if_neg (by simp)]
  simp only [laws_FnPages.j1]
  rw [if_neg (by decide)]
theorem FnPages : ∀ (l0 : List (Int)), (l0.length ≤ maxLen ∧ ∀ x_ ∈ l0, (Lit.int .u8 x_).wf = true) → ∃ k, GE.laws_FnPages.f k l0 = some true := by
  intro c hc
  obtain ⟨K, hK⟩ : ∃ K : Nat, K = 2000000 := ⟨_, rfl⟩
  refine ⟨K, ?_⟩
  unfold laws_FnPages.f laws_big.f
  rw [Option.bind_some]
  by_cases hbig : (c.length : Int) > 1048576
  · rw [if_pos (by simpa using hbig)]
  · rw [if_neg (by simpa using hbig)]
    obtain ⟨s, bs, hd, hlen⟩ := run_some c (by omega) K (by omega)
    rw [DrtE.bs hd]
    dsimp only
    have hi : impl_TlbRun.f s bs = some (if (1 ≤ s ∧ s ≤ 8) ∧ bs.length ≤ 2000 ∧ bs.any badA = false then hitsF s [] bs else []) := rfl
    have hsp := run_s s bs (by omega) K (by omega)
    have he : ∃ t, impl_TlbEmpty.f s = some t ∧ ((1 ≤ s ∧ s ≤ 8) → t = (s, [])) := by
      unfold impl_TlbEmpty.f
      rw [in_i, Option.bind_some]
      by_cases hs : 1 ≤ s ∧ s ≤ 8
      · rw [if_pos (by simpa using hs)]
        exact ⟨_, rfl, fun _ => rfl⟩
      · rw [if_neg (by simpa using hs)]
        exact ⟨_, rfl, fun h => absurd h hs⟩
    obtain ⟨t, ht, ht'⟩ := he
    rw [DrtE.bs hi, DrtE.bs hsp, if_pos rfl, DrtE.bs ht]
    clear hi hsp ht hd
    by_cases hv : (1 ≤ s ∧ s ≤ 8) ∧ bs.length ≤ 2000 ∧ bs.any badA = false
    · rw [if_pos hv, ht' hv.1]
      dsimp only
      have hok : ∀ a ∈ bs, 0 ≤ a ∧ a ≤ 65535 := by
        intro a ha
        have := List.any_eq_false.1 hv.2.2 a ha
        unfold badA at this
        simpa using this
      have hs := hv.1
      exact law_loop s bs _ hv.2.1 hok (hitsF_length s bs []) bs.length K 0 [] [] [] (Nat.zero_le _) (by omega) (by omega) ⟨⟨hs, by simp; omega, by simp, List.Pairwise.nil⟩, rfl, rfl, by simp, by simp, fun _ => rfl⟩
    · rw [if_neg hv]
      exact l0_nil s bs [] t.1 t.2 K (by omega)
end Go.Proofs.Ytglehilfemfiiaa.Pure
