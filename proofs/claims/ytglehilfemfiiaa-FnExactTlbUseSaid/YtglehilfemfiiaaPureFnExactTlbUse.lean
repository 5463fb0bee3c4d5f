/- The pure statement of the law FnExactTlbUse: what the given program's function and the reference's come to is the same, for all plain data. No condition. -/
import Derived.Test.YtglehilfemfiiaaAidE
import Derived.Test.YtglehilfemfiiaaGEx12
namespace Go.Proofs.Ytglehilfemfiiaa.Pure
open Go.RowKit Go.Proofs.Ytglehilfemfiiaa Go.Proofs.Ytglehilfemfiiaa.GE Go.Proofs.Ytglehilfemfiiaa.AidE Go.Proofs.Ytglehilfemfiiaa.Lst Go.Proofs.YtglehilfemfiiaaW.PrintWords Go.Proofs.YtglehilfemfiiaaW.PrintLast
theorem FnExactTlbUse : ∀ (a0_0 : Int) (l0_1 : List (Int)) (a1 : Int), ((Lit.int .i64 a0_0).wf = true) → (l0_1.length ≤ maxLen ∧ ∀ x_ ∈ l0_1, (Lit.int .i64 x_).wf = true) → ((Lit.int .i64 a1).wf = true) → ∃ k, GE.laws_FnExactTlbUse.f k a0_0 l0_1 a1 = some true := by
  intro s l a hs hl ha
  obtain ⟨K, hK⟩ : ∃ K : Nat, K = 4000000 := ⟨_, rfl⟩
  refine ⟨K + 9, ?_⟩
  have hl1 := hl.1
  unfold laws_FnExactTlbUse.f
  rw [sz_t s l hl1, Option.bind_some]
  by_cases hn : (1048576 : Int) < (l.length : Int)
  · rw [if_pos hn, if_pos (by decide)]
  · rw [if_neg hn, if_neg (by omega)]
    have hlen : l.length ≤ 1048576 := by omega
    have hto : ∀ k, laws_toTlb.f (K + k) s l = some (s, l) := fun k => to_t s l (by omega) (K + k) (by omega)
    obtain ⟨r, hr1, hr2, hrl⟩ : ∃ r : Int × List Int × Bool, (∀ k, spec_TlbUse.f (K + k) s l a = some r) ∧ impl_TlbUse.f s l a = some r ∧ r.2.1.length ≤ 1048577 := by
      obtain ⟨b0, hb0, hb0'⟩ := tlb_i s l (by omega) (l.length + 20) (by omega)
      have hu := useF_len s l (wrap64 (Int.tdiv a 64))
      have hsp : ∀ k, spec_TlbOk.f (K + k) s l = some b0 := fun k => by
        obtain ⟨b1, e1, hb1⟩ := tlb_s s l (by omega) (K + k) (by omega)
        rw [e1]
        congr 1
        exact Bool.eq_iff_iff.2 (hb1.trans hb0'.symm)
      have hus : ∀ k, spec_l06Use.f (K + k) s l a = some (s, (useF s l (wrap64 (Int.tdiv a 64))).2, (useF s l (wrap64 (Int.tdiv a 64))).1) := fun k => use_s s l a (by omega) (K + k) (by omega)
      have hl2 : l.length < 2000000 := by omega
      have hi : impl_TlbUse.f s l a = if b0 = true then some (if (0 ≤ a ∧ a ≤ 65535) then (s, (useF s l (wrap64 (Int.tdiv a 64))).2, (useF s l (wrap64 (Int.tdiv a 64))).1) else (0, [], false)) else some (0, [], false) := by
        unfold impl_TlbUse.f
        rw [if_pos hl2, hb0, Option.bind_some, addr_i, Option.bind_some]
        simp only [decide_eq_true_eq]
      have hs' : ∀ k, spec_TlbUse.f (K + k) s l a = if b0 = true then (if (0 ≤ a ∧ a ≤ 65535) then some (s, (useF s l (wrap64 (Int.tdiv a 64))).2, (useF s l (wrap64 (Int.tdiv a 64))).1) else some (0, [], false)) else some (0, [], false) := fun k => by
        unfold spec_TlbUse.f
        rw [hsp, Option.bind_some, in_s, Option.bind_some, hus, Option.bind_some]
        simp only [decide_eq_true_eq]
      by_cases h0 : b0 = true
      · by_cases h : 0 ≤ a ∧ a ≤ 65535
        · exact ⟨_, fun k => by rw [hs', if_pos h0, if_pos h], by rw [hi, if_pos h0, if_pos h], by dsimp only; omega⟩
        · exact ⟨_, fun k => by rw [hs', if_pos h0, if_neg h], by rw [hi, if_pos h0, if_neg h], by simp⟩
      · exact ⟨_, fun k => by rw [hs', if_neg h0], by rw [hi, if_neg h0], by simp⟩
    obtain ⟨r1, r2, r3⟩ := r
    dsimp only at hrl
    have heq : ∀ k, laws_eqTlb.f (K + k) r1 r2 r1 r2 = some true := fun k => eq_t r1 r2 (by omega) (K + k) (by omega)
    have heo : ∀ k, laws_eqTlb.f (K + k) s l s l = some true := fun k => eq_t s l (by omega) (K + k) (by omega)
    have hmo := mark_t s l (by omega) (K + 8) (by omega)
    have hmr := mark_t r1 r2 (by omega) (K + 7) (by omega)
    have hhr : ∀ k, laws_heldTlb.f (K + k) r1 (marks (fun x => x) 1 r2.length) 1 = some (1 + (r2.length : Int)) := fun k => held_t r1 r2.length (by omega) (K + k) (by omega)
    have n1 : ¬ (1 + (l.length : Int) < 0) := by omega
    have n2 : ¬ (1 + (r2.length : Int) < 0) := by omega
    simp only [hto, Option.bind_some, hr1, hr2, heq, if_true, bne_self_eq_false, laws_FnExactTlbUse.j0, Bool.false_eq_true, if_false, heo, hmo, n1, laws_FnExactTlbUse.j1, hmr, hhr, n2, laws_FnExactTlbUse.j2]
end Go.Proofs.Ytglehilfemfiiaa.Pure
