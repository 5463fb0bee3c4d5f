/- The pure statement of the law FnDirty: of drawn uses, lines written back and lines dirty at the end are together at most the writes; a flush leaves nothing. No condition. -/
import Derived.Test.YtglehilfemfiiaaPdxUD
import Derived.Test.YtglehilfemfiiaaDrxUD
import Derived.Test.YtglehilfemfiiaaGUx20D
namespace Go.Proofs.Ytglehilfemfiiaa.Pure
open Go.RowKit Go.Proofs.Ytglehilfemfiiaa Go.Proofs.Ytglehilfemfiiaa.GU Go.Proofs.Ytglehilfemfiiaa.Lst Go.Proofs.Ytglehilfemfiiaa.PcaU Go.Proofs.Ytglehilfemfiiaa.PdaU Go.Proofs.Ytglehilfemfiiaa.PdbU Go.Proofs.Ytglehilfemfiiaa.PdcU Go.Proofs.Ytglehilfemfiiaa.PddU Go.Proofs.YtglehilfemfiiaaW.PrintWords Go.Proofs.YtglehilfemfiiaaW.PrintLast
theorem dirty_end {s0 s1 s2 : Int} {rows : List (List S118)} (hs : okS s0 s1 s2) (h : InvT s0 s1 rows) (l : List S32) (Wn B i : Nat) (hi : ¬ i < l.length) (hd : dR rows + B ≤ Wn) (hW : Wn ≤ 1000) (k : Nat) (hk : 5001 ≤ k) :
    laws_FnDirty.l0 k l (Wn : Int) (B : Int) (i : Int) s0 s1 s2 s0 s1 s2 rows = some true := by
  obtain ⟨k, rfl⟩ : ∃ m, k = m + 1 := ⟨k - 1, by omega⟩
  obtain ⟨o1, e1, n1⟩ := lines_f hs (empty_inv hs) k (by omega)
  obtain ⟨o2, e2, n2⟩ := lines_f hs h k (by omega)
  rw [tot_empty] at n1
  have hw := tot_worst hs.2.1.1 h
  have hdl := dR_le rows
  have c1 : (o1.length : Int) = 0 := by omega
  have c2 : (dR rows : Int) ≤ s0 * s1 := by omega
  have c3 : wrap64 ((dR rows : Int) + (B : Int)) ≤ (Wn : Int) := by rw [wr (by omega) (by omega)]; omega
  have c4 : (o2.length : Int) ≤ s0 * s1 := by rw [n2]; exact hw
  have c0 : ¬ (i : Int) < (l.length : Int) := by omega
  simp only [laws_FnDirty.l0]
  rw [if_neg c0, bs (flush_some hs h k (by omega))]
  dsimp only
  rw [bs e1, if_pos c1, bs (ok_some hs (empty_inv hs) k (by omega)), if_pos rfl, bs (worst_some hs), if_pos c2, if_pos c3, bs e2, bs (worst_some hs), decide_eq_true c4]
theorem dirty_go {s0 s1 s2 : Int} (l : List S32) (i Wn B : Nat) (rows R : List (List S118)) (hit bk : Bool) (hlt : i < l.length) (k : Nat) (hl : l.length ≤ 150) (hW : Wn ≤ 1000) (hB : B ≤ 1000000)
    (hus : impl_CacheUse.f (k + 1) s0 s1 s2 rows l[i].f0 l[i].f1 = some (s0, s1, s2, R, hit, bk)) (hok : impl_CacheOk.f (k + 1) s0 s1 s2 R = some true) (hho : impl_CacheHolds.f (k + 1) s0 s1 s2 R l[i].f0 = some true) :
    laws_FnDirty.l0 (k + 2) l (Wn : Int) (B : Int) (i : Int) s0 s1 s2 s0 s1 s2 rows = laws_FnDirty.l0 k l ((if l[i].f1 = true then Wn + 1 else Wn : Nat) : Int) ((if bk = true then B + 1 else B : Nat) : Int) ((i + 1 : Nat) : Int) s0 s1 s2 s0 s1 s2 R := by
  have hx : rd_T32 l (i : Int) = l[i] := by unfold rd_T32; rw [Int.toNat_natCast, List.getD_eq_getElem?_getD, List.getElem?_eq_getElem hlt]; rfl
  have c1 : (i : Int) < (l.length : Int) := by omega
  have c2 : (0 : Int) ≤ (i : Int) := by omega
  have ew : wrap64 ((Wn : Int) + 1) = ((Wn + 1 : Nat) : Int) := w1 (by omega)
  have eb : wrap64 ((B : Int) + 1) = ((B + 1 : Nat) : Int) := w1 (by omega)
  have ei : wrap64 ((i : Int) + 1) = ((i + 1 : Nat) : Int) := w1 (by omega)
  rw [laws_FnDirty.l0, if_pos c1, if_pos c2, hx, bs hus]
  dsimp only
  rw [bs hok, if_pos rfl, bs hho, laws_FnDirty.j2, if_neg (by simp), if_pos c2, if_pos c1, hx, ew, eb, ei]
  cases l[i].f1 <;> cases bk <;> rfl
theorem dirty_loop {s0 s1 s2 : Int} (hs : okS s0 s1 s2) (l : List S32) (hl : l.length ≤ 150) (hb : ∀ u ∈ l, 0 ≤ u.f0 ∧ u.f0 ≤ 65535) (d : Nat) :
    ∀ (i Wn B : Nat) (rows : List (List S118)), i ≤ l.length → l.length - i = d → InvT s0 s1 rows → dR rows + B ≤ Wn → Wn ≤ i → ∀ k, 2 * d + 5001 ≤ k → laws_FnDirty.l0 k l (Wn : Int) (B : Int) (i : Int) s0 s1 s2 s0 s1 s2 rows = some true := by
  induction d with
  | zero => intro i Wn B rows hi hd h hdr hW k hk; exact dirty_end hs h l Wn B i (by omega) hdr (by omega) k (by omega)
  | succ d ih =>
    intro i Wn B rows hi hd h hdr hW k hk
    obtain ⟨k, rfl⟩ : ∃ m, k = m + 2 := ⟨k - 2, by omega⟩
    have hlt : i < l.length := by omega
    obtain ⟨ha, ha2⟩ := hb l[i] (List.getElem_mem _)
    have hdi := use_dirty hs h l[i].f0 l[i].f1
    have hin := step_inv hs h l[i].f0 l[i].f1 ha ha2
    rw [dirty_go l i Wn B rows _ _ _ hlt k hl (by omega) (by omega) (use_some hs h l[i].f0 l[i].f1 ha ha2 (k + 1) (by omega)) (ok_some hs hin (k + 1) (by omega)) (holds_some hs h l[i].f0 l[i].f1 ha ha2 (k + 1) (by omega))]
    generalize (useC s0 s1 s2 rows l[i].f0 l[i].f1).2.2 = R at hdi hin ⊢
    generalize (useC s0 s1 s2 rows l[i].f0 l[i].f1).2.1 = bk at hdi ⊢
    generalize l[i].f1 = f1 at hdi ⊢
    clear ha ha2 h
    unfold b1 at hdi
    refine ih (i + 1) _ _ R (by omega) (by omega) hin ?_ ?_ k (by omega)
    · cases f1 <;> cases bk <;> simp only [if_true, if_false, Bool.false_eq_true] at hdi ⊢ <;> omega
    · cases f1 <;> simp only [if_true, if_false, Bool.false_eq_true] <;> omega
theorem FnDirty : ∀ (l0 : List Int), (l0.length ≤ maxLen ∧ ∀ x ∈ l0, (Lit.int .u8 x).wf = true) → ∃ k, GU.laws_FnDirty.f k l0 = some true := by
  intro l hl
  obtain ⟨K, hK⟩ : ∃ K : Nat, K = 20000 := ⟨_, rfl⟩
  refine ⟨K + 1, ?_⟩
  unfold laws_FnDirty.f laws_big.f
  rw [Option.bind_some]
  by_cases hbig : (l.length : Int) > 1048576
  · rw [decide_eq_true hbig, if_pos rfl]
  · rw [decide_eq_false hbig, if_neg (by simp)]
    obtain ⟨s0, s1, s2, r, er, hr⟩ := DrtU.run_some l (by omega) (K + 1) (by omega)
    have stop : ∀ (q : List S32) (a b c : Int), laws_FnDirty.j0 (K + 1) q true a b c = some true := by
      intro q a b c
      simp only [laws_FnDirty.j0]
      rw [if_pos trivial]
    rw [bs er]
    dsimp only
    rw [bs (spec_shape s0 s1 s2), shapeB_eq]
    by_cases hs : okS s0 s1 s2
    · rw [decide_eq_true hs, if_pos rfl]
      by_cases hn : (r.length : Int) > 150
      · rw [if_pos hn]
        exact stop _ _ _ _
      · rw [if_neg hn]
        obtain ⟨out, eo, ho⟩ := run_valid s0 s1 s2 r (by omega) (K + 1) (by omega)
        rw [bs eo]
        by_cases he : out.length = r.length
        · have hne : ((out.length : Int) != (r.length : Int)) = false := by simp [he]
          rw [hne]
          simp only [laws_FnDirty.j0]
          rw [if_neg (by simp), bs (cempty_some hs)]
          dsimp only
          exact dirty_loop hs r (by omega) (ho he) r.length 0 0 0 (List.replicate s0.toNat []) (by omega) (by omega) (empty_inv hs) (by have := dR_le (List.replicate s0.toNat ([] : List S118)); rw [tot_empty] at this; omega) (by omega) K (by omega)
        · have hne : ((out.length : Int) != (r.length : Int)) = true := by simpa using fun h => he (by omega)
          rw [hne]
          exact stop _ _ _ _
    · rw [decide_eq_false hs, if_neg (by simp)]
      exact stop _ _ _ _
end Go.Proofs.Ytglehilfemfiiaa.Pure
