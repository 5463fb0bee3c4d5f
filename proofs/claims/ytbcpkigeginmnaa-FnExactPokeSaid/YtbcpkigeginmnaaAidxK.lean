/- Plain laws: the reference's and the program's Poke come to the same. No program in sight. -/
import Derived.Test.YtbcpkigeginmnaaGFx0K
import Derived.Test.YtbcpkigeginmnaaGFx1K
import Derived.Test.YtbcpkigeginmnaaGFx10K
import Derived.Test.YtbcpkigeginmnaaGFx13K
import Derived.Test.YtbcpkigeginmnaaGFx4K
import Derived.Test.YtbcpkigeginmnaaGFx5K
import Derived.Test.YtbcpkigeginmnaaGFx6K
import Derived.Test.YtbcpkigeginmnaaGFx8K
import Derived.Test.YtbcpkigeginmnaaGFx9K
import Derived.Test.YtbcpkigeginmnaaWinFK
import Derived.Test.YtbcpkigeginmnaaGFx2K
import Derived.Test.YtbcpkigeginmnaaGFx3K
import Derived.Test.YtbcpkigeginmnaaGFx7K
import Derived.Test.YtbcpkigeginmnaaGFx12K
import Derived.Test.YtbcpkigeginmnaaGFx14K
import Derived.Test.YtbcpkigeginmnaaGFx16K
import Derived.Test.YtbcpkigeginmnaaBitK
import Derived.Test.YtbcpkigeginmnaaHndK
import Derived.Test.YtbcpkigeginmnaaGFx18K
import Derived.Test.YtbcpkigeginmnaaGFzK
import Derived.Test.YtbcpkigeginmnaaGFx21K
import Derived.Test.YtbcpkigeginmnaaGFx22K
import Derived.Test.YtbcpkigeginmnaaMrgK
import Derived.Test.YtbcpkigeginmnaaPokFK
section
namespace Go.Proofs.Ytbcpkigeginmnaa.AidFW
open Go.RowKit Go.Proofs.Ytbcpkigeginmnaa Go.Proofs.Ytbcpkigeginmnaa.GF Go.Proofs.Ytbcpkigeginmnaa.Lst Go.Proofs.YtbcpkigeginmnaaW.PrintWords Go.Proofs.YtbcpkigeginmnaaW.PrintLast Go.Proofs.YtbcpkigeginmnaaW.PrintMore
theorem in_s (a b c : Int) : spec_l01In.f a b c = some (decide (b ≤ a ∧ a ≤ c)) := by
  unfold spec_l01In.f; split <;> simp_all <;> omega
theorem in_i (a b c : Int) : impl_within.f a b c = some (decide (b ≤ a ∧ a ≤ c)) := by
  unfold impl_within.f; split <;> simp_all <;> omega
theorem tm4 (a : Int) : (Int.tmod a 4 = 0) = (a % 4 = 0) := by
  apply propext
  rw [← Int.dvd_iff_tmod_eq_zero, ← Int.dvd_iff_emod_eq_zero]
/-- A window's three numbers are whole numbers of Go's int. -/
def WfW (v : S70) : Prop := (Lit.int .i64 v.f0).wf = true ∧ (Lit.int .i64 v.f1).wf = true ∧ (Lit.int .i64 v.f2).wf = true
def WinB (v : S70) : Prop := 0 ≤ v.f0 ∧ 4 ≤ v.f1 ∧ v.f0 % 4 = 0 ∧ v.f1 % 4 = 0 ∧ v.f0 + v.f1 ≤ 2048 ∧ 1 ≤ v.f2 ∧ v.f2 ≤ 7
instance (v : S70) : Decidable (WinB v) := by unfold WinB; infer_instance
theorem win_s (v : S70) (hv : WfW v) : spec_WindowOk.f v.f0 v.f1 v.f2 = some (decide (WinB v)) := by
  have h0 := Lst.w64 hv.1; have h1 := Lst.w64 hv.2.1
  unfold spec_WindowOk.f
  simp only [in_s, Option.bind_some, decide_eq_true_eq, tm4]
  unfold wrap64
  repeat' split
  all_goals (first | (refine congrArg some (decide_eq_decide.2 ?_); unfold WinB; omega) | (refine congrArg some (decide_eq_false ?_).symm; unfold WinB; omega))
theorem win_i (v : S70) (hv : WfW v) : winOk v = decide (WinB v) := by
  have h0 := Lst.w64 hv.1; have h1 := Lst.w64 hv.2.1
  have e : impl_isWindow.f v.f0 v.f1 v.f2 = some (decide (WinB v)) := by
    unfold impl_isWindow.f
    simp only [in_i, Option.bind_some, decide_eq_true_eq, tm4]
    unfold wrap64
    repeat' split
    all_goals (first | (refine congrArg some (decide_eq_decide.2 ?_); unfold WinB; omega) | (refine congrArg some (decide_eq_false ?_).symm; unfold WinB; omega))
  rw [isWindow_f] at e
  exact Option.some.inj e
theorem win_yes {v : S70} (hv : WfW v) (h : winOk v = true) : WinB v := by
  rw [win_i v hv] at h
  exact of_decide_eq_true h
theorem ap_eq (v u : S70) (hv : WinB v) (hu : WinB u) : apB v u = decide (v.f0 + v.f1 ≤ u.f0 ∨ u.f0 + u.f1 ≤ v.f0) := by
  unfold WinB at hv hu
  unfold apB
  rw [wr (n := v.f0 + v.f1) (by omega) (by omega), wr (n := u.f0 + u.f1) (by omega) (by omega)]
  simp
theorem apart_l (a b c d e f : Int) (ha : 0 ≤ a) (hb : 4 ≤ b) (ha4 : a % 4 = 0) (hb4 : b % 4 = 0) (hab : a + b ≤ 2048) (hd : 0 ≤ d) (he : 4 ≤ e) (hd4 : d % 4 = 0) (he4 : e % 4 = 0) (hde : d + e ≤ 2048) (n : Nat) :
    ∀ (k : Nat) (x : Int), 0 ≤ x → x % 4 = 0 → 2048 - x = 4 * n → n < k → spec_Apart.l0 k x a b c d e f = some (decide (a + b ≤ d ∨ d + e ≤ a ∨ a + b ≤ x ∨ d + e ≤ x)) := by
  have w1 : wrap64 (a + b) = a + b := by unfold wrap64; omega
  have w2 : wrap64 (d + e) = d + e := by unfold wrap64; omega
  induction n with
  | zero =>
    intro k x h0 h4 hx hk
    obtain ⟨k, rfl⟩ : ∃ m, k = m + 1 := ⟨k - 1, by omega⟩
    simp only [spec_Apart.l0]
    rw [if_neg (by omega)]
    exact congrArg some (decide_eq_true (by omega)).symm
  | succ n ih =>
    intro k x h0 h4 hx hk
    obtain ⟨k, rfl⟩ : ∃ m, k = m + 1 := ⟨k - 1, by omega⟩
    have w3 : wrap64 (x + 4) = x + 4 := by unfold wrap64; omega
    have ih' := ih k (x + 4) (by omega) (by omega) (by omega) (by omega)
    simp only [spec_Apart.l0]
    unfold spec_l07Has.f
    rw [if_pos (by omega), w1, w2, w3, ih']
    have hn : (2048 : Int) - (x + 4) = 4 * n := by omega
    clear ih ih' hx
    have fin : ∀ (p q : Prop) [Decidable p] [Decidable q], (p ↔ q) → some (decide p) = some (decide q) := fun p q _ _ h => by rw [decide_eq_decide.2 h]
    have fls : ∀ (q : Prop) [Decidable q], ¬ q → some false = some (decide q) := fun q _ h => by rw [decide_eq_false h]
    by_cases h1 : x ≥ a
    · rw [if_pos h1]
      simp only [Option.bind_some, decide_eq_true_eq]
      by_cases h2 : x < a + b
      · rw [if_pos h2]
        by_cases h3 : x ≥ d
        · rw [if_pos h3]
          simp only [Option.bind_some, decide_eq_true_eq]
          by_cases h5 : x < d + e
          · rw [if_pos h5]
            exact fls _ (by omega)
          · rw [if_neg h5]
            exact fin _ _ (by omega)
        · rw [if_neg h3]
          simp only [Option.bind_some, Bool.false_eq_true, if_false]
          exact fin _ _ (by omega)
      · rw [if_neg h2]
        exact fin _ _ (by omega)
    · rw [if_neg h1]
      simp only [Option.bind_some, Bool.false_eq_true, if_false]
      exact fin _ _ (by omega)
theorem apart_s (v u : S70) (wv : WfW v) (wu : WfW u) (hv : WinB v) (hu : WinB u) (k : Nat) (hk : 600 ≤ k) : spec_Apart.f k v.f0 v.f1 v.f2 u.f0 u.f1 u.f2 = some (apB v u) := by
  obtain ⟨k, rfl⟩ : ∃ m, k = m + 1 := ⟨k - 1, by omega⟩
  rw [ap_eq v u hv hu]
  unfold spec_Apart.f
  rw [win_s v wv, win_s u wu]
  simp only [Option.bind_some, hv, hu, decide_true, if_true, Bool.not_true, spec_Apart.j0, Bool.false_eq_true, if_false]
  unfold WinB at hv hu
  rw [apart_l v.f0 v.f1 v.f2 u.f0 u.f1 u.f2 (by omega) (by omega) (by omega) (by omega) (by omega) (by omega) (by omega) (by omega) (by omega) (by omega) 512 k 0 (by omega) (by omega) (by omega) (by omega)]
  refine congrArg some (decide_eq_decide.2 ?_)
  omega
theorem mem_rd {l : List S70} {P : S70 → Prop} (h : ∀ x ∈ l, P x) (i : Nat) (hi : i < l.length) : P (rd_T70 l (i : Int)) :=
  h _ (List.mem_of_getElem? (rd_at l i hi))
theorem take_any (l : List S70) (p : S70 → Bool) (i : Nat) (hi : i ≤ l.length) : (l.take i).any p = true ↔ ∃ j, j < i ∧ p (rd_T70 l (j : Int)) = true := by
  rw [List.any_eq_true]
  constructor
  · rintro ⟨x, hx, hp⟩
    obtain ⟨j, hj⟩ := List.getElem?_of_mem hx
    rw [List.getElem?_take] at hj
    by_cases hji : j < i
    · rw [if_pos hji, rd_at l j (by omega)] at hj
      injection hj with hj
      exact ⟨j, hji, by rw [hj]; exact hp⟩
    · rw [if_neg hji] at hj; cases hj
  · rintro ⟨j, hj, hp⟩
    refine ⟨_, List.mem_of_getElem? (i := j) ?_, hp⟩
    rw [List.getElem?_take, if_pos hj]
    exact rd_at l j (by omega)
theorem wr_succ (j : Nat) (h : j < 9000000) : wrap64 ((j : Int) + 1) = ((j + 1 : Nat) : Int) := by rw [wr (by omega) (by omega)]; omega
theorem windows_s (l : List S70) (hl : ∀ x ∈ l, WfW x) (k : Nat) (hk : 2000 ≤ k) : spec_WindowsOk.f k l = some (areWB l) := by
  unfold spec_WindowsOk.f
  by_cases h4 : l.length ≤ 4
  · rw [if_neg (by omega)]
    have main : ∀ (d : Nat) (k i : Nat), i ≤ l.length → l.length - i = d → 1000 + 20 * d ≤ k → (∀ j, j < i → goodAt l j (rd_T70 l (j : Int)) = true) → spec_WindowsOk.l0 k l (i : Int) = some (areWB l) := by
      intro d
      induction d with
      | zero =>
        intro k i hi hd hk hg
        obtain ⟨k, rfl⟩ : ∃ m, k = m + 1 := ⟨k - 1, by omega⟩
        simp only [spec_WindowsOk.l0]
        rw [if_neg (by omega), areW_yes l h4 (fun j hj => hg j (by omega))]
      | succ d ih =>
        intro k i hi hd hk hg
        obtain ⟨k, rfl⟩ : ∃ m, k = m + 1 := ⟨k - 1, by omega⟩
        have hlt : i < l.length := by omega
        have wi := mem_rd hl i hlt
        simp only [spec_WindowsOk.l0]
        rw [if_pos (by omega), if_pos (by omega), win_s _ wi]
        simp only [Option.bind_some, decide_eq_true_eq]
        by_cases hw : WinB (rd_T70 l (i : Int))
        · rw [if_pos hw]
          have inner : ∀ (e : Nat) (k j : Nat), j ≤ i → i - j = e → 1000 + 20 * d + 2 * e + 2 ≤ k → (∀ j', j' < j → apB (rd_T70 l (j' : Int)) (rd_T70 l (i : Int)) = true) → spec_WindowsOk.l1 k l (i : Int) (j : Int) = some (areWB l) := by
            intro e
            induction e with
            | zero =>
              intro k j hj he hk ha
              obtain ⟨k, rfl⟩ : ∃ m, k = m + 1 := ⟨k - 1, by omega⟩
              simp only [spec_WindowsOk.l1]
              have e1 : wrap64 ((i : Int) + 1) = ((i + 1 : Nat) : Int) := by rw [wr (by omega) (by omega)]; omega
              rw [if_neg (by omega), e1]
              refine ih k (i + 1) (by omega) (by omega) (by omega) (fun j' hj' => ?_)
              by_cases hj2 : j' < i
              · exact hg j' hj2
              · have : j' = i := by omega
                subst this
                unfold goodAt
                rw [win_i _ wi, decide_eq_true hw, Bool.true_and]
                have : ((l.take j').any fun u => !(apB u (rd_T70 l (j' : Int)))) = false := by
                  rw [Bool.eq_false_iff]
                  intro hc
                  obtain ⟨q, hq, hp⟩ := (take_any l _ j' (by omega)).1 hc
                  rw [ha q (by omega)] at hp
                  cases hp
                rw [this]
                rfl
            | succ e ih2 =>
              intro k j hj he hk ha
              obtain ⟨k, rfl⟩ : ∃ m, k = m + 1 := ⟨k - 1, by omega⟩
              have hjl : j < l.length := by omega
              have wj := mem_rd hl j hjl
              have gj := hg j (by omega)
              unfold goodAt at gj
              have bj := win_yes wj (Bool.and_eq_true_iff.1 gj).1
              simp only [spec_WindowsOk.l1]
              have c1 : (j : Int) < (i : Int) := by omega
              have c2 : (0 : Int) ≤ (j : Int) := by omega
              have c3 : (j : Int) < (l.length : Int) := by omega
              have c4 : (0 : Int) ≤ (i : Int) := by omega
              have c5 : (i : Int) < (l.length : Int) := by omega
              have c6 : 1000 + 20 * d + 2 * e + 2 ≤ k := by omega
              have c7 : 600 ≤ k := by omega
              have hap' := apart_s _ _ wj wi bj hw k c7
              have c8 : i - (j + 1) = e := by omega
              have e1 : wrap64 ((j : Int) + 1) = ((j + 1 : Nat) : Int) := wr_succ j (by omega)
              rw [if_pos c1, if_pos c2, if_pos c3, if_pos c4, if_pos c5, hap', e1]
              clear e1
              simp only [Option.bind_some]
              cases hap : apB (rd_T70 l (j : Int)) (rd_T70 l (i : Int)) with
              | true =>
                rw [if_pos rfl]
                refine ih2 k (j + 1) (by omega) c8 c6 (fun j' hj' => ?_)
                by_cases hj2 : j' < j
                · exact ha j' hj2
                · have : j' = j := by omega
                  subst this
                  exact hap
              | false =>
                rw [if_neg (by decide), areW_no l i hlt]
                unfold goodAt
                have : ((l.take i).any fun u => !(apB u (rd_T70 l (i : Int)))) = true := (take_any l _ i (by omega)).2 ⟨j, by omega, by rw [hap]; rfl⟩
                rw [this]
                simp
          have := inner i k 0 (by omega) (by omega) (by omega) (fun j' hj' => absurd hj' (Nat.not_lt_zero _))
          simpa using this
        · rw [if_neg hw, areW_no l i hlt]
          unfold goodAt
          rw [win_i _ wi, decide_eq_false hw]
          rfl
    have := main l.length k 0 (by omega) (by omega) (by omega) (fun j hj => absurd hj (Nat.not_lt_zero _))
    simpa using this
  · rw [if_pos (by omega)]
    unfold areWB
    rw [decide_eq_false h4]
    rfl
theorem areW_good {l : List S70} (h : areWB l = true) (i : Nat) (hi : i < l.length) : goodAt l i (rd_T70 l (i : Int)) = true := by
  unfold areWB at h
  exact List.all_eq_true.1 (Bool.and_eq_true_iff.1 h).2 i (List.mem_range.2 hi)
theorem areW_win {l : List S70} (hl : ∀ x ∈ l, WfW x) (h : areWB l = true) : ∀ x ∈ l, WinB x := by
  intro x hx
  obtain ⟨i, hi⟩ := List.getElem?_of_mem hx
  have hlt : i < l.length := (List.getElem?_eq_some_iff.1 hi).1
  rw [rd_at l i hlt] at hi
  injection hi with hi
  have := areW_good h i hlt
  unfold goodAt at this
  rw [← hi]
  exact win_yes (mem_rd hl i hlt) (Bool.and_eq_true_iff.1 this).1
/-- The window of an address, as the program seeks it. -/
def hasB (a : Int) (v : S70) : Bool := decide (v.f0 ≤ a) && decide (a < wrap64 (v.f0 + v.f1))
theorem at_i (l : List S70) (a : Int) : impl_windowAt.f l a = some (idxB (hasB a) l) := rfl
theorem has_s (v : S70) (a : Int) : spec_l07Has.f v.f0 v.f1 v.f2 a = some (hasB a v) := by
  unfold spec_l07Has.f hasB
  by_cases h : a ≥ v.f0
  · rw [if_pos h, decide_eq_true h, Bool.true_and]
  · rw [if_neg h, decide_eq_false h]
    rfl
theorem at_s (l : List S70) (a : Int) (hlen : l.length ≤ 9000000) (k : Nat) (hk : l.length < k) : spec_l07At.f k l a = some (idxB (hasB a) l) := by
  have main : ∀ (d : Nat) (k i : Nat), i ≤ l.length → l.length - i = d → d < k → (∀ (j : Nat) (y : S70), j < i → l[j]? = some y → hasB a y = false) → spec_l07At.l0 k l a (i : Int) = some (idxB (hasB a) l) := by
    intro d
    induction d with
    | zero =>
      intro k i hi hd hk hg
      obtain ⟨k, rfl⟩ : ∃ m, k = m + 1 := ⟨k - 1, by omega⟩
      simp only [spec_l07At.l0]
      rw [if_neg (by omega), idxB_miss (hasB a) l (fun j y hy => hg j y (by have := (List.getElem?_eq_some_iff.1 hy).1; omega) hy)]
    | succ d ih =>
      intro k i hi hd hk hg
      obtain ⟨k, rfl⟩ : ∃ m, k = m + 1 := ⟨k - 1, by omega⟩
      have hlt : i < l.length := by omega
      have e1 : wrap64 ((i : Int) + 1) = ((i + 1 : Nat) : Int) := by rw [wr (by omega) (by omega)]; omega
      simp only [spec_l07At.l0]
      rw [if_pos (by omega), if_pos (by omega), has_s, e1]
      simp only [Option.bind_some]
      cases hb : hasB a (rd_T70 l (i : Int)) with
      | true => rw [if_pos rfl, idxB_hit (hasB a) l i _ (rd_at l i hlt) hb hg]
      | false =>
        rw [if_neg (by decide)]
        refine ih k (i + 1) (by omega) (by omega) (by omega) (fun j y hj hy => ?_)
        by_cases hji : j < i
        · exact hg j y hji hy
        · have : j = i := by omega
          subst this
          rw [rd_at l j hlt] at hy
          injection hy with hy
          rw [← hy]
          exact hb
  have := main l.length k 0 (by omega) (by omega) hk (fun j y hj => absurd hj (Nat.not_lt_zero _))
  simpa [spec_l07At.f] using this
theorem idx_range (p : S70 → Bool) (l : List S70) : idxB p l = -1 ∨ ∃ i : Nat, idxB p l = (i : Int) ∧ i < l.length ∧ p (rd_T70 l (i : Int)) = true := by
  unfold idxB
  cases h : l.findIdx? p with
  | none => exact .inl rfl
  | some i =>
    rw [List.findIdx?_eq_some_iff_getElem] at h
    obtain ⟨hi, hp, _⟩ := h
    refine .inr ⟨i, rfl, hi, ?_⟩
    have := rd_at l i hi
    rw [List.getElem?_eq_getElem hi] at this
    injection this with this
    rw [← this]
    exact hp
/-- A law's windows as the program's. -/
def toW (v : S72) : S70 := ⟨v.f0, v.f1, v.f2⟩
theorem rdL (l : List S72) (j : Nat) (a : S72) (h : l[j]? = some a) : rd_T72 l (j : Int) = a := by
  unfold rd_T72
  rw [Int.toNat_natCast, List.getD_eq_getElem?_getD, h]
  rfl
theorem sz_w (l : List S72) (hl : l.length ≤ maxLen) (m : Int) (h0 : 0 ≤ m) (h1 : m ≤ 9000000) : laws_szWindowS.f l m = some (if m < (l.length : Int) then -1 else m - (l.length : Int)) := by
  unfold maxLen at hl
  unfold laws_szWindowS.f
  rw [wr (by omega) (by omega)]
  split <;> split <;> first | rfl | omega
theorem to_w (l : List S72) (hl : l.length ≤ 9000000) (k : Nat) (hk : l.length < k) : laws_toWindowS.f k l = some (l.map toW) := by
  unfold laws_toWindowS.f
  rw [if_pos (by omega), if_pos (by omega)]
  exact to_all laws_toWindowS.l0 toW (fun x0 i => (⟨(rd_T72 x0 i).f0, (rd_T72 x0 i).f1, (rd_T72 x0 i).f2⟩ : S70)) (fun _ _ _ _ => rfl) l (fun j a h => by rw [rdL l j a h]; rfl) z70 (by omega) k hk
theorem eq_w (l : List S70) (hl : l.length ≤ 9000000) (k : Nat) (hk : l.length < k) : laws_eqWindowS.f k l l = some true := by
  unfold laws_eqWindowS.f
  rw [if_pos rfl]
  have := eq_calls laws_eqWindowS.l0 (fun _ x0 x1 i => laws_eqWindow.f (rd_T70 x0 i).f0 (rd_T70 x0 i).f1 (rd_T70 x0 i).f2 (rd_T70 x1 i).f0 (rd_T70 x1 i).f1 (rd_T70 x1 i).f2) 0 (fun _ _ _ _ => rfl) l
    (fun _ _ i _ => by unfold laws_eqWindow.f; simp) (by omega) l.length k 0 (by omega) (by omega) (by omega)
  exact this
theorem map_wf (l : List S72) (hl : ∀ x ∈ l, (Lit.int .i64 x.f0).wf = true ∧ (Lit.int .i64 x.f1).wf = true ∧ (Lit.int .i64 x.f2).wf = true) : ∀ x ∈ l.map toW, WfW x := by
  intro x hx
  obtain ⟨y, hy, rfl⟩ := List.mem_map.1 hx
  exact hl y hy
end Go.Proofs.Ytbcpkigeginmnaa.AidFW
end
section
namespace Go.Proofs.Ytbcpkigeginmnaa.AidFG
open Go.RowKit Go.Proofs.Ytbcpkigeginmnaa Go.Proofs.Ytbcpkigeginmnaa.AidFW Go.Proofs.Ytbcpkigeginmnaa.GF Go.Proofs.Ytbcpkigeginmnaa.Lst Go.Proofs.YtbcpkigeginmnaaW.PrintWords Go.Proofs.YtbcpkigeginmnaaW.PrintLast
theorem sz_u (l : List Int) (hl : l.length ≤ maxLen) (m : Int) (h0 : 0 ≤ m) (h1 : m ≤ 9000000) : laws_szUint32S.f l m = some (if m < (l.length : Int) then -1 else m - (l.length : Int)) := by
  unfold maxLen at hl
  unfold laws_szUint32S.f
  rw [wr (by omega) (by omega)]
  split <;> split <;> first | rfl | omega
theorem sz_b (l : List Int) (hl : l.length ≤ maxLen) (m : Int) (h0 : 0 ≤ m) (h1 : m ≤ 9000000) : laws_szByteS.f l m = some (if m < (l.length : Int) then -1 else m - (l.length : Int)) := by
  unfold maxLen at hl
  unfold laws_szByteS.f
  rw [wr (by omega) (by omega)]
  split <;> split <;> first | rfl | omega
theorem to_u (l : List Int) (hl : l.length ≤ 9000000) (k : Nat) (hk : l.length < k) : laws_toUint32S.f k l = some l := by
  unfold laws_toUint32S.f
  rw [if_pos (by omega), if_pos (by omega)]
  exact to_int laws_toUint32S.l0 (fun _ _ _ _ => rfl) l (by omega) k hk
theorem eq_u (l : List Int) (hl : l.length ≤ 9000000) (k : Nat) (hk : l.length < k) : laws_eqUint32S.f k l l = some true := by
  unfold laws_eqUint32S.f
  rw [if_pos rfl]
  exact eq_int laws_eqUint32S.l0 (fun _ _ _ _ => rfl) l (by omega) k hk
theorem to_b (l : List Int) (hl : l.length ≤ 9000000) (k : Nat) (hk : l.length < k) : laws_toByteS.f k l = some l := by
  unfold laws_toByteS.f
  rw [if_pos (by omega), if_pos (by omega)]
  exact to_int laws_toByteS.l0 (fun _ _ _ _ => rfl) l (by omega) k hk
theorem eq_b (l : List Int) (hl : l.length ≤ 9000000) (k : Nat) (hk : l.length < k) : laws_eqByteS.f k l l = some true := by
  unfold laws_eqByteS.f
  rw [if_pos rfl]
  exact eq_int laws_eqByteS.l0 (fun _ _ _ _ => rfl) l (by omega) k hk
theorem rd2 (l : List (List Int)) (i : Nat) (hi : i < l.length) : rd_L2 l (i : Int) = l[i] := by
  unfold rd_L2
  rw [Int.toNat_natCast, List.getD_eq_getElem?_getD, List.getElem?_eq_getElem hi]
  rfl
/-- How many bytes rows hold. -/
def tot : List (List Int) → Nat
  | [] => 0
  | x :: t => x.length + tot t
theorem tot_mem {l : List (List Int)} {x : List Int} (h : x ∈ l) : x.length ≤ tot l := by
  induction l with
  | nil => cases h
  | cons y t ih =>
    unfold tot
    rcases List.mem_cons.1 h with rfl | h2
    · omega
    · have := ih h2; omega
theorem tot_drop (l : List (List Int)) (i : Nat) (hi : i < l.length) : tot (l.drop i) = l[i].length + tot (l.drop (i + 1)) := by
  rw [List.drop_eq_getElem_cons hi]
  rfl
theorem sz_bb (l : List (List Int)) (hl : l.length ≤ maxLen) (hb : ∀ x ∈ l, x.length ≤ maxLen) (m : Int) (h0 : 0 ≤ m) (h1 : m ≤ 9000000) (k : Nat) (hk : 9000001 < k) :
    laws_szByteSS.f k l m = some (if m < (l.length : Int) + (tot l : Int) then -1 else m - (l.length : Int) - (tot l : Int)) := by
  have hm := hl
  unfold maxLen at hm
  unfold laws_szByteSS.f
  rw [wr (by omega) (by omega)]
  by_cases c : m - (l.length : Int) < 0
  · rw [if_pos c, if_pos (by omega)]
  · rw [if_neg c]
    have main : ∀ (d : Nat) (k i : Nat) (q : Int), i ≤ l.length → l.length - i = d → d < k → 0 ≤ q → q ≤ 9000000 → laws_szByteSS.l0 k l q (i : Int) = some (if q < (tot (l.drop i) : Int) then -1 else q - (tot (l.drop i) : Int)) := by
      intro d
      induction d with
      | zero =>
        intro k i q hi hd hk hq hq2
        obtain ⟨k, rfl⟩ : ∃ m, k = m + 1 := ⟨k - 1, by omega⟩
        simp only [laws_szByteSS.l0]
        have : l.drop i = [] := List.drop_eq_nil_of_le (by omega)
        rw [if_neg (by omega), this]
        unfold tot
        rw [if_neg (by omega)]
        simp
      | succ d ih =>
        intro k i q hi hd hk hq hq2
        obtain ⟨k, rfl⟩ : ∃ m, k = m + 1 := ⟨k - 1, by omega⟩
        have hlt : i < l.length := by omega
        have e1 : wrap64 ((i : Int) + 1) = ((i + 1 : Nat) : Int) := by rw [wr (by omega) (by omega)]; omega
        have hx := hb l[i] (List.getElem_mem _)
        simp only [laws_szByteSS.l0]
        rw [if_pos (by omega), if_pos (by omega), rd2 l i hlt, sz_b _ hx q hq hq2, Option.bind_some, e1, tot_drop l i hlt]
        by_cases c2 : q < (l[i].length : Int)
        · rw [if_pos c2, if_pos (by decide), if_pos (by omega)]
        · rw [if_neg c2, if_neg (by omega), ih k (i + 1) _ (by omega) (by omega) (by omega) (by omega) (by omega)]
          have : (q - (l[i].length : Int) < (tot (l.drop (i + 1)) : Int)) ↔ q < ((l[i].length + tot (l.drop (i + 1)) : Nat) : Int) := by omega
          by_cases c3 : q - (l[i].length : Int) < (tot (l.drop (i + 1)) : Int)
          · rw [if_pos c3, if_pos (this.1 c3)]
          · rw [if_neg c3, if_neg (fun z => c3 (this.2 z))]
            refine congrArg some ?_
            omega
    have := main l.length k 0 (m - (l.length : Int)) (by omega) (by omega) (by omega) (by omega) (by omega)
    rw [List.drop_zero] at this
    rw [show (0 : Int) = ((0 : Nat) : Int) from rfl, this]
    by_cases c3 : m - (l.length : Int) < (tot l : Int)
    · rw [if_pos c3, if_pos (by omega)]
    · rw [if_neg c3, if_neg (by omega)]
theorem to_bb (l : List (List Int)) (hl : l.length ≤ 9000000) (hb : ∀ x ∈ l, x.length ≤ 9000000) (k : Nat) (hk : 20000000 < k) : laws_toByteSS.f k l = some l := by
  unfold laws_toByteSS.f
  rw [if_pos (by omega), if_pos (by omega), Int.toNat_natCast]
  have main : ∀ (d : Nat) (k i : Nat), i ≤ l.length → l.length - i = d → 9000001 + d < k → laws_toByteSS.l0 k l (l.take i ++ List.replicate d []) (i : Int) = some l := by
    intro d
    induction d with
    | zero =>
      intro k i hi hd hk
      obtain ⟨k, rfl⟩ : ∃ m, k = m + 1 := ⟨k - 1, by omega⟩
      simp only [laws_toByteSS.l0]
      rw [if_neg (by omega), List.take_of_length_le (by omega)]
      simp
    | succ d ih =>
      intro k i hi hd hk
      obtain ⟨k, rfl⟩ : ∃ m, k = m + 1 := ⟨k - 1, by omega⟩
      have hlt : i < l.length := by omega
      have e1 : wrap64 ((i : Int) + 1) = ((i + 1 : Nat) : Int) := by rw [wr (by omega) (by omega)]; omega
      have hx := hb l[i] (List.getElem_mem _)
      simp only [laws_toByteSS.l0]
      rw [if_pos (by omega), if_pos (by omega), rd2 l i hlt, to_b _ hx k (by omega), Option.bind_some, e1, if_pos (by simp; omega), Int.toNat_natCast]
      have : (l.take i ++ List.replicate (d + 1) []).set i l[i] = l.take (i + 1) ++ List.replicate d [] := by
        rw [List.set_append_right _ _ (by simp; omega), List.length_take, show i - min i l.length = 0 by omega, List.replicate_succ, List.set_cons_zero, List.take_succ_eq_append_getElem hlt, List.append_assoc]
        rfl
      rw [this]
      exact ih k (i + 1) (by omega) (by omega) (by omega)
  have := main l.length k 0 (by omega) (by omega) (by omega)
  simpa using this
theorem eq_bb (l : List (List Int)) (hl : l.length ≤ 9000000) (hb : ∀ x ∈ l, x.length ≤ 9000000) (k : Nat) (hk : 20000000 < k) : laws_eqByteSS.f k l l = some true := by
  unfold laws_eqByteSS.f
  rw [if_pos rfl]
  have main : ∀ (d : Nat) (k i : Nat), i ≤ l.length → l.length - i = d → 9000001 + d < k → laws_eqByteSS.l0 k l l (i : Int) = some true := by
    intro d
    induction d with
    | zero =>
      intro k i hi hd hk
      obtain ⟨k, rfl⟩ : ∃ m, k = m + 1 := ⟨k - 1, by omega⟩
      simp only [laws_eqByteSS.l0]
      rw [if_neg (by omega)]
    | succ d ih =>
      intro k i hi hd hk
      obtain ⟨k, rfl⟩ : ∃ m, k = m + 1 := ⟨k - 1, by omega⟩
      have hlt : i < l.length := by omega
      have e1 : wrap64 ((i : Int) + 1) = ((i + 1 : Nat) : Int) := by rw [wr (by omega) (by omega)]; omega
      have hx := hb l[i] (List.getElem_mem _)
      simp only [laws_eqByteSS.l0]
      rw [if_pos (by omega), if_pos (by omega), if_pos (by omega), rd2 l i hlt, eq_b _ hx k (by omega), Option.bind_some, if_pos rfl, e1]
      exact ih k (i + 1) (by omega) (by omega) (by omega)
  exact main l.length k 0 (by omega) (by omega) (by omega)
theorem to_g (r : List Int) (p : Int) (ram : List (List Int)) (hr : r.length ≤ 9000000) (hl : ram.length ≤ 9000000) (hb : ∀ x ∈ ram, x.length ≤ 9000000) (k : Nat) (hk : 20000000 < k) : laws_toGuest.f k r p ram = some (r, p, ram) := by
  unfold laws_toGuest.f
  rw [to_u r hr k (by omega), Option.bind_some, to_bb ram hl hb k hk, Option.bind_some]
theorem eq_g (r : List Int) (p : Int) (ram : List (List Int)) (hr : r.length ≤ 9000000) (hl : ram.length ≤ 9000000) (hb : ∀ x ∈ ram, x.length ≤ 9000000) (k : Nat) (hk : 20000000 < k) : laws_eqGuest.f k r p ram r p ram = some true := by
  unfold laws_eqGuest.f
  rw [eq_u r hr k (by omega), Option.bind_some, if_pos rfl, if_pos rfl, eq_bb ram hl hb k hk, Option.bind_some, if_pos rfl]
theorem sz_g (r : List Int) (p : Int) (ram : List (List Int)) (hr : r.length ≤ maxLen) (hl : ram.length ≤ maxLen) (hb : ∀ x ∈ ram, x.length ≤ maxLen) (m : Int) (h0 : 0 ≤ m) (h1 : m ≤ 9000000) (k : Nat) (hk : 9000001 < k) :
    ∃ q, laws_szGuest.f k r p ram m = some q ∧ (q < 0 ∨ (r.length : Int) + (ram.length : Int) + (tot ram : Int) ≤ m) := by
  unfold laws_szGuest.f
  rw [sz_u r hr m h0 h1, Option.bind_some]
  by_cases c : m < (r.length : Int)
  · rw [if_pos c, if_pos (by decide)]
    exact ⟨_, rfl, .inl (by decide)⟩
  · rw [if_neg c, if_neg (by omega), sz_bb ram hl hb _ (by omega) (by omega) k hk, Option.bind_some]
    by_cases c2 : m - (r.length : Int) < (ram.length : Int) + (tot ram : Int)
    · rw [if_pos c2, if_pos (by decide)]
      exact ⟨_, rfl, .inl (by decide)⟩
    · rw [if_neg c2, if_neg (by omega)]
      exact ⟨_, rfl, .inr (by omega)⟩
/-- Each window's bytes are there. -/
def Fits (l : List S70) (ram : List (List Int)) : Prop := ∀ j : Nat, j < l.length → ((rd_L2 ram (j : Int)).length : Int) = (rd_T70 l (j : Int)).f1
theorem gok_loop (l : List S70) (r : List Int) (p : Int) (ram : List (List Int)) (hlen : l.length ≤ 9000000) (hram : ram.length = l.length) : ∀ (d k i : Nat), i ≤ l.length → l.length - i = d → d < k →
    ∃ b, spec_GuestOk.l0 k l (i : Int) r p ram = some b ∧ impl_isGuest.l0 k l (l.length : Int) (i : Int) r p ram = some b ∧ (b = true → ∀ j : Nat, i ≤ j → j < l.length → ((rd_L2 ram (j : Int)).length : Int) = (rd_T70 l (j : Int)).f1) := by
  intro d
  induction d with
  | zero =>
    intro k i hi hd hk
    obtain ⟨k, rfl⟩ : ∃ m, k = m + 1 := ⟨k - 1, by omega⟩
    simp only [spec_GuestOk.l0, impl_isGuest.l0]
    rw [if_neg (by omega), if_neg (by omega)]
    exact ⟨true, rfl, rfl, fun _ j h1 h2 => by omega⟩
  | succ d ih =>
    intro k i hi hd hk
    obtain ⟨k, rfl⟩ : ∃ m, k = m + 1 := ⟨k - 1, by omega⟩
    have e1 : wrap64 ((i : Int) + 1) = ((i + 1 : Nat) : Int) := by rw [wr (by omega) (by omega)]; omega
    simp only [spec_GuestOk.l0, impl_isGuest.l0]
    have c0 : (0 : Int) ≤ (i : Int) := by omega
    have c1 : (i : Int) < (l.length : Int) := by omega
    have c2 : (i : Int) < (ram.length : Int) := by omega
    simp only [if_pos c0, if_pos c1, if_pos c2, e1]
    by_cases c : ((rd_L2 ram (i : Int)).length : Int) = (rd_T70 l (i : Int)).f1
    · simp only [if_pos c]
      obtain ⟨b, hs, hi2, hb⟩ := ih k (i + 1) (by omega) (by omega) (by omega)
      refine ⟨b, hs, hi2, fun h j h1 h2 => ?_⟩
      by_cases e : j = i
      · subst e; exact c
      · exact hb h j (by omega) h2
    · simp only [if_neg c]
      exact ⟨false, rfl, rfl, fun h => by cases h⟩
theorem gok (l : List S70) (hwf : ∀ x ∈ l, WfW x) (r : List Int) (p : Int) (ram : List (List Int)) (hlen : l.length ≤ 9000000) (k : Nat) (hk : l.length + 2000 < k) :
    ∃ b, spec_GuestOk.f k l r p ram = some b ∧ impl_isGuest.f k l r p ram = some b ∧ (b = true → areWB l = true ∧ r.length = 16 ∧ rd r 0 = 0 ∧ ram.length = l.length ∧ Fits l ram) := by
  obtain ⟨k, rfl⟩ : ∃ m, k = m + 1 := ⟨k - 1, by omega⟩
  unfold spec_GuestOk.f impl_isGuest.f impl_areWindows.f
  rw [windows_s l hwf (k + 1) (by omega), Option.bind_some, Option.bind_some]
  have no : ∃ b, spec_GuestOk.j0 (k + 1) l true r p ram = some b ∧ impl_isGuest.j0 (k + 1) l true r p ram = some b ∧ (b = true → areWB l = true ∧ r.length = 16 ∧ rd r 0 = 0 ∧ ram.length = l.length ∧ Fits l ram) := by
    simp only [spec_GuestOk.j0, impl_isGuest.j0]
    rw [if_pos trivial, if_pos trivial]
    exact ⟨false, rfl, rfl, fun h => by cases h⟩
  by_cases h1 : areWB l = true
  · rw [if_pos h1, if_pos h1]
    by_cases h2 : (r.length : Int) = 16
    · have h5 : (0 : Int) < (r.length : Int) := by omega
      rw [if_pos h2, if_pos h2, if_pos h5, if_pos h5]
      by_cases h3 : rd r 0 = 0
      · rw [if_pos h3, if_pos h3]
        by_cases h4 : ram.length = l.length
        · have e4 : ((ram.length : Int) != (l.length : Int)) = false := by simp [h4]
          rw [e4]
          simp only [spec_GuestOk.j0, impl_isGuest.j0]
          rw [if_neg (by decide), if_neg (by decide)]
          obtain ⟨b, hs, hi, hb⟩ := gok_loop l r p ram hlen h4 l.length k 0 (by omega) (by omega) (by omega)
          exact ⟨b, hs, hi, fun h => ⟨h1, by omega, h3, h4, fun j hj => hb h j (by omega) hj⟩⟩
        · have e4 : ((ram.length : Int) != (l.length : Int)) = true := bne_iff_ne.2 (by omega)
          rw [e4]
          exact no
      · rw [if_neg h3, if_neg h3]
        exact no
    · rw [if_neg h2, if_neg h2]
      exact no
  · rw [if_neg h1, if_neg h1]
    exact no
end Go.Proofs.Ytbcpkigeginmnaa.AidFG
end
section
namespace Go.Proofs.Ytbcpkigeginmnaa.AidFF
open Go.RowKit Go.Proofs.Ytbcpkigeginmnaa Go.Proofs.Ytbcpkigeginmnaa.AidFW Go.Proofs.Ytbcpkigeginmnaa.GF Go.Proofs.YtbcpkigeginmnaaW.PrintWords Go.Proofs.YtbcpkigeginmnaaW.PrintLast
theorem bits_k (p kd : Int) (h1 : 1 ≤ p) (h7 : p ≤ 7) (hk : kd = 1 ∨ kd = 2 ∨ kd = 4) : (bits .and .i64 p kd = 0) = (Int.tmod (wrap64 (Int.tdiv p kd)) 2 = 0) := by
  have : p = 1 ∨ p = 2 ∨ p = 3 ∨ p = 4 ∨ p = 5 ∨ p = 6 ∨ p = 7 := by omega
  apply propext
  rcases this with rfl | rfl | rfl | rfl | rfl | rfl | rfl <;> rcases hk with rfl | rfl | rfl <;> first | decide +kernel | (constructor <;> intro h <;> revert h <;> decide +kernel)
/-- What both answer of right windows, size and kind. -/
def fltB (l : List S70) (a s kd : Int) : Int := if Int.tmod a s = 0 then (if idxB (hasB a) l < 0 then 2 else if bits .and .i64 ((rd_T70 l (idxB (hasB a) l)).f2) kd = 0 then 3 else 0) else 1
theorem fault_s (l : List S70) (hl : ∀ x ∈ l, WinB x) (hm : l.length ≤ 9000000) (a s kd : Int) (ha : (Lit.int .u32 a).wf = true) (hs : s = 1 ∨ s = 4) (hkd : kd = 1 ∨ kd = 2 ∨ kd = 4) (k : Nat) (hk : l.length < k) :
    spec_l07Fault.f k l a s kd = some (fltB l a s kd) := by
  have := Bit.w32 ha
  have hw : wrap64 a = a := by unfold wrap64; omega
  unfold spec_l07Fault.f fltB
  rw [hw, if_neg (by omega)]
  by_cases c : Int.tmod a s = 0
  · rw [if_pos c, if_pos c, at_s l a hm k hk, Option.bind_some]
    by_cases d : idxB (hasB a) l < 0
    · rw [if_pos d, if_pos d]
    · rw [if_neg d, if_neg d]
      rcases idx_range (hasB a) l with e | ⟨i, e, hi, _⟩
      · rw [e] at d; exact absurd d (by decide)
      · have hb := mem_rd hl i hi
        rw [e, if_pos (by omega), if_pos (by omega), if_neg (by omega)]
        simp only [bits_k _ kd hb.2.2.2.2.2.1 hb.2.2.2.2.2.2 hkd]
        by_cases g : Int.tmod (wrap64 (Int.tdiv (rd_T70 l (i : Int)).f2 kd)) 2 = 0
        · rw [if_pos g, if_pos g]
        · rw [if_neg g, if_neg g]
  · rw [if_neg c, if_neg c]
theorem fault_i (l : List S70) (a s kd : Int) (ha : (Lit.int .u32 a).wf = true) (hs : s = 1 ∨ s = 4) (k : Nat) (hk : 0 < k) :
    impl_faultAt.j0 k l a s kd false = some (fltB l a s kd) := by
  have := Bit.w32 ha
  have hw : wrap64 a = a := by unfold wrap64; omega
  obtain ⟨k, rfl⟩ : ∃ m, k = m + 1 := ⟨k - 1, by omega⟩
  unfold fltB
  simp only [impl_faultAt.j0]
  rw [hw, if_neg (by decide), if_neg (by omega)]
  by_cases c : Int.tmod a s = 0
  · rw [if_pos c, if_pos c, at_i l a, Option.bind_some]
    by_cases d : idxB (hasB a) l < 0
    · rw [if_pos d, if_pos d]
    · rw [if_neg d, if_neg d]
      rcases idx_range (hasB a) l with e | ⟨i, e, hi, _⟩
      · rw [e] at d; exact absurd d (by decide)
      · rw [e, if_pos (by omega), if_pos (by omega)]
        by_cases g : bits .and .i64 ((rd_T70 l (i : Int)).f2) kd = 0
        · rw [if_pos g, if_pos g]
        · rw [if_neg g, if_neg g]
  · rw [if_neg c, if_neg c]
theorem fault_9 (l : List S70) (a s kd : Int) (k : Nat) (hk : 0 < k) : impl_faultAt.j0 k l a s kd true = some 9 := by
  obtain ⟨k, rfl⟩ : ∃ m, k = m + 1 := ⟨k - 1, by omega⟩
  simp only [impl_faultAt.j0]
  first | rw [if_pos rfl] | rw [if_pos trivial]
def fltT (l : List S70) (a s kd : Int) : Int := if areWB l = true then (if (s = 1 ∨ s = 4) ∧ (kd = 1 ∨ kd = 2 ∨ kd = 4) then fltB l a s kd else 9) else 9
theorem flt_s (l : List S70) (hl : ∀ x ∈ l, WfW x) (hm : l.length ≤ 9000000) (a s kd : Int) (ha : (Lit.int .u32 a).wf = true) (k : Nat) (hk : l.length + 2000 < k) : spec_FaultAt.f k l a s kd = some (fltT l a s kd) := by
  unfold spec_FaultAt.f fltT
  rw [windows_s l hl k (by omega), Option.bind_some]
  by_cases h : areWB l = true
  · rw [if_pos h, if_pos h]
    have hw := areW_win hl h
    by_cases s1 : s = 1
    · rw [if_pos s1]
      by_cases k1 : kd = 1
      · rw [if_pos k1, fault_s l hw hm a s kd ha (.inl s1) (.inl k1) k (by omega), if_pos ⟨.inl s1, .inl k1⟩, Option.bind_some]
      · rw [if_neg k1]
        by_cases k2 : kd = 2
        · rw [if_pos k2, fault_s l hw hm a s kd ha (.inl s1) (.inr (.inl k2)) k (by omega), if_pos ⟨.inl s1, .inr (.inl k2)⟩, Option.bind_some]
        · rw [if_neg k2]
          by_cases k4 : kd = 4
          · rw [if_pos k4, fault_s l hw hm a s kd ha (.inl s1) (.inr (.inr k4)) k (by omega), if_pos ⟨.inl s1, .inr (.inr k4)⟩, Option.bind_some]
          · rw [if_neg k4, if_neg (by omega)]
    · rw [if_neg s1]
      by_cases s4 : s = 4
      · rw [if_pos s4]
        by_cases k1 : kd = 1
        · rw [if_pos k1, fault_s l hw hm a s kd ha (.inr s4) (.inl k1) k (by omega), if_pos ⟨.inr s4, .inl k1⟩, Option.bind_some]
        · rw [if_neg k1]
          by_cases k2 : kd = 2
          · rw [if_pos k2, fault_s l hw hm a s kd ha (.inr s4) (.inr (.inl k2)) k (by omega), if_pos ⟨.inr s4, .inr (.inl k2)⟩, Option.bind_some]
          · rw [if_neg k2]
            by_cases k4 : kd = 4
            · rw [if_pos k4, fault_s l hw hm a s kd ha (.inr s4) (.inr (.inr k4)) k (by omega), if_pos ⟨.inr s4, .inr (.inr k4)⟩, Option.bind_some]
            · rw [if_neg k4, if_neg (by omega)]
      · rw [if_neg s4, if_neg (by omega)]
  · rw [if_neg h, if_neg h]
theorem flt_j (l : List S70) (a s kd : Int) (ha : (Lit.int .u32 a).wf = true) (k : Nat) (hk : 0 < k) : impl_faultAt.f k l a s kd = some (if (s = 1 ∨ s = 4) ∧ (kd = 1 ∨ kd = 2 ∨ kd = 4) then fltB l a s kd else 9) := by
  unfold impl_faultAt.f
  by_cases s1 : s = 1
  · rw [if_pos s1]
    by_cases k1 : kd = 1
    · rw [if_pos k1, fault_i l a s kd ha (.inl s1) k hk, if_pos ⟨.inl s1, .inl k1⟩]
    · rw [if_neg k1]
      by_cases k2 : kd = 2
      · rw [if_pos k2, fault_i l a s kd ha (.inl s1) k hk, if_pos ⟨.inl s1, .inr (.inl k2)⟩]
      · rw [if_neg k2]
        by_cases k4 : kd = 4
        · rw [show (kd != 4) = false by rw [k4]; rfl, fault_i l a s kd ha (.inl s1) k hk, if_pos ⟨.inl s1, .inr (.inr k4)⟩]
        · rw [show (kd != 4) = true from bne_iff_ne.2 k4, fault_9 l a s kd k hk, if_neg (by omega)]
  · rw [if_neg s1]
    by_cases s4 : s = 4
    · rw [if_pos s4]
      by_cases k1 : kd = 1
      · rw [if_pos k1, fault_i l a s kd ha (.inr s4) k hk, if_pos ⟨.inr s4, .inl k1⟩]
      · rw [if_neg k1]
        by_cases k2 : kd = 2
        · rw [if_pos k2, fault_i l a s kd ha (.inr s4) k hk, if_pos ⟨.inr s4, .inr (.inl k2)⟩]
        · rw [if_neg k2]
          by_cases k4 : kd = 4
          · rw [show (kd != 4) = false by rw [k4]; rfl, fault_i l a s kd ha (.inr s4) k hk, if_pos ⟨.inr s4, .inr (.inr k4)⟩]
          · rw [show (kd != 4) = true from bne_iff_ne.2 k4, fault_9 l a s kd k hk, if_neg (by omega)]
    · rw [if_neg s4, fault_9 l a s kd k hk, if_neg (by omega)]
end Go.Proofs.Ytbcpkigeginmnaa.AidFF
end
section
namespace Go.Proofs.Ytbcpkigeginmnaa.AidFL
open Go.RowKit Go.Proofs.Ytbcpkigeginmnaa Go.Proofs.Ytbcpkigeginmnaa.AidFW Go.Proofs.Ytbcpkigeginmnaa.AidFF Go.Proofs.Ytbcpkigeginmnaa.AidFG Go.Proofs.Ytbcpkigeginmnaa.GF Go.Proofs.Ytbcpkigeginmnaa.Lst Go.Proofs.YtbcpkigeginmnaaW.PrintWords Go.Proofs.YtbcpkigeginmnaaW.PrintLast
theorem rd_at (l : List Int) (i : Nat) (hi : i < l.length) : rd l (i : Int) = l[i] := rd_get l i _ (List.getElem?_eq_getElem hi)
/-- A place that does not fault: its window, and where in it. -/
theorem place (l : List S70) (hwf : ∀ x ∈ l, WfW x) (hW : areWB l = true) (a s kd : Int) (ha : (Lit.int .u32 a).wf = true) (hs : s = 1 ∨ s = 4) (h0 : fltB l a s kd = 0) :
    ∃ i o : Nat, i < l.length ∧ idxB (hasB a) l = (i : Int) ∧ a - (rd_T70 l (i : Int)).f0 = (o : Int) ∧ (o : Int) + s ≤ (rd_T70 l (i : Int)).f1 ∧ (rd_T70 l (i : Int)).f1 ≤ 2048 ∧ 0 ≤ (rd_T70 l (i : Int)).f0 ∧ a ≤ 2048 := by
  unfold fltB at h0
  by_cases c : Int.tmod a s = 0
  · rw [if_pos c] at h0
    rcases idx_range (hasB a) l with e | ⟨i, e, hi, hp⟩
    · rw [e, if_pos (by decide)] at h0
      exact absurd h0 (by decide)
    · have hb := mem_rd (areW_win hwf hW) i hi
      have ha32 := Bit.w32 ha
      unfold WinB at hb
      unfold hasB at hp
      rw [wr (n := (rd_T70 l (i : Int)).f0 + (rd_T70 l (i : Int)).f1) (by omega) (by omega)] at hp
      obtain ⟨p1, p2⟩ := Bool.and_eq_true_iff.1 hp
      replace p1 := of_decide_eq_true p1
      replace p2 := of_decide_eq_true p2
      refine ⟨i, (a - (rd_T70 l (i : Int)).f0).toNat, hi, e, by omega, ?_, by omega, by omega, by omega⟩
      rcases hs with rfl | rfl
      · omega
      · rw [tm4] at c
        omega
  · rw [if_neg c] at h0
    exact absurd h0 (by decide)
end Go.Proofs.Ytbcpkigeginmnaa.AidFL
end
section
namespace Go.Proofs.Ytbcpkigeginmnaa.GF
open Go.RowKit Go.Proofs.YtbcpkigeginmnaaW.PrintWords Go.Proofs.YtbcpkigeginmnaaW.PrintLast Go.Proofs.YtbcpkigeginmnaaW.PrintMore Go.Proofs.Ytbcpkigeginmnaa.Q Go.Proofs.Ytbcpkigeginmnaa.Hnd
set_option linter.unusedVariables false
set_option linter.unusedSimpArgs false
end Go.Proofs.Ytbcpkigeginmnaa.GF
end
section
namespace Go.Proofs.Ytbcpkigeginmnaa.AidFP
open Go.RowKit Go.Proofs.Ytbcpkigeginmnaa Go.Proofs.Ytbcpkigeginmnaa.AidFW Go.Proofs.Ytbcpkigeginmnaa.AidFF Go.Proofs.Ytbcpkigeginmnaa.AidFG Go.Proofs.Ytbcpkigeginmnaa.AidFL Go.Proofs.Ytbcpkigeginmnaa.GF Go.Proofs.Ytbcpkigeginmnaa.Lst Go.Proofs.YtbcpkigeginmnaaW.PrintWords Go.Proofs.YtbcpkigeginmnaaW.PrintLast
end Go.Proofs.Ytbcpkigeginmnaa.AidFP
end
section
namespace Go.Proofs.Ytbcpkigeginmnaa.AidFH
open Go.RowKit Go.Proofs.Ytbcpkigeginmnaa Go.Proofs.Ytbcpkigeginmnaa.GF Go.Proofs.Ytbcpkigeginmnaa.Lst Go.Proofs.YtbcpkigeginmnaaW.PrintWords Go.Proofs.YtbcpkigeginmnaaW.PrintLast
theorem tot_eq (l : List (List Int)) : AidFG.tot l = GF.tot l := by
  induction l with
  | nil => rfl
  | cons x t ih => simp [AidFG.tot, GF.tot, ih]
theorem tot_mem {l : List (List Int)} {x : List Int} (h : x ∈ l) : x.length ≤ tot l := by
  rw [← tot_eq]
  exact AidFG.tot_mem h
theorem held_b (m : Int) (n : Nat) (h0 : 0 ≤ m) (hm : m ≤ 90000000) (hl : n ≤ 9000000) (k : Nat) (hk : n < k) : laws_heldByteS.f k (marks (· % 256) m n) m = some (m + (n : Int)) := by
  unfold laws_heldByteS.f
  exact held_int laws_heldByteS.l0 (· % 256) (fun _ _ _ _ => rfl) m n h0 (by omega) k hk
theorem held_u (m : Int) (n : Nat) (h0 : 0 ≤ m) (hm : m ≤ 90000000) (hl : n ≤ 9000000) (k : Nat) (hk : n < k) : laws_heldUint32S.f k (marks (· % 4294967296) m n) m = some (m + (n : Int)) := by
  unfold laws_heldUint32S.f
  exact held_int laws_heldUint32S.l0 (· % 4294967296) (fun _ _ _ _ => rfl) m n h0 (by omega) k hk
theorem marksB_get (m : Int) (l : List (List Int)) (i : Nat) (hi : i < l.length) : rd_L2 (marksB m l) (i : Int) = marks (· % 256) (m + (tot (l.take i) : Int)) l[i].length := by
  have e : marksB m l = marksB m (l.take i) ++ marksB (m + (tot (l.take i) : Int)) (l.drop i) := by rw [← marksB_append, List.take_append_drop]
  have e2 : (marksB m (l.take i)).length = i := by rw [marksB_length, List.length_take]; omega
  unfold rd_L2
  rw [Int.toNat_natCast, e, List.getD_eq_getElem?_getD, List.getElem?_append_right (by omega), e2, Nat.sub_self, List.drop_eq_getElem_cons hi]
  rfl
theorem held_bb (l : List (List Int)) (m : Int) (h0 : 0 ≤ m) (hm : m + (tot l : Int) ≤ 9000000) (hl : l.length ≤ 9000000) (k : Nat) (hk : 20000000 < k) : laws_heldByteSS.f k (marksB m l) m = some (m + (tot l : Int)) := by
  unfold laws_heldByteSS.f
  have main : ∀ (d k i : Nat), i ≤ l.length → l.length - i = d → 9000001 + d < k → laws_heldByteSS.l0 k (marksB m l) (m + (tot (l.take i) : Int)) (i : Int) = some (m + (tot l : Int)) := by
    intro d
    induction d with
    | zero =>
      intro k i hi hd hk
      obtain ⟨k, rfl⟩ : ∃ m, k = m + 1 := ⟨k - 1, by omega⟩
      simp only [laws_heldByteSS.l0]
      rw [marksB_length, if_neg (by omega), List.take_of_length_le (by omega)]
    | succ d ih =>
      intro k i hi hd hk
      obtain ⟨k, rfl⟩ : ∃ m, k = m + 1 := ⟨k - 1, by omega⟩
      have hlt : i < l.length := by omega
      have e1 : wrap64 ((i : Int) + 1) = ((i + 1 : Nat) : Int) := by rw [wr (by omega) (by omega)]; omega
      have hx := tot_mem (List.getElem_mem hlt)
      have ht := tot_take l i hlt
      have hle := tot_take_le l i
      have hle1 := tot_take_le l (i + 1)
      have c1 : (i : Int) < ((marksB m l).length : Int) := by rw [marksB_length]; omega
      have c2 : (0 : Int) ≤ (i : Int) := by omega
      have e3 : m + (tot (l.take i) : Int) + (l[i].length : Int) = m + (tot (l.take (i + 1)) : Int) := by omega
      have c3 : ¬ m + (tot (l.take (i + 1)) : Int) < 0 := by omega
      simp only [laws_heldByteSS.l0]
      rw [if_pos c1, if_pos c2, marksB_get m l i hlt, held_b _ _ (by omega) (by omega) (by omega) k (by omega), Option.bind_some, e3, if_neg c3, e1]
      exact ih k (i + 1) (by omega) (by omega) (by omega)
  have := main l.length k 0 (by omega) (by omega) (by omega)
  simpa [tot] using this
theorem held_g (r : List Int) (p : Int) (ram : List (List Int)) (m : Int) (h0 : 0 ≤ m) (hm : m + (r.length : Int) + (ram.length : Int) + (tot ram : Int) ≤ 9000000) (k : Nat) (hk : 20000000 < k) :
    laws_heldGuest.f k (marks (· % 4294967296) m r.length) p (marksB (m + (r.length : Int)) ram) m = some (m + (r.length : Int) + (tot ram : Int)) := by
  unfold laws_heldGuest.f
  have c1 : ¬ m + (r.length : Int) < 0 := by omega
  have c2 : ¬ m + (r.length : Int) + (tot ram : Int) < 0 := by omega
  rw [held_u m r.length h0 (by omega) (by omega) k (by omega), Option.bind_some, if_neg c1, held_bb ram _ (by omega) (by omega) (by omega) k hk, Option.bind_some, if_neg c2]
theorem in_s (a b c : Int) : spec_l01In.f a b c = some (decide (b ≤ a ∧ a ≤ c)) := by
  unfold spec_l01In.f; split <;> simp_all <;> omega
end Go.Proofs.Ytbcpkigeginmnaa.AidFH
end
section
namespace Go.Proofs.Ytbcpkigeginmnaa.AidFN
open Go.RowKit Go.Proofs.Ytbcpkigeginmnaa Go.Proofs.Ytbcpkigeginmnaa.AidFW Go.Proofs.Ytbcpkigeginmnaa.GF Go.Proofs.Ytbcpkigeginmnaa.Lst Go.Proofs.YtbcpkigeginmnaaW.PrintWords Go.Proofs.YtbcpkigeginmnaaW.PrintLast
end Go.Proofs.Ytbcpkigeginmnaa.AidFN
end
section
namespace Go.Proofs.Ytbcpkigeginmnaa.AidFK
open Go.RowKit Go.Proofs.Ytbcpkigeginmnaa Go.Proofs.Ytbcpkigeginmnaa.AidFW Go.Proofs.Ytbcpkigeginmnaa.AidFF Go.Proofs.Ytbcpkigeginmnaa.AidFG Go.Proofs.Ytbcpkigeginmnaa.AidFL Go.Proofs.Ytbcpkigeginmnaa.AidFP Go.Proofs.Ytbcpkigeginmnaa.GF Go.Proofs.Ytbcpkigeginmnaa.Lst Go.Proofs.YtbcpkigeginmnaaW.PrintWords Go.Proofs.YtbcpkigeginmnaaW.PrintLast
theorem bytes_eq (x : Int) (hx : (Lit.int .u32 x).wf = true) : spec_BytesOf.f x = impl_BytesOf.f x := by
  have h := Bit.w32 hx
  have e0 : wrap64 x = x := wr (by omega) (by omega)
  unfold spec_BytesOf.f impl_BytesOf.f
  rw [e0]
  have t1 : Int.tmod x 256 = x % 256 := by rw [Int.tmod_eq_emod_of_nonneg (by omega)]
  have d1 : Int.tdiv x 256 = x / 256 := Int.tdiv_eq_ediv_of_nonneg (by omega)
  have d2 : Int.tdiv x 65536 = x / 65536 := Int.tdiv_eq_ediv_of_nonneg (by omega)
  have d3 : Int.tdiv x 16777216 = x / 16777216 := Int.tdiv_eq_ediv_of_nonneg (by omega)
  rw [t1, d1, d2, d3, wr (n := x / 256) (by omega) (by omega), wr (n := x / 65536) (by omega) (by omega), wr (n := x / 16777216) (by omega) (by omega)]
  rw [Int.tmod_eq_emod_of_nonneg (by omega), Int.tmod_eq_emod_of_nonneg (by omega)]
  have c0 : x % 256 % 256 = x % 256 := by omega
  have c1 : x / 256 % 256 % 256 = x / 256 % 256 := by omega
  have c2 : x / 65536 % 256 % 256 = x / 65536 % 256 := by omega
  rw [c0, c1, c2]
theorem tot_set (ram : List (List Int)) (i : Nat) (row : List Int) (hi : i < ram.length) (h : row.length = ram[i].length) : GF.tot (ram.set i row) = GF.tot ram := by
  induction ram generalizing i with
  | nil => simp at hi
  | cons y t ih =>
    cases i with
    | zero => simp only [List.set_cons_zero, GF.tot, h, List.getElem_cons_zero]
    | succ i => simp only [List.set_cons_succ, GF.tot, ih i (by simpa using hi) (by simpa using h)]
theorem poke_f (l : List S70) (hwf : ∀ x ∈ l, WfW x) (r : List Int) (p : Int) (ram : List (List Int)) (hlen : l.length ≤ 9000000) (a s x : Int) (ha : (Lit.int .u32 a).wf = true) (hx : (Lit.int .u32 x).wf = true) (k : Nat) (hk : l.length + 3000 < k) :
    ∃ R P M F, PokF k l r p ram a s x R P M F ∧ R.length ≤ r.length ∧ M.length ≤ ram.length ∧ GF.tot M ≤ GF.tot ram := by
  obtain ⟨b, hs, hi, hb⟩ := gok l hwf r p ram hlen k (by omega)
  cases b with
  | false => exact ⟨_, _, _, _, .bad hs hi, by simp, by simp, by simp [GF.tot]⟩
  | true =>
    obtain ⟨hW, hr, h0, hram, hfit⟩ := hb rfl
    have ha32 := Bit.w32 ha
    have hw : wrap64 a = a := wr (by omega) (by omega)
    have fs := flt_s l hwf hlen a s 2 ha k (by omega)
    have fi := flt_j l a s 2 ha k (by omega)
    have ft : fltT l a s 2 = (if (s = 1 ∨ s = 4) ∧ ((2 : Int) = 1 ∨ (2 : Int) = 2 ∨ (2 : Int) = 4) then fltB l a s 2 else 9) := by unfold fltT; rw [if_pos hW]
    rw [← ft] at fi
    by_cases ht : fltT l a s 2 = 0
    · rw [ht] at fs fi
      by_cases hc : (s = 1 ∨ s = 4) ∧ ((2 : Int) = 1 ∨ (2 : Int) = 2 ∨ (2 : Int) = 4)
      · rw [ft, if_pos hc] at ht
        obtain ⟨i, o, hi2, he, ho, hos, hf1, _, _⟩ := place l hwf hW a s 2 ha hc.1 ht
        obtain ⟨n, hn⟩ : ∃ n : Nat, s = (n : Int) := ⟨s.toNat, by omega⟩
        subst hn
        have hfi := hfit i hi2
        have hi3 : i < ram.length := by omega
        obtain ⟨bs, hbs⟩ : ∃ bs, impl_BytesOf.f x = some bs := ⟨_, rfl⟩
        have hb4 : bs.length = 4 := by unfold impl_BytesOf.f at hbs; injection hbs with hbs; subst hbs; rfl
        have hp : PutAt k l ram a x n i o bs :=
          ⟨by rw [hw, at_s l a hlen k (by omega), he], by rw [hw, at_i, he], fi, fs, by rw [bytes_eq x hx, hbs], hbs, hi2, hi3, by rw [hw, ho], by omega, by omega, hb4, by omega, by omega⟩
        refine ⟨_, _, _, _, .put n i o bs rfl hs hi hp, Nat.le_refl _, ?_, ?_⟩
        · rw [stM_length]
          exact Nat.le_refl _
        · unfold GF.stM
          rw [tot_set ram i _ hi3 (by rw [putB_length _ _ _ (by rw [List.length_take, hb4]; omega), rd2 ram i hi3])]
          exact Nat.le_refl _
      · rw [ft, if_neg hc] at ht
        exact absurd ht (by decide)
    · exact ⟨_, _, _, _, .fault _ hs hi fs fi ht, Nat.le_refl _, Nat.le_refl _, Nat.le_refl _⟩
end Go.Proofs.Ytbcpkigeginmnaa.AidFK
end
