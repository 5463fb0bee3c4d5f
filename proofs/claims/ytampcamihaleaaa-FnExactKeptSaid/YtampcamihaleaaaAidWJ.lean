/- Plain laws of windows as they were told: the reference's and the program's lists of windows, places and counts agree. No program in sight. -/
import Derived.Test.YtampcamihaleaaaGJx0
import Derived.Test.YtampcamihaleaaaGJx1
import Derived.Test.YtampcamihaleaaaGJx2
import Derived.Test.YtampcamihaleaaaGJx3
import Derived.Test.YtampcamihaleaaaGJx4
import Derived.Test.YtampcamihaleaaaGJx5
import Derived.Test.YtampcamihaleaaaGJx6
import Derived.Test.YtampcamihaleaaaWinJ
namespace Go.Proofs.Ytampcamihaleaaa.AidWJ
open Go.RowKit Go.Proofs.Ytampcamihaleaaa Go.Proofs.Ytampcamihaleaaa.GJ Go.Proofs.Ytampcamihaleaaa.Lst Go.Proofs.YtampcamihaleaaaW.PrintWords Go.Proofs.YtampcamihaleaaaW.PrintLast Go.Proofs.YtampcamihaleaaaW.PrintMore
theorem in_s (a b c : Int) : spec_l01In.f a b c = some (decide (b ≤ a ∧ a ≤ c)) := by
  unfold spec_l01In.f; split <;> simp_all <;> omega
theorem in_i (a b c : Int) : impl_within.f a b c = some (decide (b ≤ a ∧ a ≤ c)) := by
  unfold impl_within.f; split <;> simp_all <;> omega
theorem tm4 (a : Int) : (Int.tmod a 4 = 0) = (a % 4 = 0) := by
  apply propext
  rw [← Int.dvd_iff_tmod_eq_zero, ← Int.dvd_iff_emod_eq_zero]
/-- A window's three numbers are whole numbers of Go's int. -/
def WfW (v : S41) : Prop := (Lit.int .i64 v.f0).wf = true ∧ (Lit.int .i64 v.f1).wf = true ∧ (Lit.int .i64 v.f2).wf = true
def WinB (v : S41) : Prop := 0 ≤ v.f0 ∧ 4 ≤ v.f1 ∧ v.f0 % 4 = 0 ∧ v.f1 % 4 = 0 ∧ v.f0 + v.f1 ≤ 2048 ∧ 1 ≤ v.f2 ∧ v.f2 ≤ 7
instance (v : S41) : Decidable (WinB v) := by unfold WinB; infer_instance
theorem win_s (v : S41) (hv : WfW v) : spec_WindowOk.f v.f0 v.f1 v.f2 = some (decide (WinB v)) := by
  have h0 := Lst.w64 hv.1; have h1 := Lst.w64 hv.2.1
  unfold spec_WindowOk.f
  simp only [in_s, Option.bind_some, decide_eq_true_eq, tm4]
  unfold wrap64
  repeat' split
  all_goals (first | (refine congrArg some (decide_eq_decide.2 ?_); unfold WinB; omega) | (refine congrArg some (decide_eq_false ?_).symm; unfold WinB; omega))
theorem win_i (v : S41) (hv : WfW v) : winOk v = decide (WinB v) := by
  have h0 := Lst.w64 hv.1; have h1 := Lst.w64 hv.2.1
  have e : impl_isWindow.f v.f0 v.f1 v.f2 = some (decide (WinB v)) := by
    unfold impl_isWindow.f
    simp only [in_i, Option.bind_some, decide_eq_true_eq, tm4]
    unfold wrap64
    repeat' split
    all_goals (first | (refine congrArg some (decide_eq_decide.2 ?_); unfold WinB; omega) | (refine congrArg some (decide_eq_false ?_).symm; unfold WinB; omega))
  rw [isWindow_f] at e
  exact Option.some.inj e
theorem win_yes {v : S41} (hv : WfW v) (h : winOk v = true) : WinB v := by
  rw [win_i v hv] at h
  exact of_decide_eq_true h
theorem ap_eq (v u : S41) (hv : WinB v) (hu : WinB u) : apB v u = decide (v.f0 + v.f1 ≤ u.f0 ∨ u.f0 + u.f1 ≤ v.f0) := by
  unfold WinB at hv hu
  unfold apB
  rw [wr (n := v.f0 + v.f1) (by omega) (by omega), wr (n := u.f0 + u.f1) (by omega) (by omega)]
  simp
theorem apart_l (a b c d e f : Int) (ha : 0 ≤ a) (hb : 4 ≤ b) (ha4 : a % 4 = 0) (hb4 : b % 4 = 0) (hab : a + b ≤ 2048) (hd : 0 ≤ d) (he : 4 ≤ e) (hd4 : d % 4 = 0) (he4 : e % 4 = 0) (hde : d + e ≤ 2048) (n : Nat) :
    ∀ (k : Nat) (x : Int), 0 ≤ x → x % 4 = 0 → 2048 - x = 4 * n → n < k → spec_Apart.l0 k x a b c d e f = some (decide (a + b ≤ d ∨ d + e ≤ a ∨ a + b ≤ x ∨ d + e ≤ x)) := by
  have w1 : wrap64 (a + b) = a + b := by unfold wrap64; omega
  have w2 : wrap64 (d + e) = d + e := by unfold wrap64; omega
  induction n with
  | zero =>
    intro k x h0 h4 hx hk
    obtain ⟨k, rfl⟩ : ∃ m, k = m + 1 := ⟨k - 1, by omega⟩
    simp only [spec_Apart.l0]
    rw [if_neg (by omega)]
    exact congrArg some (decide_eq_true (by omega)).symm
  | succ n ih =>
    intro k x h0 h4 hx hk
    obtain ⟨k, rfl⟩ : ∃ m, k = m + 1 := ⟨k - 1, by omega⟩
    have w3 : wrap64 (x + 4) = x + 4 := by unfold wrap64; omega
    have ih' := ih k (x + 4) (by omega) (by omega) (by omega) (by omega)
    simp only [spec_Apart.l0]
    unfold spec_l07Has.f
    rw [if_pos (by omega), w1, w2, w3, ih']
    have hn : (2048 : Int) - (x + 4) = 4 * n := by omega
    clear ih ih' hx
    have fin : ∀ (p q : Prop) [Decidable p] [Decidable q], (p ↔ q) → some (decide p) = some (decide q) := fun p q _ _ h => by rw [decide_eq_decide.2 h]
    have fls : ∀ (q : Prop) [Decidable q], ¬ q → some false = some (decide q) := fun q _ h => by rw [decide_eq_false h]
    by_cases h1 : x ≥ a
    · rw [if_pos h1]
      simp only [Option.bind_some, decide_eq_true_eq]
      by_cases h2 : x < a + b
      · rw [if_pos h2]
        by_cases h3 : x ≥ d
        · rw [if_pos h3]
          simp only [Option.bind_some, decide_eq_true_eq]
          by_cases h5 : x < d + e
          · rw [if_pos h5]
            exact fls _ (by omega)
          · rw [if_neg h5]
            exact fin _ _ (by omega)
        · rw [if_neg h3]
          simp only [Option.bind_some, Bool.false_eq_true, if_false]
          exact fin _ _ (by omega)
      · rw [if_neg h2]
        exact fin _ _ (by omega)
    · rw [if_neg h1]
      simp only [Option.bind_some, Bool.false_eq_true, if_false]
      exact fin _ _ (by omega)
theorem apart_s (v u : S41) (wv : WfW v) (wu : WfW u) (hv : WinB v) (hu : WinB u) (k : Nat) (hk : 600 ≤ k) : spec_Apart.f k v.f0 v.f1 v.f2 u.f0 u.f1 u.f2 = some (apB v u) := by
  obtain ⟨k, rfl⟩ : ∃ m, k = m + 1 := ⟨k - 1, by omega⟩
  rw [ap_eq v u hv hu]
  unfold spec_Apart.f
  rw [win_s v wv, win_s u wu]
  simp only [Option.bind_some, hv, hu, decide_true, if_true, Bool.not_true, spec_Apart.j0, Bool.false_eq_true, if_false]
  unfold WinB at hv hu
  rw [apart_l v.f0 v.f1 v.f2 u.f0 u.f1 u.f2 (by omega) (by omega) (by omega) (by omega) (by omega) (by omega) (by omega) (by omega) (by omega) (by omega) 512 k 0 (by omega) (by omega) (by omega) (by omega)]
  refine congrArg some (decide_eq_decide.2 ?_)
  omega
theorem mem_rd {l : List S41} {P : S41 → Prop} (h : ∀ x ∈ l, P x) (i : Nat) (hi : i < l.length) : P (rd_T41 l (i : Int)) :=
  h _ (List.mem_of_getElem? (rd_at l i hi))
theorem take_any (l : List S41) (p : S41 → Bool) (i : Nat) (hi : i ≤ l.length) : (l.take i).any p = true ↔ ∃ j, j < i ∧ p (rd_T41 l (j : Int)) = true := by
  rw [List.any_eq_true]
  constructor
  · rintro ⟨x, hx, hp⟩
    obtain ⟨j, hj⟩ := List.getElem?_of_mem hx
    rw [List.getElem?_take] at hj
    by_cases hji : j < i
    · rw [if_pos hji, rd_at l j (by omega)] at hj
      injection hj with hj
      exact ⟨j, hji, by rw [hj]; exact hp⟩
    · rw [if_neg hji] at hj; cases hj
  · rintro ⟨j, hj, hp⟩
    refine ⟨_, List.mem_of_getElem? (i := j) ?_, hp⟩
    rw [List.getElem?_take, if_pos hj]
    exact rd_at l j (by omega)
theorem wr_succ (j : Nat) (h : j < 9000000) : wrap64 ((j : Int) + 1) = ((j + 1 : Nat) : Int) := by rw [wr (by omega) (by omega)]; omega
theorem windows_s (l : List S41) (hl : ∀ x ∈ l, WfW x) (k : Nat) (hk : 2000 ≤ k) : spec_WindowsOk.f k l = some (areWB l) := by
  unfold spec_WindowsOk.f
  by_cases h4 : l.length ≤ 4
  · rw [if_neg (by omega)]
    have main : ∀ (d : Nat) (k i : Nat), i ≤ l.length → l.length - i = d → 1000 + 20 * d ≤ k → (∀ j, j < i → goodAt l j (rd_T41 l (j : Int)) = true) → spec_WindowsOk.l0 k l (i : Int) = some (areWB l) := by
      intro d
      induction d with
      | zero =>
        intro k i hi hd hk hg
        obtain ⟨k, rfl⟩ : ∃ m, k = m + 1 := ⟨k - 1, by omega⟩
        simp only [spec_WindowsOk.l0]
        rw [if_neg (by omega), areW_yes l h4 (fun j hj => hg j (by omega))]
      | succ d ih =>
        intro k i hi hd hk hg
        obtain ⟨k, rfl⟩ : ∃ m, k = m + 1 := ⟨k - 1, by omega⟩
        have hlt : i < l.length := by omega
        have wi := mem_rd hl i hlt
        simp only [spec_WindowsOk.l0]
        rw [if_pos (by omega), if_pos (by omega), win_s _ wi]
        simp only [Option.bind_some, decide_eq_true_eq]
        by_cases hw : WinB (rd_T41 l (i : Int))
        · rw [if_pos hw]
          have inner : ∀ (e : Nat) (k j : Nat), j ≤ i → i - j = e → 1000 + 20 * d + 2 * e + 2 ≤ k → (∀ j', j' < j → apB (rd_T41 l (j' : Int)) (rd_T41 l (i : Int)) = true) → spec_WindowsOk.l1 k l (i : Int) (j : Int) = some (areWB l) := by
            intro e
            induction e with
            | zero =>
              intro k j hj he hk ha
              obtain ⟨k, rfl⟩ : ∃ m, k = m + 1 := ⟨k - 1, by omega⟩
              simp only [spec_WindowsOk.l1]
              have e1 : wrap64 ((i : Int) + 1) = ((i + 1 : Nat) : Int) := by rw [wr (by omega) (by omega)]; omega
              rw [if_neg (by omega), e1]
              refine ih k (i + 1) (by omega) (by omega) (by omega) (fun j' hj' => ?_)
              by_cases hj2 : j' < i
              · exact hg j' hj2
              · have : j' = i := by omega
                subst this
                unfold goodAt
                rw [win_i _ wi, decide_eq_true hw, Bool.true_and]
                have : ((l.take j').any fun u => !(apB u (rd_T41 l (j' : Int)))) = false := by
                  rw [Bool.eq_false_iff]
                  intro hc
                  obtain ⟨q, hq, hp⟩ := (take_any l _ j' (by omega)).1 hc
                  rw [ha q (by omega)] at hp
                  cases hp
                rw [this]
                rfl
            | succ e ih2 =>
              intro k j hj he hk ha
              obtain ⟨k, rfl⟩ : ∃ m, k = m + 1 := ⟨k - 1, by omega⟩
              have hjl : j < l.length := by omega
              have wj := mem_rd hl j hjl
              have gj := hg j (by omega)
              unfold goodAt at gj
              have bj := win_yes wj (Bool.and_eq_true_iff.1 gj).1
              simp only [spec_WindowsOk.l1]
              have c1 : (j : Int) < (i : Int) := by omega
              have c2 : (0 : Int) ≤ (j : Int) := by omega
              have c3 : (j : Int) < (l.length : Int) := by omega
              have c4 : (0 : Int) ≤ (i : Int) := by omega
              have c5 : (i : Int) < (l.length : Int) := by omega
              have c6 : 1000 + 20 * d + 2 * e + 2 ≤ k := by omega
              have c7 : 600 ≤ k := by omega
              have hap' := apart_s _ _ wj wi bj hw k c7
              have c8 : i - (j + 1) = e := by omega
              have e1 : wrap64 ((j : Int) + 1) = ((j + 1 : Nat) : Int) := wr_succ j (by omega)
              rw [if_pos c1, if_pos c2, if_pos c3, if_pos c4, if_pos c5, hap', e1]
              clear e1
              simp only [Option.bind_some]
              cases hap : apB (rd_T41 l (j : Int)) (rd_T41 l (i : Int)) with
              | true =>
                rw [if_pos rfl]
                refine ih2 k (j + 1) (by omega) c8 c6 (fun j' hj' => ?_)
                by_cases hj2 : j' < j
                · exact ha j' hj2
                · have : j' = j := by omega
                  subst this
                  exact hap
              | false =>
                rw [if_neg (by decide), areW_no l i hlt]
                unfold goodAt
                have : ((l.take i).any fun u => !(apB u (rd_T41 l (i : Int)))) = true := (take_any l _ i (by omega)).2 ⟨j, by omega, by rw [hap]; rfl⟩
                rw [this]
                simp
          have := inner i k 0 (by omega) (by omega) (by omega) (fun j' hj' => absurd hj' (Nat.not_lt_zero _))
          simpa using this
        · rw [if_neg hw, areW_no l i hlt]
          unfold goodAt
          rw [win_i _ wi, decide_eq_false hw]
          rfl
    have := main l.length k 0 (by omega) (by omega) (by omega) (fun j hj => absurd hj (Nat.not_lt_zero _))
    simpa using this
  · rw [if_pos (by omega)]
    unfold areWB
    rw [decide_eq_false h4]
    rfl
theorem areW_len {l : List S41} (h : areWB l = true) : l.length ≤ 4 := by
  unfold areWB at h
  exact of_decide_eq_true (Bool.and_eq_true_iff.1 h).1
theorem areW_good {l : List S41} (h : areWB l = true) (i : Nat) (hi : i < l.length) : goodAt l i (rd_T41 l (i : Int)) = true := by
  unfold areWB at h
  exact List.all_eq_true.1 (Bool.and_eq_true_iff.1 h).2 i (List.mem_range.2 hi)
theorem areW_win {l : List S41} (hl : ∀ x ∈ l, WfW x) (h : areWB l = true) : ∀ x ∈ l, WinB x := by
  intro x hx
  obtain ⟨i, hi⟩ := List.getElem?_of_mem hx
  have hlt : i < l.length := (List.getElem?_eq_some_iff.1 hi).1
  rw [rd_at l i hlt] at hi
  injection hi with hi
  have := areW_good h i hlt
  unfold goodAt at this
  rw [← hi]
  exact win_yes (mem_rd hl i hlt) (Bool.and_eq_true_iff.1 this).1
/-- Of windows that are ok any two lie apart. -/
theorem areW_apart {l : List S41} (hl : ∀ x ∈ l, WfW x) (h : areWB l = true) (i j : Nat) (hj : j < i) (hi : i < l.length) :
    (rd_T41 l (j : Int)).f0 + (rd_T41 l (j : Int)).f1 ≤ (rd_T41 l (i : Int)).f0 ∨ (rd_T41 l (i : Int)).f0 + (rd_T41 l (i : Int)).f1 ≤ (rd_T41 l (j : Int)).f0 := by
  have g := areW_good h i hi
  unfold goodAt at g
  have g2 := (Bool.and_eq_true_iff.1 g).2
  have hb := areW_win hl h
  have hap : apB (rd_T41 l (j : Int)) (rd_T41 l (i : Int)) = true := by
    cases hc : apB (rd_T41 l (j : Int)) (rd_T41 l (i : Int)) with
    | true => rfl
    | false =>
      have := (take_any l (fun u => !(apB u (rd_T41 l (i : Int)))) i (by omega)).2 ⟨j, hj, by simp [hc]⟩
      rw [this] at g2
      cases g2
  rw [ap_eq _ _ (mem_rd hb j (by omega)) (mem_rd hb i hi)] at hap
  exact of_decide_eq_true hap
/-- The window of an address, as the program seeks it. -/
def hasB (a : Int) (v : S41) : Bool := decide (v.f0 ≤ a) && decide (a < wrap64 (v.f0 + v.f1))
theorem at_i (l : List S41) (a : Int) : impl_windowAt.f l a = some (idxB (hasB a) l) := rfl
theorem has_s (v : S41) (a : Int) : spec_l07Has.f v.f0 v.f1 v.f2 a = some (hasB a v) := by
  unfold spec_l07Has.f hasB
  by_cases h : a ≥ v.f0
  · rw [if_pos h, decide_eq_true h, Bool.true_and]
  · rw [if_neg h, decide_eq_false h]
    rfl
theorem idx_range (p : S41 → Bool) (l : List S41) : idxB p l = -1 ∨ ∃ i : Nat, idxB p l = (i : Int) ∧ i < l.length ∧ p (rd_T41 l (i : Int)) = true := by
  unfold idxB
  cases h : l.findIdx? p with
  | none => exact .inl rfl
  | some i =>
    rw [List.findIdx?_eq_some_iff_getElem] at h
    obtain ⟨hi, hp, _⟩ := h
    refine .inr ⟨i, rfl, hi, ?_⟩
    have := rd_at l i hi
    rw [List.getElem?_eq_getElem hi] at this
    injection this with this
    rw [← this]
    exact hp
theorem idx_none (p : S41 → Bool) (l : List S41) (h : idxB p l < 0) : ∀ x ∈ l, p x = false := by
  unfold idxB at h
  cases h2 : l.findIdx? p with
  | none =>
    intro x hx
    exact List.findIdx?_eq_none_iff.1 h2 x hx
  | some i => rw [h2] at h; exact absurd h (by show ¬ ((i : Int) < 0); omega)
/-- A law's windows as the program's. -/
def toW (v : S45) : S41 := ⟨v.f0, v.f1, v.f2⟩
theorem rdL (l : List S45) (j : Nat) (a : S45) (h : l[j]? = some a) : rd_T45 l (j : Int) = a := by
  unfold rd_T45
  rw [Int.toNat_natCast, List.getD_eq_getElem?_getD, h]
  rfl
theorem sz_w (l : List S45) (hl : l.length ≤ maxLen) (m : Int) (h0 : 0 ≤ m) (h1 : m ≤ 9000000) : laws_szWindowS.f l m = some (if m < (l.length : Int) then -1 else m - (l.length : Int)) := by
  unfold maxLen at hl
  unfold laws_szWindowS.f
  rw [wr (by omega) (by omega)]
  split <;> split <;> first | rfl | omega
theorem to_w (l : List S45) (hl : l.length ≤ 9000000) (k : Nat) (hk : l.length < k) : laws_toWindowS.f k l = some (l.map toW) := by
  unfold laws_toWindowS.f
  rw [if_pos (by omega), if_pos (by omega)]
  exact to_all laws_toWindowS.l0 toW (fun x0 i => (⟨(rd_T45 x0 i).f0, (rd_T45 x0 i).f1, (rd_T45 x0 i).f2⟩ : S41)) (fun _ _ _ _ => rfl) l (fun j a h => by rw [rdL l j a h]; rfl) z41 (by omega) k hk
theorem eq_w (l : List S41) (hl : l.length ≤ 9000000) (k : Nat) (hk : l.length < k) : laws_eqWindowS.f k l l = some true := by
  unfold laws_eqWindowS.f
  rw [if_pos rfl]
  have := eq_calls laws_eqWindowS.l0 (fun _ x0 x1 i => laws_eqWindow.f (rd_T41 x0 i).f0 (rd_T41 x0 i).f1 (rd_T41 x0 i).f2 (rd_T41 x1 i).f0 (rd_T41 x1 i).f1 (rd_T41 x1 i).f2) 0 (fun _ _ _ _ => rfl) l
    (fun _ _ i _ => by unfold laws_eqWindow.f; simp) (by omega) l.length k 0 (by omega) (by omega) (by omega)
  exact this
theorem map_wf (l : List S45) (hl : ∀ x ∈ l, (Lit.int .i64 x.f0).wf = true ∧ (Lit.int .i64 x.f1).wf = true ∧ (Lit.int .i64 x.f2).wf = true) : ∀ x ∈ l.map toW, WfW x := by
  intro x hx
  obtain ⟨y, hy, rfl⟩ := List.mem_map.1 hx
  exact hl y hy
end Go.Proofs.Ytampcamihaleaaa.AidWJ
