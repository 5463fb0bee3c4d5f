/- The pure statement of the law FnTimer: a timer that is set rings from its cycle on, ahead of all devices, and once. No condition. -/
import Derived.Test.YtnegmikmcccaeaaDoorAidT
import Derived.Test.YtnegmikmcccaeaaDoorGTx6
namespace Go.Proofs.YtnegmikmcccaeaaDoor.Pure
open Go.RowKit Go.Proofs.YtnegmikmcccaeaaDoor Go.Proofs.YtnegmikmcccaeaaDoor.GT Go.Proofs.YtnegmikmcccaeaaDoor.AidT Go.Proofs.YtnegmikmcccaeaaDoorW.PrintWords Go.Proofs.YtnegmikmcccaeaaDoorW.PrintLast
namespace TimerAid
theorem in_i (a b c : Int) : impl_within.f a b c = some (decide (b ≤ a ∧ a ≤ c)) := by
  unfold impl_within.f; split <;> simp_all <;> omega
theorem w8 {n : Int} (h : (Lit.int .u8 n).wf = true) : 0 ≤ n ∧ n < 256 := by
  simp only [Lit.wf, IntKind.min, IntKind.max, IntKind.signed, IntKind.bits, Bool.and_eq_true, decide_eq_true_eq, Bool.false_eq_true, if_false] at h
  omega
theorem at_f (l : List Int) (hl : l.length ≤ 1048576) (hb : ∀ x ∈ l, (Lit.int .u8 x).wf = true) (a : Int) (h0 : 0 ≤ a) (h1 : a ≤ 100) : ∃ v, laws_at.f l a = some v ∧ 0 ≤ v ∧ v ≤ 255 := by
  unfold laws_at.f
  by_cases hc : a < (l.length : Int)
  · rw [if_pos hc, if_pos h0]
    have hm : rd l a ∈ l := by
      unfold rd
      rw [List.getD_eq_getElem?_getD, List.getElem?_eq_getElem (by omega)]
      exact List.getElem_mem _
    have := w8 (hb _ hm)
    exact ⟨_, rfl, by rw [wr (by omega) (by omega)]; omega, by rw [wr (by omega) (by omega)]; omega⟩
  · rw [if_neg hc]
    have e : wrap64 (wrap64 (a * 7) + (l.length : Int)) = a * 7 + (l.length : Int) := by rw [wr (n := a * 7) (by omega) (by omega), wr (by omega) (by omega)]
    rw [e, Int.tmod_eq_emod_of_nonneg (by omega)]
    exact ⟨_, rfl, by omega, by omega⟩
theorem word_f (l : List Int) (hl : l.length ≤ 1048576) (hb : ∀ x ∈ l, (Lit.int .u8 x).wf = true) (a : Int) (h0 : 0 ≤ a) (h1 : a ≤ 90) : ∃ v : Nat, laws_word.f l a = some (v : Int) ∧ v < 4294967296 := by
  obtain ⟨v0, e0, _⟩ := at_f l hl hb a h0 (by omega)
  obtain ⟨v1, e1, _⟩ := at_f l hl hb (a + 1) (by omega) (by omega)
  obtain ⟨v2, e2, _⟩ := at_f l hl hb (a + 2) (by omega) (by omega)
  obtain ⟨v3, e3, _⟩ := at_f l hl hb (a + 3) (by omega) (by omega)
  unfold laws_word.f
  rw [wr (n := a + 1) (by omega) (by omega), wr (n := a + 2) (by omega) (by omega), wr (n := a + 3) (by omega) (by omega), bs e0, bs e1, bs e2, bs e3]
  generalize hz : (((v0 % 4294967296 + 256 * (v1 % 4294967296) % 4294967296) % 4294967296 + 65536 * (v2 % 4294967296) % 4294967296) % 4294967296 + 16777216 * (v3 % 4294967296) % 4294967296) % 4294967296 = z
  exact ⟨z.toNat, by congr 1; omega, by omega⟩
theorem due_eq (b : Bool) (c d e f : Int) (g h : Bool) (x : Nat) (a : Int) (hx : x < 4294967296) : impl_Due.f b c d e f g h (x : Int) a = some (if b = true ∧ h = false then (if g = true ∧ a % 4294967296 ≥ f then 1 else if (x : Int) = 0 then 0 else 2 + (Lib.ctz 32 x : Int)) else 0) := by
  have h0 : 0 ≤ (x : Int) := by omega
  have h1 : (x : Int) < 4294967296 := by omega
  unfold impl_Due.f
  rw [if_pos ⟨h0, h1⟩, Int.toNat_natCast]
theorem and11 : bits .and .u32 1 1 = 1 := by decide +kernel
section
variable (a : Bool) (b c d e : Int) (f g : Bool) (h : Int) (x : Int)
theorem csr4 : impl_CsrWrite.f a b c d e f g h 4 x = some (a, b, c, d, x, f, g, h, true) := by
  unfold impl_CsrWrite.f
  rw [if_neg (by decide), if_neg (by decide), if_neg (by decide), if_pos rfl]
theorem csr5 : impl_CsrWrite.f a b c d e f g h 5 1 = some (a, b, c, d, e, true, g, h, true) := by
  unfold impl_CsrWrite.f
  rw [if_neg (by decide), if_neg (by decide), if_neg (by decide), if_neg (by decide), if_pos rfl, and11]
  rfl
theorem csr0 : impl_CsrWrite.f a b c d e f g h 0 1 = some (true, b, c, d, e, f, g, h, true) := by
  unfold impl_CsrWrite.f
  rw [if_pos rfl, and11]
  rfl
theorem csr3 : impl_CsrWrite.f a b c d e f g h 3 1 = some (a, b, c, d, e, f, g, h, false) := by
  unfold impl_CsrWrite.f
  rw [if_neg (by decide), if_neg (by decide), if_neg (by decide), if_neg (by decide), if_neg (by decide)]
end
end TimerAid
open TimerAid
theorem FnTimer : ∀ (l0 : List Int), (l0.length ≤ maxLen ∧ ∀ x ∈ l0, (Lit.int .u8 x).wf = true) → ∃ k, GT.laws_FnTimer.f k l0 = some true := by
  intro l hl
  refine ⟨10, ?_⟩
  unfold laws_FnTimer.f laws_big.f
  rw [Option.bind_some]
  by_cases hbig : (l.length : Int) > 1048576
  · rw [decide_eq_true hbig, if_pos rfl]
  · rw [decide_eq_false hbig, if_neg (by simp)]
    obtain ⟨t, et, t0, t1⟩ := at_f l (by omega) hl.2 2 (by decide) (by decide)
    obtain ⟨p, ep, hp⟩ := word_f l (by omega) hl.2 4 (by decide) (by decide)
    rw [bs et, bs ep, wr (n := t * 3) (by omega) (by omega)]
    have hor : bits .or .u32 (p : Int) 1 = ((p ||| 1 : Nat) : Int) := Bit.or_u32 p 0 (by omega) (by decide)
    have hx : (p ||| 1) < 4294967296 := Nat.or_lt_two_pow (n := 32) (by omega) (by decide)
    have hodd : (p ||| 1) % 2 = 1 := by rw [Nat.or_mod_two_eq_one]; exact .inr rfl
    have hne : (p ||| 1) ≠ 0 := by omega
    have hneI : ¬ ((p ||| 1 : Nat) : Int) = 0 := by omega
    have hctz : Lib.ctz 32 (p ||| 1) = 0 := by
      unfold Lib.ctz
      rw [if_neg hne]
      unfold Lib.ctzFrom
      rw [if_pos hodd]
    have hmod : t * 3 % 4294967296 = t * 3 := by omega
    rw [hor, hmod]
    generalize p ||| 1 = x at hx hodd hne hneI hctz
    have d1 := due_eq true 0 0 0 (t * 3) true false x (t * 3) hx
    have d2 := due_eq false 0 0 0 (t * 3) true false x (t * 3) hx
    have d3 := due_eq true 0 0 0 (t * 3) true false x (t * 3 - 1) hx
    have d4 := due_eq true 0 8 1 (t * 3) false false x (t * 3 + 1) hx
    rw [if_pos ⟨rfl, rfl⟩, if_pos ⟨rfl, by omega⟩] at d1
    rw [if_neg (fun z => by cases z.1)] at d2
    rw [if_pos ⟨rfl, rfl⟩, if_neg (fun z => by cases z.1), if_neg hneI, hctz] at d4
    have hW1 : wrap64 (t * 3 - 1) = t * 3 - 1 := wr (by omega) (by omega)
    have hW2 : wrap64 (t * 3 + 1) = t * 3 + 1 := wr (by omega) (by omega)
    have h18 : (1 : Int) % 4294967296 = 1 := by decide
    have hE : impl_Enter.f true 0 0 0 (t * 3) true false (x : Int) 1 8 = some (true, 0, 8, 1, t * 3, false, true, (x : Int), 0) := by
      unfold impl_Enter.f
      rw [in_i, bs rfl, decide_eq_true (by decide), if_pos rfl, if_pos rfl, h18]
    have hL : impl_Leave.f true 0 8 1 (t * 3) false true (x : Int) = some (true, 0, 8, 1, t * 3, false, false, (x : Int), 8, true) := by
      unfold impl_Leave.f
      rw [if_pos rfl]
    have fin : laws_FnTimer.j1 9 (t * 3) false true 0 0 0 (t * 3) true false (x : Int) = some true := by
      simp only [laws_FnTimer.j1]
      rw [if_neg (by simp), bs hE]
      dsimp only
      rw [bs hL]
      dsimp only
      rw [if_pos rfl, hW2, bs d4, if_pos (by rfl)]
      simp
    have c1 : impl_CsrWrite.f false 0 0 0 0 false false (x : Int) 4 (t * 3) = some (false, 0, 0, 0, t * 3, false, false, (x : Int), true) := csr4 _ _ _ _ _ _ _ _ _
    have c2 : impl_CsrWrite.f false 0 0 0 (t * 3) false false (x : Int) 5 1 = some (false, 0, 0, 0, t * 3, true, false, (x : Int), true) := csr5 _ _ _ _ _ _ _ _
    have c3 : impl_CsrWrite.f false 0 0 0 (t * 3) true false (x : Int) 0 1 = some (true, 0, 0, 0, t * 3, true, false, (x : Int), true) := csr0 _ _ _ _ _ _ _ _
    have c4 : impl_CsrWrite.f true 0 0 0 (t * 3) true false (x : Int) 3 1 = some (true, 0, 0, 0, t * 3, true, false, (x : Int), false) := csr3 _ _ _ _ _ _ _ _
    have e0 : ((0 : Int) != 0) = false := by decide
    rw [bs c1]
    dsimp only
    rw [bs c2]
    dsimp only
    rw [bs c3]
    dsimp only
    rw [bs c4]
    dsimp only
    rw [if_pos rfl, if_pos rfl, if_pos rfl, if_neg (by simp), bs d1, if_pos rfl, bs d2, e0]
    simp only [laws_FnTimer.j0]
    rw [if_neg (by simp)]
    by_cases hpos : t * 3 > 0
    · rw [if_pos ⟨rfl, rfl⟩, if_neg (fun z => by have := z.2; omega), if_neg hneI, hctz] at d3
      have e2 : ((2 : Int) + ((0 : Nat) : Int) != 2) = false := by decide
      rw [if_pos hpos, hW1, bs d3, e2, fin]
    · rw [if_neg hpos, fin]
end Go.Proofs.YtnegmikmcccaeaaDoor.Pure
