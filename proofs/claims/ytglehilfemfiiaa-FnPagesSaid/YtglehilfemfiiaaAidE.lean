/- Plain laws of the functions over tables of pages. No program in sight. -/
import Derived.Test.YtglehilfemfiiaaGEx6
import Derived.Test.YtglehilfemfiiaaGEx9
import Derived.Test.YtglehilfemfiiaaGEx10
import Derived.Test.YtglehilfemfiiaaGEx11
import Derived.Test.YtglehilfemfiiaaTluE
import Derived.Test.YtglehilfemfiiaaLst
namespace Go.Proofs.Ytglehilfemfiiaa.AidE
open Go.RowKit Go.Proofs.Ytglehilfemfiiaa Go.Proofs.Ytglehilfemfiiaa.GE Go.Proofs.Ytglehilfemfiiaa.Lst Go.Proofs.YtglehilfemfiiaaW.PrintWords Go.Proofs.YtglehilfemfiiaaW.PrintLast
theorem in_i (a b c : Int) : impl_within.f a b c = some (decide (b ≤ a ∧ a ≤ c)) := by
  unfold impl_within.f; split <;> simp_all <;> omega
theorem in_s (a b c : Int) : spec_l01In.f a b c = some (decide (b ≤ a ∧ a ≤ c)) := by
  unfold spec_l01In.f; split <;> simp_all <;> omega
theorem addr_i (a : Int) : impl_isAddr.f a = some (decide (0 ≤ a ∧ a ≤ 65535)) := by
  unfold impl_isAddr.f
  rw [in_i]
  rfl
/-- The page at place j is a page, and not one of those before it. -/
def Good (l : List Int) (j : Nat) : Prop := (0 ≤ rd l (j : Int) ∧ rd l (j : Int) ≤ 1023) ∧ ∀ i, i < j → rd l (i : Int) ≠ rd l (j : Int)
def TlbP (s : Int) (l : List Int) : Prop := 1 ≤ s ∧ s ≤ 8 ∧ (l.length : Int) ≤ s ∧ ∀ j, j < l.length → Good l j
theorem mem_take (l : List Int) (j : Nat) (p : Int) (hj : j ≤ l.length) : p ∈ l.take j ↔ ∃ i, i < j ∧ rd l (i : Int) = p := by
  constructor
  · intro h
    obtain ⟨i, hi⟩ := List.getElem?_of_mem h
    have hlt := (List.getElem?_eq_some_iff.1 hi).1
    rw [List.length_take] at hlt
    rw [List.getElem?_take, if_pos (by omega)] at hi
    exact ⟨i, by omega, rd_get l i p hi⟩
  · rintro ⟨i, hi, e⟩
    have h2 := rd_int l i (by omega)
    rw [e] at h2
    exact List.mem_of_getElem? (i := i) (by rw [List.getElem?_take, if_pos hi]; exact h2)
theorem more (l : List Int) (i : Nat) (hi : i < l.length) : (∀ j, i ≤ j → j < l.length → Good l j) ↔ (Good l i ∧ ∀ j, i + 1 ≤ j → j < l.length → Good l j) := by
  constructor
  · exact fun h => ⟨h i (Nat.le_refl _) hi, fun j hj hl => h j (by omega) hl⟩
  · rintro ⟨h1, h2⟩ j hj hl
    by_cases e : j = i
    · exact e ▸ h1
    · exact h2 j (by omega) hl
theorem tlb_l0 (l : List Int) (s : Int) (hl : l.length ≤ 8) : ∀ (d k i : Nat), i ≤ l.length → l.length - i = d → d + 10 < k → ∃ b, impl_isTlb.l0 k l (l.length : Int) (i : Int) s l = some b ∧ (b = true ↔ ∀ j, i ≤ j → j < l.length → Good l j) := by
  intro d
  induction d with
  | zero =>
    intro k i hi hd hk
    obtain ⟨k, rfl⟩ : ∃ m, k = m + 1 := ⟨k - 1, by omega⟩
    have hz : ¬ (i : Int) < (l.length : Int) := by omega
    refine ⟨true, by simp only [impl_isTlb.l0]; rw [if_neg hz], ?_⟩
    exact ⟨fun _ j h1 h2 => absurd h2 (by omega), fun _ => rfl⟩
  | succ d ih =>
    intro k i hi hd hk
    obtain ⟨k, rfl⟩ : ∃ m, k = m + 1 := ⟨k - 1, by omega⟩
    have hlt : i < l.length := by omega
    have h1 : (i : Int) < (l.length : Int) := by omega
    have h2 : (0 : Int) ≤ (i : Int) := by omega
    have h3 : (i : Int) ≤ (l.length : Int) := by omega
    obtain ⟨b, hb, hb'⟩ := ih k (i + 1) (by omega) (by omega) (by omega)
    have hcon := contains_f (l.take i) (rd l (i : Int)) (by rw [List.length_take]; omega) k (by rw [List.length_take]; omega)
    have hwr := wsucc (n := i) (by omega)
    have hmt := mem_take l i (rd l (i : Int)) hi
    rw [more l i hlt]
    simp only [impl_isTlb.l0]
    rw [if_pos h1, if_pos h2, if_pos h1, in_i, Option.bind_some, Int.toNat_natCast]
    by_cases hr : 0 ≤ rd l (i : Int) ∧ rd l (i : Int) ≤ 1023
    · rw [if_pos (by simpa using hr), if_pos h3, hcon, Option.bind_some]
      by_cases hm : rd l (i : Int) ∈ l.take i
      · rw [if_pos (by simpa using hm)]
        refine ⟨false, rfl, ⟨fun h => absurd h (by decide), fun h => ?_⟩⟩
        obtain ⟨j, hj, e⟩ := hmt.1 hm
        exact absurd e (h.1.2 j hj)
      · rw [if_neg (by simpa using hm), hwr, hb]
        refine ⟨b, rfl, hb'.trans ⟨fun h => ⟨⟨hr, fun j hj e => hm (hmt.2 ⟨j, hj, e⟩)⟩, h⟩, fun h => h.2⟩⟩
    · rw [if_neg (by simpa using hr)]
      exact ⟨false, rfl, ⟨fun h => absurd h (by decide), fun h => absurd h.1.1 hr⟩⟩
theorem tlb_i (s : Int) (l : List Int) (hl : l.length ≤ 9000000) (k : Nat) (hk : 20 ≤ k) : ∃ b, impl_isTlb.f k s l = some b ∧ (b = true ↔ TlbP s l) := by
  obtain ⟨k, rfl⟩ : ∃ m, k = m + 1 := ⟨k - 1, by omega⟩
  unfold impl_isTlb.f TlbP
  rw [in_i, Option.bind_some]
  by_cases h1 : 1 ≤ s ∧ s ≤ 8
  · rw [if_pos (by simpa using h1)]
    simp only [impl_isTlb.j0]
    by_cases h2 : (l.length : Int) > s
    · rw [if_pos (by simpa using h2)]
      exact ⟨false, rfl, ⟨fun h => absurd h (by decide), fun h => absurd h.2.2.1 (by omega)⟩⟩
    · rw [if_neg (by simpa using h2)]
      obtain ⟨b, hb, hb'⟩ := tlb_l0 l s (by omega) l.length k 0 (Nat.zero_le _) (by omega) (by omega)
      exact ⟨b, hb, hb'.trans ⟨fun h => ⟨h1.1, h1.2, by omega, fun j hj => h j (Nat.zero_le _) hj⟩, fun h j _ hj => h.2.2.2 j hj⟩⟩
  · rw [if_neg (by simpa using h1)]
    simp only [impl_isTlb.j0]
    exact ⟨false, rfl, ⟨fun h => absurd h (by decide), fun h => absurd ⟨h.1, h.2.1⟩ h1⟩⟩
theorem ok_l1 (l : List Int) (s : Int) (hl : l.length ≤ 8) (i : Nat) (hi : i < l.length) (hg : 0 ≤ rd l (i : Int) ∧ rd l (i : Int) ≤ 1023) (c : Nat) (b : Bool) (hb : ∀ k, c < k → spec_TlbOk.l0 k ((i + 1 : Nat) : Int) s l = some b) (hb' : b = true ↔ ∀ j, i + 1 ≤ j → j < l.length → Good l j) :
    ∀ (d k m : Nat), m ≤ i → i - m = d → c + d + 1 < k → (∀ j, j < m → rd l (j : Int) ≠ rd l (i : Int)) → ∃ b, spec_TlbOk.l1 k (i : Int) (m : Int) s l = some b ∧ (b = true ↔ (Good l i ∧ ∀ j, i + 1 ≤ j → j < l.length → Good l j)) := by
  intro d
  induction d with
  | zero =>
    intro k m hm hd hk hn
    obtain ⟨k, rfl⟩ : ∃ m, k = m + 1 := ⟨k - 1, by omega⟩
    have e : m = i := by omega
    subst e
    have hz : ¬ (m : Int) < (m : Int) := by omega
    refine ⟨b, by simp only [spec_TlbOk.l1]; rw [if_neg hz, wsucc (by omega)]; exact hb k (by omega), hb'.trans ⟨fun h => ⟨⟨hg, hn⟩, h⟩, fun h => h.2⟩⟩
  | succ d ih =>
    intro k m hm hd hk hn
    obtain ⟨k, rfl⟩ : ∃ m, k = m + 1 := ⟨k - 1, by omega⟩
    have h1 : (m : Int) < (i : Int) := by omega
    have h2 : (0 : Int) ≤ (m : Int) := by omega
    have h3 : (m : Int) < (l.length : Int) := by omega
    have h4 : (0 : Int) ≤ (i : Int) := by omega
    have h5 : (i : Int) < (l.length : Int) := by omega
    simp only [spec_TlbOk.l1]
    rw [if_pos h1, if_pos h2, if_pos h3, if_pos h4, if_pos h5]
    by_cases e : rd l (m : Int) = rd l (i : Int)
    · rw [if_pos e]
      exact ⟨false, rfl, ⟨fun h => absurd h (by decide), fun h => absurd e (h.1.2 m (by omega))⟩⟩
    · rw [if_neg e, wsucc (by omega)]
      refine ih k (m + 1) (by omega) (by omega) (by omega) (fun j hj => ?_)
      by_cases ej : j = m
      · exact ej ▸ e
      · exact hn j (by omega)
theorem ok_l0 (l : List Int) (s : Int) (hl : l.length ≤ 8) : ∀ (d i : Nat), i ≤ l.length → l.length - i = d → ∃ b, (∀ k, 12 * d < k → spec_TlbOk.l0 k (i : Int) s l = some b) ∧ (b = true ↔ ∀ j, i ≤ j → j < l.length → Good l j) := by
  intro d
  induction d with
  | zero =>
    intro i hi hd
    have hz : ¬ (i : Int) < (l.length : Int) := by omega
    refine ⟨true, fun k hk => ?_, ⟨fun _ j h1 h2 => absurd h2 (by omega), fun _ => rfl⟩⟩
    obtain ⟨k, rfl⟩ : ∃ m, k = m + 1 := ⟨k - 1, by omega⟩
    simp only [spec_TlbOk.l0]
    rw [if_neg hz]
  | succ d ih =>
    intro i hi hd
    have hlt : i < l.length := by omega
    have h1 : (i : Int) < (l.length : Int) := by omega
    have h2 : (0 : Int) ≤ (i : Int) := by omega
    obtain ⟨b, hb, hb'⟩ := ih (i + 1) (by omega) (by omega)
    rw [more l i hlt]
    by_cases hr : 0 ≤ rd l (i : Int) ∧ rd l (i : Int) ≤ 1023
    · have main : ∀ k, 12 * d + i + 1 < k → ∃ b, spec_TlbOk.l1 k (i : Int) (0 : Int) s l = some b ∧ (b = true ↔ (Good l i ∧ ∀ j, i + 1 ≤ j → j < l.length → Good l j)) := fun k hk =>
        ok_l1 l s hl i hlt hr (12 * d) b hb hb' i k 0 (Nat.zero_le _) (by omega) hk (fun j hj => absurd hj (Nat.not_lt_zero _))
      obtain ⟨b0, e0, hb0⟩ := main (12 * d + i + 2) (by omega)
      refine ⟨b0, fun k hk => ?_, hb0⟩
      obtain ⟨k, rfl⟩ : ∃ m, k = m + 1 := ⟨k - 1, by omega⟩
      simp only [spec_TlbOk.l0]
      rw [if_pos h1, if_pos h2, in_s, Option.bind_some, if_pos (by simpa using hr)]
      obtain ⟨b1, e1, hb1⟩ := main k (by omega)
      rw [e1]
      congr 1
      exact Bool.eq_iff_iff.2 (hb1.trans hb0.symm)
    · refine ⟨false, fun k hk => ?_, ⟨fun h => absurd h (by decide), fun h => absurd h.1.1 hr⟩⟩
      obtain ⟨k, rfl⟩ : ∃ m, k = m + 1 := ⟨k - 1, by omega⟩
      simp only [spec_TlbOk.l0]
      rw [if_pos h1, if_pos h2, in_s, Option.bind_some, if_neg (by simpa using hr)]
theorem tlb_s (s : Int) (l : List Int) (hl : l.length ≤ 9000000) (k : Nat) (hk : 130 ≤ k) : ∃ b, spec_TlbOk.f k s l = some b ∧ (b = true ↔ TlbP s l) := by
  obtain ⟨k, rfl⟩ : ∃ m, k = m + 1 := ⟨k - 1, by omega⟩
  unfold spec_TlbOk.f TlbP
  rw [in_s, Option.bind_some]
  by_cases h1 : 1 ≤ s ∧ s ≤ 8
  · rw [if_pos (by simpa using h1)]
    simp only [spec_TlbOk.j0]
    by_cases h2 : (l.length : Int) > s
    · rw [if_pos (by simpa using h2)]
      exact ⟨false, rfl, ⟨fun h => absurd h (by decide), fun h => absurd h.2.2.1 (by omega)⟩⟩
    · rw [if_neg (by simpa using h2)]
      obtain ⟨b, hb, hb'⟩ := ok_l0 l s (by omega) l.length 0 (Nat.zero_le _) (by omega)
      exact ⟨b, hb k (by omega), hb'.trans ⟨fun h => ⟨h1.1, h1.2, by omega, fun j hj => h j (Nat.zero_le _) hj⟩, fun h j _ hj => h.2.2.2 j hj⟩⟩
  · rw [if_neg (by simpa using h1)]
    simp only [spec_TlbOk.j0]
    exact ⟨false, rfl, ⟨fun h => absurd h (by decide), fun h => absurd ⟨h.1, h.2.1⟩ h1⟩⟩
/-- A search from the front, told of any function that obeys the loop's equation. -/
theorem has_loop (F : Nat → List Int → Int → Int → Option Bool) (hF : ∀ k x0 x1 i, F (k + 1) x0 x1 i = if i < (x0.length : Int) then (if 0 ≤ i then (if (rd x0 i) = x1 then (some true) else (F k x0 x1 (wrap64 (i + 1)))) else (none)) else (some false))
    (p : Int) (l : List Int) (hl : l.length ≤ 9000000000000000) : ∀ (d k i : Nat), i ≤ l.length → l.length - i = d → d < k → (∀ j, j < i → l[j]? ≠ some p) → F k l p (i : Int) = some (decide (p ∈ l)) := by
  intro d
  induction d with
  | zero =>
    intro k i hi hd hk hn
    obtain ⟨k, rfl⟩ : ∃ m, k = m + 1 := ⟨k - 1, by omega⟩
    have hz : ¬ (i : Int) < (l.length : Int) := by omega
    have hp : p ∉ l := by
      intro hm
      obtain ⟨j, hj⟩ := List.getElem?_of_mem hm
      exact hn j (by have := (List.getElem?_eq_some_iff.1 hj).1; omega) hj
    rw [hF, if_neg hz, decide_eq_false hp]
  | succ d ih =>
    intro k i hi hd hk hn
    obtain ⟨k, rfl⟩ : ∃ m, k = m + 1 := ⟨k - 1, by omega⟩
    have hlt : i < l.length := by omega
    have h1 : (i : Int) < (l.length : Int) := by omega
    have h2 : (0 : Int) ≤ (i : Int) := by omega
    have hr := rd_int l i hlt
    rw [hF, if_pos h1, if_pos h2]
    by_cases e : rd l (i : Int) = p
    · have hm : p ∈ l := List.mem_of_getElem? (i := i) (by rw [hr, e])
      rw [if_pos e, decide_eq_true hm]
    · rw [if_neg e, wsucc (by omega)]
      refine ih k (i + 1) (by omega) (by omega) (by omega) (fun j hj => ?_)
      by_cases ej : j = i
      · subst ej
        rw [hr]
        intro he
        injection he with he
        exact e he
      · exact hn j (by omega)
theorem has_s (p : Int) (l : List Int) (hl : l.length ≤ 9000000) (k : Nat) (hk : l.length < k) : spec_l06Has.f k l p = some (decide (p ∈ l)) :=
  has_loop spec_l06Has.l0 (fun _ _ _ _ => rfl) p l (by omega) l.length k 0 (Nat.zero_le _) (by omega) hk (fun j hj => absurd hj (Nat.not_lt_zero _))
theorem use_s (s : Int) (l : List Int) (a : Int) (hl : l.length ≤ 9000000) (k : Nat) (hk : l.length < k) : spec_l06Use.f k s l a = some (s, (useF s l (wrap64 (Int.tdiv a 64))).2, (useF s l (wrap64 (Int.tdiv a 64))).1) := by
  unfold spec_l06Use.f useF
  simp only [Option.bind_some, List.nil_append, List.length_nil]
  rw [if_pos (by omega), has_s _ l hl k hk, Option.bind_some]
  generalize wrap64 (Int.tdiv a 64) = p
  by_cases h : p ∈ l
  · rw [if_pos (by simpa using h), if_pos h]
  · rw [if_neg (by simpa using h), if_neg h, if_pos (by omega)]
    have e : ((l ++ [p]).length : Int) = (l.length : Int) + 1 := by simp
    have e2 : ((l ++ [p]).drop 1).length = l.length := by simp
    by_cases h2 : s < (l.length : Int) + 1
    · rw [if_pos (by rw [e]; exact h2), if_pos (by rw [e]; omega), if_pos (by omega), if_pos h2]
    · rw [if_neg (by rw [e]; exact h2), if_neg h2]
theorem sz_t (s : Int) (l : List Int) (hl : l.length ≤ maxLen) : laws_szTlb.f s l 1048576 = some (if (1048576 : Int) < (l.length : Int) then -1 else 1048576 - (l.length : Int)) := by
  unfold maxLen at hl
  unfold laws_szTlb.f laws_szIntS.f
  rw [wr (by omega) (by omega)]
  by_cases h : (1048576 : Int) - (l.length : Int) < 0
  · rw [if_pos h, Option.bind_some, if_pos (by decide), if_pos (by omega)]
  · rw [if_neg h, Option.bind_some, if_neg h, if_neg (by omega)]
theorem to_t (s : Int) (l : List Int) (hl : l.length ≤ 9000000) (k : Nat) (hk : l.length < k) : laws_toTlb.f k s l = some (s, l) := by
  unfold laws_toTlb.f laws_toIntS.f
  rw [if_pos (by omega), if_pos (by omega), to_int laws_toIntS.l0 (fun _ _ _ _ => rfl) l (by omega) k hk]
  rfl
theorem eq_t (s : Int) (l : List Int) (hl : l.length ≤ 9000000) (k : Nat) (hk : l.length < k) : laws_eqTlb.f k s l s l = some true := by
  unfold laws_eqTlb.f laws_eqIntS.f
  rw [if_pos rfl, if_pos rfl, eq_int laws_eqIntS.l0 (fun _ _ _ _ => rfl) l (by omega) k hk]
  rfl
theorem mark_t (s : Int) (l : List Int) (hl : l.length ≤ 9000000) (k : Nat) (hk : l.length < k) : laws_markTlb.f k s l 1 = some (1 + (l.length : Int), marks (fun x => x) 1 l.length) := by
  unfold laws_markTlb.f laws_markIntS.f
  rw [mark_all laws_markIntS.l0 (fun x => x) (fun _ _ _ _ => rfl) l 1 (by decide) (by omega) k hk]
  rfl
theorem held_t (s : Int) (n : Nat) (hl : n ≤ 9000000) (k : Nat) (hk : n < k) : laws_heldTlb.f k s (marks (fun x => x) 1 n) 1 = some (1 + (n : Int)) := by
  unfold laws_heldTlb.f laws_heldIntS.f
  rw [held_int laws_heldIntS.l0 (fun x => x) (fun _ _ _ _ => rfl) 1 n (by decide) (by omega) k hk, Option.bind_some, if_neg (by omega)]
end Go.Proofs.Ytglehilfemfiiaa.AidE
