/- Plain laws of the loops that mark rows of structs and ask for the marks: s numbers an element. Said of any function that obeys the loop's step; no program in sight. -/
import Derived.Test.YtbcpkigeginmnaaLstK
namespace Go.Proofs.Ytbcpkigeginmnaa.Lst
open Go.RowKit Go.Proofs.YtbcpkigeginmnaaW.PrintWords Go.Proofs.YtbcpkigeginmnaaW.PrintLast
/-- n marks from m on, s numbers each. -/
def marksS {β : Type} (g : Int → β) (s : Nat) (m : Int) (n : Nat) : List β := (List.range n).map fun (j : Nat) => g (m + (s : Int) * (j : Int))
theorem marksS_length {β : Type} (g : Int → β) (s : Nat) (m : Int) (n : Nat) : (marksS g s m n).length = n := by simp [marksS]
theorem marksS_succ {β : Type} (g : Int → β) (s : Nat) (m : Int) (n : Nat) : marksS g s m (n + 1) = marksS g s m n ++ [g (m + (s : Int) * (n : Int))] := by simp [marksS, List.range_succ]
theorem mark_allS {β : Type} (F : Nat → List β → Int → Int → Option (Int × List β)) (g : Int → β) (s : Nat) (hs : s ≤ 100)
    (hF : ∀ (k : Nat) (x0 : List β) (m : Int) (i : Nat), 0 ≤ m → m ≤ 9000000000 → i < x0.length → x0.length ≤ 9000000 → F (k + 1) x0 m (i : Int) = F k (x0.set i (g m)) (m + (s : Int)) ((i + 1 : Nat) : Int))
    (hE : ∀ (k : Nat) (x0 : List β) (m : Int) (i : Nat), ¬ i < x0.length → F (k + 1) x0 m (i : Int) = some (m, x0))
    (l : List β) (m : Int) (h0 : 0 ≤ m) (hm : m ≤ 90000000) (hl : l.length ≤ 9000000) (k : Nat) (hk : l.length < k) : F k l m 0 = some (m + (s : Int) * (l.length : Int), marksS g s m l.length) := by
  have loop : ∀ (d k i : Nat), i ≤ l.length → l.length - i = d → d < k → F k (marksS g s m i ++ l.drop i) (m + (s : Int) * (i : Int)) (i : Int) = some (m + (s : Int) * (l.length : Int), marksS g s m l.length) := by
    intro d
    induction d with
    | zero =>
      intro k i hi hd hk
      obtain ⟨k, rfl⟩ : ∃ m, k = m + 1 := ⟨k - 1, by omega⟩
      obtain rfl : i = l.length := by omega
      rw [hE k _ _ _ (by simp [marksS_length])]
      simp
    | succ d ih =>
      intro k i hi hd hk
      obtain ⟨k, rfl⟩ : ∃ m, k = m + 1 := ⟨k - 1, by omega⟩
      have hlt : i < l.length := by omega
      have hb0 : 0 ≤ (s : Int) * (i : Int) := Int.mul_nonneg (by omega) (by omega)
      have hb : (s : Int) * (i : Int) ≤ 100 * 9000000 := Int.mul_le_mul (by omega) (by omega) (by omega) (by omega)
      rw [hF k _ _ i (by omega) (by omega) (by simp [marksS_length]; omega) (by simp [marksS_length]; omega)]
      have e : (marksS g s m i ++ l.drop i).set i (g (m + (s : Int) * (i : Int))) = marksS g s m (i + 1) ++ l.drop (i + 1) := by
        rw [List.drop_eq_getElem_cons hlt, List.set_append_right i _ (by simp [marksS_length]), marksS_length, Nat.sub_self, List.set_cons_zero, marksS_succ, List.append_assoc]
        rfl
      rw [e, show m + (s : Int) * (i : Int) + (s : Int) = m + (s : Int) * ((i + 1 : Nat) : Int) by rw [Int.natCast_add, Int.mul_add]; omega]
      exact ih k (i + 1) (by omega) (by omega) (by omega)
  have := loop l.length k 0 (by omega) (by omega) hk
  simpa [marksS] using this
end Go.Proofs.Ytbcpkigeginmnaa.Lst
