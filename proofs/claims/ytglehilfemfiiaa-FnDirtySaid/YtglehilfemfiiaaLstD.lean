/- Plain laws of the loops that a law's own small functions run over lists: copying, holding against, marking, asking for the marks. Said of any function that obeys the loop's equation; no program in sight. -/
import Derived.Test.YtglehilfemfiiaaWMoreD
namespace Go.Proofs.Ytglehilfemfiiaa.Lst
open Go.RowKit Go.Proofs.YtglehilfemfiiaaW.PrintWords Go.Proofs.YtglehilfemfiiaaW.PrintLast

theorem w32 {n : Int} (h : (Lit.int .u32 n).wf = true) : 0 ≤ n ∧ n < 4294967296 := by
  simp only [Lit.wf, IntKind.min, IntKind.max, IntKind.signed, IntKind.bits, Bool.and_eq_true, decide_eq_true_eq, Bool.false_eq_true, if_false] at h
  omega
theorem w8 {n : Int} (h : (Lit.int .u8 n).wf = true) : 0 ≤ n ∧ n < 256 := by
  simp only [Lit.wf, IntKind.min, IntKind.max, IntKind.signed, IntKind.bits, Bool.and_eq_true, decide_eq_true_eq, Bool.false_eq_true, if_false] at h
  omega
theorem wr {n : Int} (h0 : -9223372036854775808 ≤ n) (h1 : n ≤ 9223372036854775807) : wrap64 n = n := by unfold wrap64; omega

theorem both {α : Type} {o : Option α} (h : ∃ r, o = some r) : ∃ r, o = some r ∧ o = some r := by
  obtain ⟨r, h⟩ := h
  exact ⟨r, h, h⟩

theorem rd_get (l : List Int) (j : Nat) (a : Int) (h : l[j]? = some a) : rd l (j : Int) = a := by
  unfold rd
  rw [Int.toNat_natCast, List.getD_eq_getElem?_getD, h]
  rfl

/-- n marks from m on. -/
def marks {β : Type} (h : Int → β) (m : Int) (n : Nat) : List β := (List.range n).map fun (j : Nat) => h (m + (j : Int))
end Go.Proofs.Ytglehilfemfiiaa.Lst
