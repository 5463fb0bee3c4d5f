/- Plain laws of the loops that a law's own small functions run over lists: copying, holding against, marking, asking for the marks. Said of any function that obeys the loop's equation; no program in sight. -/
import Derived.Test.YtioifcanipijhaaWMoreT
namespace Go.Proofs.Ytioifcanipijhaa.Lst
open Go.RowKit Go.Proofs.YtioifcanipijhaaW.PrintWords Go.Proofs.YtioifcanipijhaaW.PrintLast

theorem w64 {n : Int} (h : (Lit.int .i64 n).wf = true) : -9223372036854775808 ≤ n ∧ n ≤ 9223372036854775807 := by
  simp only [Lit.wf, IntKind.min, IntKind.max, IntKind.signed, IntKind.bits, Bool.and_eq_true, decide_eq_true_eq, if_true] at h
  omega
theorem w32 {n : Int} (h : (Lit.int .u32 n).wf = true) : 0 ≤ n ∧ n < 4294967296 := by
  simp only [Lit.wf, IntKind.min, IntKind.max, IntKind.signed, IntKind.bits, Bool.and_eq_true, decide_eq_true_eq, Bool.false_eq_true, if_false] at h
  omega
theorem w8 {n : Int} (h : (Lit.int .u8 n).wf = true) : 0 ≤ n ∧ n < 256 := by
  simp only [Lit.wf, IntKind.min, IntKind.max, IntKind.signed, IntKind.bits, Bool.and_eq_true, decide_eq_true_eq, Bool.false_eq_true, if_false] at h
  omega
theorem wr {n : Int} (h0 : -9223372036854775808 ≤ n) (h1 : n ≤ 9223372036854775807) : wrap64 n = n := by unfold wrap64; omega

theorem both {α : Type} {o : Option α} (h : ∃ r, o = some r) : ∃ r, o = some r ∧ o = some r := by
  obtain ⟨r, h⟩ := h
  exact ⟨r, h, h⟩

theorem eq_loop {α : Type} (F : Nat → List α → List α → Int → Option Bool) (T : List α → List α → Int → Prop) [∀ a b i, Decidable (T a b i)]
    (hF : ∀ k x0 x1 i, F (k + 1) x0 x1 i = if i < (x0.length : Int) then (if 0 ≤ i then (if i < (x1.length : Int) then (if T x0 x1 i then F k x0 x1 (wrap64 (i + 1)) else some false) else none) else none) else some true)
    (l : List α) (hT : ∀ i, T l l i) (hl : l.length ≤ 9223372036854775806) (d : Nat) : ∀ (k i : Nat), i ≤ l.length → l.length - i = d → d < k → F k l l (i : Int) = some true := by
  induction d with
  | zero =>
    intro k i hi hd hk
    obtain ⟨k, rfl⟩ : ∃ m, k = m + 1 := ⟨k - 1, by omega⟩
    rw [hF, if_neg (by omega)]
  | succ d ih =>
    intro k i hi hd hk
    obtain ⟨k, rfl⟩ : ∃ m, k = m + 1 := ⟨k - 1, by omega⟩
    rw [hF, if_pos (by omega), if_pos (by omega), if_pos (by omega), if_pos (hT _), wr (by omega) (by omega)]
    have e : ((i : Int) + 1) = ((i + 1 : Nat) : Int) := by omega
    rw [e]
    exact ih k (i + 1) (by omega) (by omega) (by omega)
theorem eq_int (F : Nat → List Int → List Int → Int → Option Bool)
    (hF : ∀ k x0 x1 i, F (k + 1) x0 x1 i = if i < (x0.length : Int) then (if 0 ≤ i then (if i < (x1.length : Int) then (if rd x0 i = rd x1 i then F k x0 x1 (wrap64 (i + 1)) else some false) else none) else none) else some true)
    (l : List Int) (hl : l.length ≤ 9223372036854775806) (k : Nat) (hk : l.length < k) : F k l l 0 = some true :=
  eq_loop F (fun a b i => rd a i = rd b i) hF l (fun _ => rfl) hl l.length k 0 (by omega) (by omega) hk
/-- n marks from m on. -/
def marks {β : Type} (h : Int → β) (m : Int) (n : Nat) : List β := (List.range n).map fun (j : Nat) => h (m + (j : Int))
end Go.Proofs.Ytioifcanipijhaa.Lst
