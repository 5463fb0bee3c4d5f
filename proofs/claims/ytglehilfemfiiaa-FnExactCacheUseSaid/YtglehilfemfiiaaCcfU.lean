/- newCache, and a cache as its blocks, walked by hand. -/
import Derived.Test.YtglehilfemfiiaaCceU
import Derived.Test.YtglehilfemfiiaaCcbU
import Derived.Laws.MakeOwn
namespace Go.Proofs.Ytglehilfemfiiaa.GU
open Go.RowKit Go.Proofs.YtglehilfemfiiaaW.PrintWords Go.Proofs.YtglehilfemfiiaaW.PrintLast Go.Proofs.YtglehilfemfiiaaW.PrintMore Go.Proofs.Ytglehilfemfiiaa.Q Go.Proofs.Ytglehilfemfiiaa.Hnd
set_option linter.unusedVariables false
set_option linter.unusedSimpArgs false
theorem ins_calls (A : Option Addr) (n c gv : Nat) (x : S118) (l : List S118) (W : World) (base : Nat) (hr : Kd.R k118 118 W base (fun _ => True) (.slice A n c) l) (hv : W.heap[gv]? = some (.cells #[.int .i64 x.f0, .bool x.f1] 118 (0, 0))) (hgv : (Value.slice A n c).ownBlock ≠ some gv) (hb : base ≤ W.heap.size) (hl : l.length < 1000) :
    Calls Try.prog 99 #[.slice A n c, .int .i64 0, .slice (some ⟨gv, 0, none⟩) 1 1] W (InsPost W base (.slice A n c) x l) := by
  have hn := (Kd.R_reads' hr).1
  cases l with
  | nil =>
    obtain rfl : n = 0 := hn
    exact ins_nil A c gv x W base hr hv hb
  | cons y ys =>
    obtain ⟨g, cap, e, _, _, _⟩ := Kd.R_form hr (by simp)
    injection e with e1 e2 e3
    subst e1; subst e3
    obtain ⟨m, rfl⟩ : ∃ m, n = m + 1 := ⟨ys.length, hn⟩
    have hc := (R_cells hr).2.2.1
    have hne : gv ≠ g := fun e => hgv (by rw [e]; rfl)
    by_cases h : m + 2 ≤ c
    · exact ins_room g m c gv x (y :: ys) W base hr hv hne hb h
    · obtain rfl : c = m + 1 := by omega
      exact ins_new g m gv x (y :: ys) W base hr hv hb (by simp at hn hl; omega)

theorem make_rows (n : Nat) (hn : n ≤ 1000) (w : World) : (Instr.makeSlice 68 (.int .i64 (n : Int)) (.int .i64 (n : Int))).run Try.prog w = .ok (.slice (some ⟨w.heap.size, 0, none⟩) n n) (w.alloc (.cells (List.replicate n (.slice none 0 0)).toArray 116)) := by
  obtain ⟨i, hi, hz0, hz1, hz2⟩ := info_parts info116
  have hr := run_make (P := Try.prog) w 68 116 i (.slice none 0 0) Try.underlying68 hi hz0 .i64 .i64 n n (by omega) (Int.le_refl _) (by rw [hz2]; omega) (by omega)
  rw [hz1] at hr
  simp only [Int.toNat_natCast, Nat.mul_one] at hr
  rw [hr]
  have e : madeCells (Value.slice none 0 0).cells n = (List.replicate n (Value.slice none 0 0)).toArray := by
    apply Array.ext'
    rw [show (Value.slice none 0 0).cells = #[.slice none 0 0] from rfl, toList_madeCells_one]
  rw [e]
set_option maxHeartbeats 1000000 in
set_option maxRecDepth 100000 in
theorem newCache_calls (n : Nat) (s1 s2 : Int) (w : World) (hn : n ≤ 1000) :
    Calls Try.prog 61 #[.agg #[.int .i64 (n : Int), .int .i64 s1, .int .i64 s2]] w fun e w' => ∃ g : Nat, e = .returned (.agg #[.int .i64 (n : Int), .int .i64 s1, .int .i64 s2, .slice (some ⟨g, 0, none⟩) n n]) ∧ w'.heap[g]? = some (.cells (List.replicate n (Value.slice none 0 0)).toArray 116 (0, 0)) ∧ w.heap.size ≤ g ∧ Below w.heap.size w w' := by
  have hmk := fun w => make_rows n hn w
  have hu70 := Try.underlying70
  have hu25 := Try.underlying25
  have n1 : w.heap.size ≠ w.heap.size + 1 := by omega
  have n2 : w.heap.size + 1 ≠ w.heap.size := by omega
  clear hn
  go_enter Try.func61, Try.ntmps61
  go_wp2
  go_region
  go_wp2
  refine bodyPost_ret (results_cell_row rfl _ _ (w.heap.size + 1) 70 #[.int .i64 (n : Int), .int .i64 s1, .int .i64 s2, .slice (some ⟨w.heap.size + 1 + 1, 0, none⟩) n n] (0, 0) _ rfl (blk_drew at3_1) Try.underlying70 rfl (by kernel_rfl)) rfl ⟨w.heap.size + 1 + 1, rfl, ?_, by omega, ((((Fr.refl (fun _ => False) w).alloc _).alloc _).alloc _).drew.below (fun _ h => h.elim) (Nat.le_refl _)⟩
  have h := blk_drew (at3_2 (w := w) (o0 := .cells #[.int .i64 (n : Int), .int .i64 s1, .int .i64 s2] 25) (o1 := .cells #[.int .i64 (n : Int), .int .i64 s1, .int .i64 s2, .slice (some ⟨w.heap.size + 1 + 1, 0, none⟩) n n] 70) (o2 := .cells (Array.replicate n (Value.slice none 0 0)) 116))
  rw [show (List.replicate n (Value.slice none 0 0)).toArray = Array.replicate n (Value.slice none 0 0) by simp]
  exact h
end Go.Proofs.Ytglehilfemfiiaa.GU
