/- math/bits.TrailingZeros32 and impl.Due, walked by hand, where the table holds what its initialiser lays. -/
import Derived.Test.YtnegmikmcccaeaaDoorGTx0
import Derived.Test.YtnegmikmcccaeaaDoorHnd
import Derived.Laws.Bits64b
import Derived.Lib.TrailingZeros
namespace Go.Proofs.YtnegmikmcccaeaaDoor.GT
open Go.RowKit Go.Proofs.YtnegmikmcccaeaaDoorW.PrintWords Go.Proofs.YtnegmikmcccaeaaDoorW.PrintLast Go.Proofs.YtnegmikmcccaeaaDoorW.PrintMore Go.Proofs.YtnegmikmcccaeaaDoor.Q Go.Proofs.YtnegmikmcccaeaaDoor.Hnd
set_option linter.unusedVariables false
set_option linter.unusedSimpArgs false
/-- The table in its variable. -/
def TabAt (w : World) : Prop := ∀ j, j < 32 → w.cell? ⟨0, j, none⟩ = some (.int .u8 ((Lib.deBruijn32tab.getD j 0 : Nat) : Int))
theorem wrap_u32' (n : Int) : IntKind.u32.wrap n = n % 4294967296 := by simp [IntKind.wrap, IntKind.signed, IntKind.bits]
theorem and_nat (a b : Nat) (ha : a < 4294967296) (hb : b < 4294967296) : bits .and .u32 (a : Int) (b : Int) = ((a &&& b : Nat) : Int) := by
  have hx : a &&& b < 2 ^ 32 := Nat.and_lt_two_pow _ (by omega)
  have h1 : (BitVec.ofInt 32 (a : Int)).toNat = a := by
    rw [BitVec.ofInt_natCast, BitVec.toNat_ofNat]; exact Nat.mod_eq_of_lt (by omega)
  have h2 : (BitVec.ofInt 32 (b : Int)).toNat = b := by
    rw [BitVec.ofInt_natCast, BitVec.toNat_ofNat]; exact Nat.mod_eq_of_lt (by omega)
  show IntKind.u32.wrap ((BitVec.ofInt 32 (a : Int) &&& BitVec.ofInt 32 (b : Int)).toNat : Int) = _
  rw [BitVec.toNat_and, h1, h2, wrap_u32']
  omega
theorem tz32_key (x a : Nat) (hx : x < 4294967296) (hx0 : x ≠ 0) (hlow : x &&& (4294967296 - x) = a) :
    bits BinOp.and IntKind.u32 (x : Int) (-(x : Int) % 4294967296) * 125613361 % 4294967296 / 134217728 = ((a * 125613361 % 4294967296 / 134217728 : Nat) : Int) := by
  have e1 : -(x : Int) % 4294967296 = ((4294967296 - x : Nat) : Int) := by omega
  rw [e1, and_nat x _ hx (by omega), hlow]
  omega
set_option maxHeartbeats 1000000 in
theorem tz32_core (x k idx : Nat) (w : World) (hx0 : ((x : Int) == 0) = false)
    (key : bits BinOp.and IntKind.u32 (x : Int) (-(x : Int) % 4294967296) * 125613361 % 4294967296 / 134217728 = (idx : Int))
    (hi : idx < 32) (hk : k < 32) (hcell : w.cell? ⟨0, idx, none⟩ = some (.int .u8 k)) :
    Calls Tryd.prog 20 #[.int .u32 x] w fun e w' => e = .returned (.int .i64 k) ∧ w' = w := by
  go_enter Tryd.func20, Tryd.ntmps20
  go_wp2_with (simp only [key])
  go_ret
  exact ⟨rfl, rfl⟩
theorem tz32_calls (x : Nat) (hx : x < 4294967296) (hx0 : x ≠ 0) (w : World) (hT : TabAt w) :
    Calls Tryd.prog 20 #[.int .u32 x] w fun e w' => e = .returned (.int .i64 (Lib.ctz 32 x)) ∧ w' = w := by
  obtain ⟨hlow, hk⟩ := Lib.lowest_bit 32 x hx0 hx
  obtain ⟨hi, htab⟩ := Lib.deBruijn32_at _ hk
  have hcell := hT _ hi
  rw [htab] at hcell
  exact tz32_core x _ _ w (by simp; omega) (tz32_key x _ hx hx0 hlow) hi hk hcell
theorem TabAt.q {w w' : World} (h : TabAt w) [q : Quiet w w'] : TabAt w' := fun j hj => pw_cell_below q.go (h j hj)
def impl_Due.f (a0_0 : Bool) (a0_1 : Int) (a0_2 : Int) (a0_3 : Int) (a0_4 : Int) (a0_5 : Bool) (a0_6 : Bool) (a0_7 : Int) (a1 : Int) : Option Int :=
  if 0 ≤ a0_7 ∧ a0_7 < 4294967296 then some (if a0_0 = true ∧ a0_6 = false then (if a0_5 = true ∧ a1 % 4294967296 ≥ a0_4 then 1 else if a0_7 = 0 then 0 else 2 + (Lib.ctz 32 a0_7.toNat : Int)) else 0) else none
theorem ctz_le (x : Nat) (hx : x < 4294967296) (hx0 : x ≠ 0) : Lib.ctz 32 x < 32 := (Lib.lowest_bit 32 x hx0 hx).2
set_option maxHeartbeats 2000000 in
set_option maxRecDepth 100000 in
theorem impl_Due.calls (a0_0 : Bool) (a0_1 : Int) (a0_2 : Int) (a0_3 : Int) (a0_4 : Int) (a0_5 : Bool) (a0_6 : Bool) (a0_7 : Int) (a1 : Int) (r : Int) (w : World) (hT : TabAt w) (h : impl_Due.f a0_0 a0_1 a0_2 a0_3 a0_4 a0_5 a0_6 a0_7 a1 = some r) :
    Calls Tryd.prog 8 #[.agg #[.bool a0_0, .int .u32 a0_1, .int .u32 a0_2, .int .u32 a0_3, .int .u32 a0_4, .bool a0_5, .bool a0_6, .int .u32 a0_7], .int .i64 a1] w fun e w' => e = .returned (.int .i64 r) ∧ Below w.heap.size w w' := by
  have hu26 := Tryd.underlying26
  unfold impl_Due.f at h
  split at h
  case isFalse => cases h
  case isTrue hp =>
  replace h := Option.some.inj h
  have HB := Aside0.mk (below_alloc (Below.refl w.heap.size w) (.cells #[.bool a0_0, .int .u32 a0_1, .int .u32 a0_2, .int .u32 a0_3, .int .u32 a0_4, .bool a0_5, .bool a0_6, .int .u32 a0_7] 26))
  have HT := Aside0.mk hT
  clear hT
  obtain ⟨x, rfl⟩ : ∃ x : Nat, a0_7 = (x : Int) := ⟨a0_7.toNat, by omega⟩
  have HX := Aside0.mk (show x < 4294967296 by omega)
  rw [Int.toNat_natCast] at h
  clear hp
  cases a0_0 with
  | false =>
    rw [if_neg (fun x => by cases x.1)] at h
    subst h
    go_enter Tryd.func8, Tryd.ntmps8
    go_wp2
    go_ret
    exact ⟨rfl, HB.out⟩
  | true =>
  cases a0_6 with
  | true =>
    rw [if_neg (fun x => by cases x.2)] at h
    subst h
    go_enter Tryd.func8, Tryd.ntmps8
    go_wp2
    go_ret
    exact ⟨rfl, HB.out⟩
  | false =>
  rw [if_pos ⟨rfl, rfl⟩] at h
  have pend : (hno : ¬ (a0_5 = true ∧ a1 % 4294967296 ≥ a0_4)) → Calls Tryd.prog 8 #[.agg #[.bool true, .int .u32 a0_1, .int .u32 a0_2, .int .u32 a0_3, .int .u32 a0_4, .bool a0_5, .bool false, .int .u32 (x : Int)], .int .i64 a1] w fun e w' => e = .returned (.int .i64 r) ∧ Below w.heap.size w w' := by
    intro hno
    rw [if_neg hno] at h
    have hc : a0_5 = false ∨ (a0_5 = true ∧ ¬ a1 % 4294967296 ≥ a0_4) := by
      cases a0_5 with
      | false => exact .inl rfl
      | true => exact .inr ⟨rfl, fun e => hno ⟨rfl, e⟩⟩
    clear hno
    by_cases h0 : x = 0
    · subst h0
      rw [if_pos (show ((0 : Nat) : Int) = 0 from rfl)] at h
      subst h
      rcases hc with rfl | ⟨rfl, hc⟩
      · go_enter Tryd.func8, Tryd.ntmps8
        go_wp2
        go_ret
        exact ⟨rfl, HB.out⟩
      · have hd : decide (a1 % 4294967296 ≥ a0_4) = false := decide_eq_false hc
        go_enter Tryd.func8, Tryd.ntmps8
        go_wp2
        go_ret
        exact ⟨rfl, HB.out⟩
    · rw [if_neg (by omega)] at h
      subst h
      have hz := ctz_le x HX.out h0
      have hn0 : ((x : Int) == 0) = false := beq_eq_false_iff_ne.mpr (by omega)
      have hn1 : ((x : Int) != 0) = true := bne_iff_ne.mpr (by omega)
      have H0 := Aside0.mk h0
      clear h0
      generalize hz0 : Lib.ctz 32 x = z at hz ⊢
      have HZ := Aside0.mk hz0
      clear hz0
      rcases hc with rfl | ⟨rfl, hc⟩
      · go_enter Tryd.func8, Tryd.ntmps8
        go_wp2_with (go_at_call 20; refine (tz32_calls x HX.out H0.out _ ?tab).mono ?_; (case tab => exact HT.out.q); rintro e w' ⟨rfl, rfl⟩; rw [HZ.out])
        go_ret
        exact ⟨rfl, HB.out⟩
      · have hd : decide (a1 % 4294967296 ≥ a0_4) = false := decide_eq_false hc
        go_enter Tryd.func8, Tryd.ntmps8
        go_wp2_with (go_at_call 20; refine (tz32_calls x HX.out H0.out _ ?tab).mono ?_; (case tab => exact HT.out.q); rintro e w' ⟨rfl, rfl⟩; rw [HZ.out])
        go_ret
        exact ⟨rfl, HB.out⟩
  by_cases hyes : a0_5 = true ∧ a1 % 4294967296 ≥ a0_4
  · rw [if_pos hyes] at h
    subst h
    obtain ⟨rfl, hc⟩ := hyes
    have hd : decide (a1 % 4294967296 ≥ a0_4) = true := decide_eq_true hc
    clear pend
    go_enter Tryd.func8, Tryd.ntmps8
    go_wp2
    go_ret
    exact ⟨rfl, HB.out⟩
  · exact pend hyes
end Go.Proofs.YtnegmikmcccaeaaDoor.GT
