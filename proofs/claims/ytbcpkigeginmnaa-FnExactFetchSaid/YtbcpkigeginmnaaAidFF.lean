/- Plain laws of an access: what both answer of it. No program in sight. -/
import Derived.Test.YtbcpkigeginmnaaGFx0
import Derived.Test.YtbcpkigeginmnaaGFx12
import Derived.Test.YtbcpkigeginmnaaGFx14
import Derived.Test.YtbcpkigeginmnaaGFx16
import Derived.Test.YtbcpkigeginmnaaAidFW
import Derived.Test.YtbcpkigeginmnaaBit
namespace Go.Proofs.Ytbcpkigeginmnaa.AidFF
open Go.RowKit Go.Proofs.Ytbcpkigeginmnaa Go.Proofs.Ytbcpkigeginmnaa.AidFW Go.Proofs.Ytbcpkigeginmnaa.GF Go.Proofs.YtbcpkigeginmnaaW.PrintWords Go.Proofs.YtbcpkigeginmnaaW.PrintLast
theorem bits_k (p kd : Int) (h1 : 1 ≤ p) (h7 : p ≤ 7) (hk : kd = 1 ∨ kd = 2 ∨ kd = 4) : (bits .and .i64 p kd = 0) = (Int.tmod (wrap64 (Int.tdiv p kd)) 2 = 0) := by
  have : p = 1 ∨ p = 2 ∨ p = 3 ∨ p = 4 ∨ p = 5 ∨ p = 6 ∨ p = 7 := by omega
  apply propext
  rcases this with rfl | rfl | rfl | rfl | rfl | rfl | rfl <;> rcases hk with rfl | rfl | rfl <;> first | decide +kernel | (constructor <;> intro h <;> revert h <;> decide +kernel)
/-- What both answer of right windows, size and kind. -/
def fltB (l : List S70) (a s kd : Int) : Int := if Int.tmod a s = 0 then (if idxB (hasB a) l < 0 then 2 else if bits .and .i64 ((rd_T70 l (idxB (hasB a) l)).f2) kd = 0 then 3 else 0) else 1
theorem fault_s (l : List S70) (hl : ∀ x ∈ l, WinB x) (hm : l.length ≤ 9000000) (a s kd : Int) (ha : (Lit.int .u32 a).wf = true) (hs : s = 1 ∨ s = 4) (hkd : kd = 1 ∨ kd = 2 ∨ kd = 4) (k : Nat) (hk : l.length < k) :
    spec_l07Fault.f k l a s kd = some (fltB l a s kd) := by
  have := Bit.w32 ha
  have hw : wrap64 a = a := by unfold wrap64; omega
  unfold spec_l07Fault.f fltB
  rw [hw, if_neg (by omega)]
  by_cases c : Int.tmod a s = 0
  · rw [if_pos c, if_pos c, at_s l a hm k hk, Option.bind_some]
    by_cases d : idxB (hasB a) l < 0
    · rw [if_pos d, if_pos d]
    · rw [if_neg d, if_neg d]
      rcases idx_range (hasB a) l with e | ⟨i, e, hi, _⟩
      · rw [e] at d; exact absurd d (by decide)
      · have hb := mem_rd hl i hi
        rw [e, if_pos (by omega), if_pos (by omega), if_neg (by omega)]
        simp only [bits_k _ kd hb.2.2.2.2.2.1 hb.2.2.2.2.2.2 hkd]
        by_cases g : Int.tmod (wrap64 (Int.tdiv (rd_T70 l (i : Int)).f2 kd)) 2 = 0
        · rw [if_pos g, if_pos g]
        · rw [if_neg g, if_neg g]
  · rw [if_neg c, if_neg c]
theorem fault_i (l : List S70) (a s kd : Int) (ha : (Lit.int .u32 a).wf = true) (hs : s = 1 ∨ s = 4) (k : Nat) (hk : 0 < k) :
    impl_faultAt.j0 k l a s kd false = some (fltB l a s kd) := by
  have := Bit.w32 ha
  have hw : wrap64 a = a := by unfold wrap64; omega
  obtain ⟨k, rfl⟩ : ∃ m, k = m + 1 := ⟨k - 1, by omega⟩
  unfold fltB
  simp only [impl_faultAt.j0]
  rw [hw, if_neg (by decide), if_neg (by omega)]
  by_cases c : Int.tmod a s = 0
  · rw [if_pos c, if_pos c, at_i l a, Option.bind_some]
    by_cases d : idxB (hasB a) l < 0
    · rw [if_pos d, if_pos d]
    · rw [if_neg d, if_neg d]
      rcases idx_range (hasB a) l with e | ⟨i, e, hi, _⟩
      · rw [e] at d; exact absurd d (by decide)
      · rw [e, if_pos (by omega), if_pos (by omega)]
        by_cases g : bits .and .i64 ((rd_T70 l (i : Int)).f2) kd = 0
        · rw [if_pos g, if_pos g]
        · rw [if_neg g, if_neg g]
  · rw [if_neg c, if_neg c]
theorem fault_9 (l : List S70) (a s kd : Int) (k : Nat) (hk : 0 < k) : impl_faultAt.j0 k l a s kd true = some 9 := by
  obtain ⟨k, rfl⟩ : ∃ m, k = m + 1 := ⟨k - 1, by omega⟩
  simp only [impl_faultAt.j0]
  first | rw [if_pos rfl] | rw [if_pos trivial]
def fltT (l : List S70) (a s kd : Int) : Int := if areWB l = true then (if (s = 1 ∨ s = 4) ∧ (kd = 1 ∨ kd = 2 ∨ kd = 4) then fltB l a s kd else 9) else 9
theorem flt_s (l : List S70) (hl : ∀ x ∈ l, WfW x) (hm : l.length ≤ 9000000) (a s kd : Int) (ha : (Lit.int .u32 a).wf = true) (k : Nat) (hk : l.length + 2000 < k) : spec_FaultAt.f k l a s kd = some (fltT l a s kd) := by
  unfold spec_FaultAt.f fltT
  rw [windows_s l hl k (by omega), Option.bind_some]
  by_cases h : areWB l = true
  · rw [if_pos h, if_pos h]
    have hw := areW_win hl h
    by_cases s1 : s = 1
    · rw [if_pos s1]
      by_cases k1 : kd = 1
      · rw [if_pos k1, fault_s l hw hm a s kd ha (.inl s1) (.inl k1) k (by omega), if_pos ⟨.inl s1, .inl k1⟩, Option.bind_some]
      · rw [if_neg k1]
        by_cases k2 : kd = 2
        · rw [if_pos k2, fault_s l hw hm a s kd ha (.inl s1) (.inr (.inl k2)) k (by omega), if_pos ⟨.inl s1, .inr (.inl k2)⟩, Option.bind_some]
        · rw [if_neg k2]
          by_cases k4 : kd = 4
          · rw [if_pos k4, fault_s l hw hm a s kd ha (.inl s1) (.inr (.inr k4)) k (by omega), if_pos ⟨.inl s1, .inr (.inr k4)⟩, Option.bind_some]
          · rw [if_neg k4, if_neg (by omega)]
    · rw [if_neg s1]
      by_cases s4 : s = 4
      · rw [if_pos s4]
        by_cases k1 : kd = 1
        · rw [if_pos k1, fault_s l hw hm a s kd ha (.inr s4) (.inl k1) k (by omega), if_pos ⟨.inr s4, .inl k1⟩, Option.bind_some]
        · rw [if_neg k1]
          by_cases k2 : kd = 2
          · rw [if_pos k2, fault_s l hw hm a s kd ha (.inr s4) (.inr (.inl k2)) k (by omega), if_pos ⟨.inr s4, .inr (.inl k2)⟩, Option.bind_some]
          · rw [if_neg k2]
            by_cases k4 : kd = 4
            · rw [if_pos k4, fault_s l hw hm a s kd ha (.inr s4) (.inr (.inr k4)) k (by omega), if_pos ⟨.inr s4, .inr (.inr k4)⟩, Option.bind_some]
            · rw [if_neg k4, if_neg (by omega)]
      · rw [if_neg s4, if_neg (by omega)]
  · rw [if_neg h, if_neg h]
theorem flt_j (l : List S70) (a s kd : Int) (ha : (Lit.int .u32 a).wf = true) (k : Nat) (hk : 0 < k) : impl_faultAt.f k l a s kd = some (if (s = 1 ∨ s = 4) ∧ (kd = 1 ∨ kd = 2 ∨ kd = 4) then fltB l a s kd else 9) := by
  unfold impl_faultAt.f
  by_cases s1 : s = 1
  · rw [if_pos s1]
    by_cases k1 : kd = 1
    · rw [if_pos k1, fault_i l a s kd ha (.inl s1) k hk, if_pos ⟨.inl s1, .inl k1⟩]
    · rw [if_neg k1]
      by_cases k2 : kd = 2
      · rw [if_pos k2, fault_i l a s kd ha (.inl s1) k hk, if_pos ⟨.inl s1, .inr (.inl k2)⟩]
      · rw [if_neg k2]
        by_cases k4 : kd = 4
        · rw [show (kd != 4) = false by rw [k4]; rfl, fault_i l a s kd ha (.inl s1) k hk, if_pos ⟨.inl s1, .inr (.inr k4)⟩]
        · rw [show (kd != 4) = true from bne_iff_ne.2 k4, fault_9 l a s kd k hk, if_neg (by omega)]
  · rw [if_neg s1]
    by_cases s4 : s = 4
    · rw [if_pos s4]
      by_cases k1 : kd = 1
      · rw [if_pos k1, fault_i l a s kd ha (.inr s4) k hk, if_pos ⟨.inr s4, .inl k1⟩]
      · rw [if_neg k1]
        by_cases k2 : kd = 2
        · rw [if_pos k2, fault_i l a s kd ha (.inr s4) k hk, if_pos ⟨.inr s4, .inr (.inl k2)⟩]
        · rw [if_neg k2]
          by_cases k4 : kd = 4
          · rw [show (kd != 4) = false by rw [k4]; rfl, fault_i l a s kd ha (.inr s4) k hk, if_pos ⟨.inr s4, .inr (.inr k4)⟩]
          · rw [show (kd != 4) = true from bne_iff_ne.2 k4, fault_9 l a s kd k hk, if_neg (by omega)]
    · rw [if_neg s4, fault_9 l a s kd k hk, if_neg (by omega)]
end Go.Proofs.Ytbcpkigeginmnaa.AidFF
