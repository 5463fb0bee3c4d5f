/- Plain laws of reading a guest's memory: the reference's and the program's reading agree. No program in sight. -/
import Derived.Test.YtbcpkigeginmnaaGFx0
import Derived.Test.YtbcpkigeginmnaaGFx12
import Derived.Test.YtbcpkigeginmnaaGFx13
import Derived.Test.YtbcpkigeginmnaaGFx14
import Derived.Test.YtbcpkigeginmnaaAidFG
import Derived.Test.YtbcpkigeginmnaaAidFF
namespace Go.Proofs.Ytbcpkigeginmnaa.AidFL
open Go.RowKit Go.Proofs.Ytbcpkigeginmnaa Go.Proofs.Ytbcpkigeginmnaa.AidFW Go.Proofs.Ytbcpkigeginmnaa.AidFF Go.Proofs.Ytbcpkigeginmnaa.AidFG Go.Proofs.Ytbcpkigeginmnaa.GF Go.Proofs.Ytbcpkigeginmnaa.Lst Go.Proofs.YtbcpkigeginmnaaW.PrintWords Go.Proofs.YtbcpkigeginmnaaW.PrintLast
theorem rd_at (l : List Int) (i : Nat) (hi : i < l.length) : rd l (i : Int) = l[i] := rd_get l i _ (List.getElem?_eq_getElem hi)
theorem rd_drop (l : List Int) (o i : Nat) : rd (l.drop o) (i : Int) = rd l ((o + i : Nat) : Int) := by
  unfold rd
  rw [Int.toNat_natCast, Int.toNat_natCast, List.getD_eq_getElem?_getD, List.getD_eq_getElem?_getD, List.getElem?_drop]
theorem rd_take (l : List Int) (n i : Nat) (h : i < n) : rd (l.take n) (i : Int) = rd l (i : Int) := by
  unfold rd
  rw [Int.toNat_natCast, List.getD_eq_getElem?_getD, List.getD_eq_getElem?_getD, List.getElem?_take_of_lt h]
theorem or_hi (a b n : Nat) (ha : a < 2 ^ n) : a ||| (b * 2 ^ n) = a + b * 2 ^ n := by
  rw [Nat.mul_comm b, Nat.or_comm, ← Nat.two_pow_add_eq_or_of_lt ha, Nat.add_comm]
/-- Four bytes as a word. -/
theorem word4 (a b c d : Int) (ha : 0 ≤ a ∧ a < 256) (hb : 0 ≤ b ∧ b < 256) (hc : 0 ≤ c ∧ c < 256) (hd : 0 ≤ d ∧ d < 256) :
    bits .or .u32 (bits .or .u32 (bits .or .u32 (a % 4294967296) ((b % 4294967296 * 256) % 4294967296)) ((c % 4294967296 * 65536) % 4294967296)) ((d % 4294967296 * 16777216) % 4294967296) = a + 256 * b + 65536 * c + 16777216 * d := by
  obtain ⟨a, rfl⟩ := Int.eq_ofNat_of_zero_le ha.1
  obtain ⟨b, rfl⟩ := Int.eq_ofNat_of_zero_le hb.1
  obtain ⟨c, rfl⟩ := Int.eq_ofNat_of_zero_le hc.1
  obtain ⟨d, rfl⟩ := Int.eq_ofNat_of_zero_le hd.1
  have o : ∀ p q : Nat, p < 2 ^ 32 → q < 2 ^ 32 → bits .or .u32 (p : Int) (q : Int) = ((p ||| q : Nat) : Int) := fun p q hp hq =>  (bits_nat .u32 32 (by decide) (fun n h0 h1 => by rw [IntKind.wrap_u32]; omega) p q hp hq).2
  have e1 : ((a : Int) % 4294967296) = ((a : Nat) : Int) := by omega
  have e2 : ((b : Int) % 4294967296 * 256 % 4294967296) = ((b * 2 ^ 8 : Nat) : Int) := by omega
  have e3 : ((c : Int) % 4294967296 * 65536 % 4294967296) = ((c * 2 ^ 16 : Nat) : Int) := by omega
  have e4 : ((d : Int) % 4294967296 * 16777216 % 4294967296) = ((d * 2 ^ 24 : Nat) : Int) := by omega
  rw [e1, e2, e3, e4, o _ _ (by omega) (by omega), or_hi a b 8 (by omega), o _ _ (by omega) (by omega), or_hi _ c 16 (by omega), o _ _ (by omega) (by omega), or_hi _ d 24 (by omega)]
  omega
/-- What a read that does not fault tells: of the row's bytes from o on, s of them. -/
def readB (row : List Int) (o : Nat) (s : Int) : Int := if s = 1 then rd row (o : Int) else rd row (o : Int) + 256 * rd row ((o + 1 : Nat) : Int) + 65536 * rd row ((o + 2 : Nat) : Int) + 16777216 * rd row ((o + 3 : Nat) : Int)
def Bytes (row : List Int) : Prop := ∀ x ∈ row, 0 ≤ x ∧ x < 256
theorem byte_at {row : List Int} (h : Bytes row) (i : Nat) (hi : i < row.length) : 0 ≤ rd row (i : Int) ∧ rd row (i : Int) < 256 := by
  rw [rd_at row i hi]
  exact h _ (List.getElem_mem _)
/-- A place that does not fault: its window, and where in it. -/
theorem place (l : List S70) (hwf : ∀ x ∈ l, WfW x) (hW : areWB l = true) (a s kd : Int) (ha : (Lit.int .u32 a).wf = true) (hs : s = 1 ∨ s = 4) (h0 : fltB l a s kd = 0) :
    ∃ i o : Nat, i < l.length ∧ idxB (hasB a) l = (i : Int) ∧ a - (rd_T70 l (i : Int)).f0 = (o : Int) ∧ (o : Int) + s ≤ (rd_T70 l (i : Int)).f1 ∧ (rd_T70 l (i : Int)).f1 ≤ 2048 ∧ 0 ≤ (rd_T70 l (i : Int)).f0 ∧ a ≤ 2048 := by
  unfold fltB at h0
  by_cases c : Int.tmod a s = 0
  · rw [if_pos c] at h0
    rcases idx_range (hasB a) l with e | ⟨i, e, hi, hp⟩
    · rw [e, if_pos (by decide)] at h0
      exact absurd h0 (by decide)
    · have hb := mem_rd (areW_win hwf hW) i hi
      have ha32 := Bit.w32 ha
      unfold WinB at hb
      unfold hasB at hp
      rw [wr (n := (rd_T70 l (i : Int)).f0 + (rd_T70 l (i : Int)).f1) (by omega) (by omega)] at hp
      obtain ⟨p1, p2⟩ := Bool.and_eq_true_iff.1 hp
      replace p1 := of_decide_eq_true p1
      replace p2 := of_decide_eq_true p2
      refine ⟨i, (a - (rd_T70 l (i : Int)).f0).toNat, hi, e, by omega, ?_, by omega, by omega, by omega⟩
      rcases hs with rfl | rfl
      · omega
      · rw [tm4] at c
        omega
  · rw [if_neg c] at h0
    exact absurd h0 (by decide)
theorem get_s (l : List S70) (r : List Int) (p : Int) (ram : List (List Int)) (hram : ram.length = l.length) (hfit : Fits l ram) (hby : ∀ x ∈ ram, Bytes x) (hlen : l.length ≤ 9000000) (a s : Int) (hs : s = 1 ∨ s = 4) (i o : Nat) (hi : i < l.length) (he : idxB (hasB a) l = (i : Int)) (ho : a - (rd_T70 l (i : Int)).f0 = (o : Int)) (hos : (o : Int) + s ≤ (rd_T70 l (i : Int)).f1) (hf1 : (rd_T70 l (i : Int)).f1 ≤ 2048) (k : Nat) (hk : l.length + 10 < k) :
    spec_l08Get.f k l r p ram a s = some (readB (rd_L2 ram (i : Int)) o s) := by
  obtain ⟨k, rfl⟩ : ∃ m, k = m + 5 := ⟨k - 5, by omega⟩
  unfold spec_l08Get.f
  rw [at_s l a hlen (k + 5) (by omega), Option.bind_some, he]
  have hl := hfit i hi
  have hB : Bytes (rd_L2 ram (i : Int)) := by rw [rd2 ram i (by omega)]; exact hby _ (List.getElem_mem _)
  obtain ⟨row, hrow⟩ : ∃ row, rd_L2 ram (i : Int) = row := ⟨_, rfl⟩
  rw [hrow] at hl hB ⊢
  have c0 : (0 : Int) ≤ (i : Int) := by omega
  have c1 : (i : Int) < (ram.length : Int) := by omega
  have c2 : (i : Int) < (l.length : Int) := by omega
  have w1 : wrap64 (a - (rd_T70 l (i : Int)).f0) = (o : Int) := by rw [ho, wr (by omega) (by omega)]
  have wi : ∀ j : Nat, j ≤ 3 → wrap64 ((o : Int) + (j : Int)) = ((o + j : Nat) : Int) := fun j hj => by rw [wr (by omega) (by omega)]; omega
  have step : ∀ (k j : Nat) (n m : Int), j ≤ 3 → o + j < row.length → 0 ≤ n → n < 1099511627776 → wrap64 ((j : Int) - 1) = m → spec_l08Get.l0 (k + 1) l a (i : Int) n (j : Int) r p ram = spec_l08Get.l0 k l a (i : Int) (256 * n + rd row ((o + j : Nat) : Int)) m r p ram := fun k j n m hj hlt h0 h1 hm => by
    have hb := byte_at hB (o + j) hlt
    have e0 : wrap64 (256 * n) = 256 * n := wr (by omega) (by omega)
    have e1 : wrap64 (rd row ((o + j : Nat) : Int)) = rd row ((o + j : Nat) : Int) := wr (by omega) (by omega)
    have e2 : wrap64 (256 * n + rd row ((o + j : Nat) : Int)) = 256 * n + rd row ((o + j : Nat) : Int) := wr (by omega) (by omega)
    have c3 : (j : Int) ≥ 0 := by omega
    have c4 : (0 : Int) ≤ ((o + j : Nat) : Int) := by omega
    have c5 : ((o + j : Nat) : Int) < (row.length : Int) := by omega
    rw [spec_l08Get.l0, hrow, w1, wi j hj, if_pos c3, if_pos c0, if_pos c1, if_pos c2, if_pos c4, if_pos c5, e0, e1, e2, hm]
  have stop : ∀ (k : Nat) (n : Int), spec_l08Get.l0 (k + 1) l a (i : Int) n (-1) r p ram = some (n % 4294967296) := fun k n => by
    rw [spec_l08Get.l0, if_neg (by decide)]
  rcases hs with rfl | rfl
  · have b0 := byte_at hB (o + 0) (by omega)
    have s0 := step (k + 4) 0 0 (-1) (by omega) (by omega) (by omega) (by omega) (by unfold wrap64; omega)
    have e0 : wrap64 (1 - 1) = ((0 : Nat) : Int) := by unfold wrap64; omega
    rw [e0, s0, stop]
    unfold readB
    rw [if_pos rfl]
    refine congrArg some ?_
    rw [show o + 0 = o from rfl] at b0 ⊢
    omega
  · have b0 := byte_at hB (o + 0) (by omega)
    have b1 := byte_at hB (o + 1) (by omega)
    have b2 := byte_at hB (o + 2) (by omega)
    have b3 := byte_at hB (o + 3) (by omega)
    have e0 : wrap64 (4 - 1) = ((3 : Nat) : Int) := by unfold wrap64; omega
    have e3 : wrap64 (((3 : Nat) : Int) - 1) = ((2 : Nat) : Int) := by unfold wrap64; omega
    have e2 : wrap64 (((2 : Nat) : Int) - 1) = ((1 : Nat) : Int) := by unfold wrap64; omega
    have e1 : wrap64 (((1 : Nat) : Int) - 1) = ((0 : Nat) : Int) := by unfold wrap64; omega
    have ez : wrap64 (((0 : Nat) : Int) - 1) = -1 := by unfold wrap64; omega
    rw [e0, step (k + 4) 3 0 _ (by omega) (by omega) (by omega) (by omega) e3, step (k + 3) 2 _ _ (by omega) (by omega) (by omega) (by omega) e2, step (k + 2) 1 _ _ (by omega) (by omega) (by omega) (by omega) e1, step (k + 1) 0 _ _ (by omega) (by omega) (by omega) (by omega) ez, stop]
    unfold readB
    rw [if_neg (by decide)]
    refine congrArg some ?_
    rw [show o + 0 = o from rfl] at b0 ⊢
    omega
theorem load_i (l : List S70) (r : List Int) (p : Int) (ram : List (List Int)) (hram : ram.length = l.length) (hfit : Fits l ram) (hby : ∀ x ∈ ram, Bytes x) (a s kd : Int) (ha : (Lit.int .u32 a).wf = true) (hs : s = 1 ∨ s = 4) (hk : kd = 1 ∨ kd = 2 ∨ kd = 4) (h0 : fltB l a s kd = 0) (i o : Nat) (hi : i < l.length) (he : idxB (hasB a) l = (i : Int)) (ho : a - (rd_T70 l (i : Int)).f0 = (o : Int)) (hos : (o : Int) + s ≤ (rd_T70 l (i : Int)).f1) (hf1 : (rd_T70 l (i : Int)).f1 ≤ 2048) (k : Nat) (hk0 : 0 < k) :
    impl_Guest_load.f k r p ram l a s kd = some (readB (rd_L2 ram (i : Int)) o s, 0, p) := by
  have ha32 := Bit.w32 ha
  have hw : wrap64 a = a := wr (by omega) (by omega)
  have hl := hfit i hi
  have hB : Bytes (rd_L2 ram (i : Int)) := by rw [rd2 ram i (by omega)]; exact hby _ (List.getElem_mem _)
  unfold impl_Guest_load.f
  rw [flt_j l a s kd ha k hk0, if_pos ⟨hs, hk⟩, h0, Option.bind_some, if_pos rfl, hw, at_i, he, Option.bind_some]
  have w1 : wrap64 (a - (rd_T70 l (i : Int)).f0) = (o : Int) := by rw [ho, wr (by omega) (by omega)]
  rw [w1]
  generalize rd_L2 ram (i : Int) = row at hl hB ⊢
  have c0 : (0 : Int) ≤ (i : Int) := by omega
  have c1 : (i : Int) < (ram.length : Int) := by omega
  have c2 : (i : Int) < (l.length : Int) := by omega
  have c3 : (0 : Int) ≤ (o : Int) := by omega
  have c4 : (o : Int) ≤ (row.length : Int) := by omega
  rw [if_pos c0, if_pos c1, if_pos c2, if_pos c3, if_pos c4, Int.toNat_natCast]
  unfold readB
  rcases hs with rfl | rfl
  · have b0 := byte_at hB (o + 0) (by omega)
    have c5 : (0 : Int) < ((row.drop o).length : Int) := by rw [List.length_drop]; omega
    rw [if_pos rfl, if_pos c5, if_pos rfl, show rd (row.drop o) 0 = rd row ((o + 0 : Nat) : Int) from rd_drop row o 0]
    rw [show o + 0 = o from rfl] at b0 ⊢
    rw [show rd row (o : Int) % 4294967296 = rd row (o : Int) by omega]
  · have b0 := byte_at hB (o + 0) (by omega)
    have b1 := byte_at hB (o + 1) (by omega)
    have b2 := byte_at hB (o + 2) (by omega)
    have b3 := byte_at hB (o + 3) (by omega)
    have c5 : (4 : Int) ≤ ((row.drop o).length : Int) := by rw [List.length_drop]; omega
    have e4 : ((row.drop o).take 4).length = 4 := by rw [List.length_take]; omega
    have g0 : rd ((row.drop o).take 4) 0 = rd row ((o + 0 : Nat) : Int) := (rd_take _ 4 0 (by omega)).trans (rd_drop row o 0)
    have g1 : rd ((row.drop o).take 4) 1 = rd row ((o + 1 : Nat) : Int) := (rd_take _ 4 1 (by omega)).trans (rd_drop row o 1)
    have g2 : rd ((row.drop o).take 4) 2 = rd row ((o + 2 : Nat) : Int) := (rd_take _ 4 2 (by omega)).trans (rd_drop row o 2)
    have g3 : rd ((row.drop o).take 4) 3 = rd row ((o + 3 : Nat) : Int) := (rd_take _ 4 3 (by omega)).trans (rd_drop row o 3)
    rw [if_neg (by decide), if_pos c5, if_neg (by decide)]
    unfold impl_WordOf.f
    rw [e4, if_pos (by decide), if_pos (by decide), if_pos (by decide), if_pos (by decide), if_pos (by decide), g0, g1, g2, g3, word4 _ _ _ _ b0 b1 b2 b3, Option.bind_some]
    rw [show o + 0 = o from rfl]
theorem load_f (l : List S70) (r : List Int) (p : Int) (ram : List (List Int)) (a s kd : Int) (ha : (Lit.int .u32 a).wf = true) (k : Nat) (hk0 : 0 < k) (t : Int) (ht : (if (s = 1 ∨ s = 4) ∧ (kd = 1 ∨ kd = 2 ∨ kd = 4) then fltB l a s kd else 9) = t) (h : t ≠ 0) :
    impl_Guest_load.f k r p ram l a s kd = some (0, t, p) := by
  unfold impl_Guest_load.f
  rw [flt_j l a s kd ha k hk0, ht, Option.bind_some, if_neg h]
end Go.Proofs.Ytbcpkigeginmnaa.AidFL
