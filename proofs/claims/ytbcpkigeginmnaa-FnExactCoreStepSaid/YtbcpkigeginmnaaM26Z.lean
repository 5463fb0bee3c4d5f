/- Plain laws: the reference's and the program's arithmetic and branches come to the same. No program in sight. -/
import Derived.Test.YtbcpkigeginmnaaM3Z
import Derived.Test.YtbcpkigeginmnaaM13Z
import Derived.Test.YtbcpkigeginmnaaM20Z
import Derived.Test.YtbcpkigeginmnaaM14Z
import Derived.Test.YtbcpkigeginmnaaM25Z
import Derived.Test.YtbcpkigeginmnaaM16Z
import Derived.Test.YtbcpkigeginmnaaM21Z
import Derived.Test.YtbcpkigeginmnaaM19Z
import Derived.Test.YtbcpkigeginmnaaM4Z
import Derived.Test.YtbcpkigeginmnaaM23Z
import Derived.Test.YtbcpkigeginmnaaM24Z
import Derived.Test.YtbcpkigeginmnaaM18Z
set_option linter.unusedVariables false
set_option linter.unusedSimpArgs false
section
namespace Go.Proofs.Ytbcpkigeginmnaa.AidFL
open Go.RowKit Go.Proofs.Ytbcpkigeginmnaa Go.Proofs.Ytbcpkigeginmnaa.AidFW Go.Proofs.Ytbcpkigeginmnaa.AidFF Go.Proofs.Ytbcpkigeginmnaa.AidFG Go.Proofs.Ytbcpkigeginmnaa.GF Go.Proofs.Ytbcpkigeginmnaa.Lst Go.Proofs.YtbcpkigeginmnaaW.PrintWords Go.Proofs.YtbcpkigeginmnaaW.PrintLast
theorem rd_at (l : List Int) (i : Nat) (hi : i < l.length) : rd l (i : Int) = l[i] := rd_get l i _ (List.getElem?_eq_getElem hi)
theorem rd_drop (l : List Int) (o i : Nat) : rd (l.drop o) (i : Int) = rd l ((o + i : Nat) : Int) := by
  unfold rd
  rw [Int.toNat_natCast, Int.toNat_natCast, List.getD_eq_getElem?_getD, List.getD_eq_getElem?_getD, List.getElem?_drop]
theorem rd_take (l : List Int) (n i : Nat) (h : i < n) : rd (l.take n) (i : Int) = rd l (i : Int) := by
  unfold rd
  rw [Int.toNat_natCast, List.getD_eq_getElem?_getD, List.getD_eq_getElem?_getD, List.getElem?_take_of_lt h]
theorem or_hi (a b n : Nat) (ha : a < 2 ^ n) : a ||| (b * 2 ^ n) = a + b * 2 ^ n := by
  rw [Nat.mul_comm b, Nat.or_comm, ← Nat.two_pow_add_eq_or_of_lt ha, Nat.add_comm]
theorem word4 (a b c d : Int) (ha : 0 ≤ a ∧ a < 256) (hb : 0 ≤ b ∧ b < 256) (hc : 0 ≤ c ∧ c < 256) (hd : 0 ≤ d ∧ d < 256) :
    bits .or .u32 (bits .or .u32 (bits .or .u32 (a % 4294967296) ((b % 4294967296 * 256) % 4294967296)) ((c % 4294967296 * 65536) % 4294967296)) ((d % 4294967296 * 16777216) % 4294967296) = a + 256 * b + 65536 * c + 16777216 * d := by
  obtain ⟨a, rfl⟩ := Int.eq_ofNat_of_zero_le ha.1
  obtain ⟨b, rfl⟩ := Int.eq_ofNat_of_zero_le hb.1
  obtain ⟨c, rfl⟩ := Int.eq_ofNat_of_zero_le hc.1
  obtain ⟨d, rfl⟩ := Int.eq_ofNat_of_zero_le hd.1
  have o : ∀ p q : Nat, p < 2 ^ 32 → q < 2 ^ 32 → bits .or .u32 (p : Int) (q : Int) = ((p ||| q : Nat) : Int) := fun p q hp hq =>  (bits_nat .u32 32 (by decide) (fun n h0 h1 => by rw [IntKind.wrap_u32]; omega) p q hp hq).2
  have e1 : ((a : Int) % 4294967296) = ((a : Nat) : Int) := by omega
  have e2 : ((b : Int) % 4294967296 * 256 % 4294967296) = ((b * 2 ^ 8 : Nat) : Int) := by omega
  have e3 : ((c : Int) % 4294967296 * 65536 % 4294967296) = ((c * 2 ^ 16 : Nat) : Int) := by omega
  have e4 : ((d : Int) % 4294967296 * 16777216 % 4294967296) = ((d * 2 ^ 24 : Nat) : Int) := by omega
  rw [e1, e2, e3, e4, o _ _ (by omega) (by omega), or_hi a b 8 (by omega), o _ _ (by omega) (by omega), or_hi _ c 16 (by omega), o _ _ (by omega) (by omega), or_hi _ d 24 (by omega)]
  omega
def readB (row : List Int) (o : Nat) (s : Int) : Int := if s = 1 then rd row (o : Int) else rd row (o : Int) + 256 * rd row ((o + 1 : Nat) : Int) + 65536 * rd row ((o + 2 : Nat) : Int) + 16777216 * rd row ((o + 3 : Nat) : Int)
def Bytes (row : List Int) : Prop := ∀ x ∈ row, 0 ≤ x ∧ x < 256
theorem byte_at {row : List Int} (h : Bytes row) (i : Nat) (hi : i < row.length) : 0 ≤ rd row (i : Int) ∧ rd row (i : Int) < 256 := by
  rw [rd_at row i hi]
  exact h _ (List.getElem_mem _)
theorem place (l : List S70) (hwf : ∀ x ∈ l, WfW x) (hW : areWB l = true) (a s kd : Int) (ha : (Lit.int .u32 a).wf = true) (hs : s = 1 ∨ s = 4) (h0 : fltB l a s kd = 0) :
    ∃ i o : Nat, i < l.length ∧ idxB (hasB a) l = (i : Int) ∧ a - (rd_T70 l (i : Int)).f0 = (o : Int) ∧ (o : Int) + s ≤ (rd_T70 l (i : Int)).f1 ∧ (rd_T70 l (i : Int)).f1 ≤ 2048 ∧ 0 ≤ (rd_T70 l (i : Int)).f0 ∧ a ≤ 2048 := by
  unfold fltB at h0
  by_cases c : Int.tmod a s = 0
  · rw [if_pos c] at h0
    rcases idx_range (hasB a) l with e | ⟨i, e, hi, hp⟩
    · rw [e, if_pos (by decide)] at h0
      exact absurd h0 (by decide)
    · have hb := mem_rd (areW_win hwf hW) i hi
      have ha32 := Bit.w32 ha
      unfold WinB at hb
      unfold hasB at hp
      rw [wr (n := (rd_T70 l (i : Int)).f0 + (rd_T70 l (i : Int)).f1) (by omega) (by omega)] at hp
      obtain ⟨p1, p2⟩ := Bool.and_eq_true_iff.1 hp
      replace p1 := of_decide_eq_true p1
      replace p2 := of_decide_eq_true p2
      refine ⟨i, (a - (rd_T70 l (i : Int)).f0).toNat, hi, e, by omega, ?_, by omega, by omega, by omega⟩
      rcases hs with rfl | rfl
      · omega
      · rw [tm4] at c
        omega
  · rw [if_neg c] at h0
    exact absurd h0 (by decide)
theorem get_s (l : List S70) (r : List Int) (p : Int) (ram : List (List Int)) (hram : ram.length = l.length) (hfit : Fits l ram) (hby : ∀ x ∈ ram, Bytes x) (hlen : l.length ≤ 9000000) (a s : Int) (hs : s = 1 ∨ s = 4) (i o : Nat) (hi : i < l.length) (he : idxB (hasB a) l = (i : Int)) (ho : a - (rd_T70 l (i : Int)).f0 = (o : Int)) (hos : (o : Int) + s ≤ (rd_T70 l (i : Int)).f1) (hf1 : (rd_T70 l (i : Int)).f1 ≤ 2048) (k : Nat) (hk : l.length + 10 < k) :
    spec_l08Get.f k l r p ram a s = some (readB (rd_L2 ram (i : Int)) o s) := by
  obtain ⟨k, rfl⟩ : ∃ m, k = m + 5 := ⟨k - 5, by omega⟩
  unfold spec_l08Get.f
  rw [at_s l a hlen (k + 5) (by omega), Option.bind_some, he]
  have hl := hfit i hi
  have hB : Bytes (rd_L2 ram (i : Int)) := by rw [rd2 ram i (by omega)]; exact hby _ (List.getElem_mem _)
  obtain ⟨row, hrow⟩ : ∃ row, rd_L2 ram (i : Int) = row := ⟨_, rfl⟩
  rw [hrow] at hl hB ⊢
  have c0 : (0 : Int) ≤ (i : Int) := by omega
  have c1 : (i : Int) < (ram.length : Int) := by omega
  have c2 : (i : Int) < (l.length : Int) := by omega
  have w1 : wrap64 (a - (rd_T70 l (i : Int)).f0) = (o : Int) := by rw [ho, wr (by omega) (by omega)]
  have wi : ∀ j : Nat, j ≤ 3 → wrap64 ((o : Int) + (j : Int)) = ((o + j : Nat) : Int) := fun j hj => by rw [wr (by omega) (by omega)]; omega
  have step : ∀ (k j : Nat) (n m : Int), j ≤ 3 → o + j < row.length → 0 ≤ n → n < 1099511627776 → wrap64 ((j : Int) - 1) = m → spec_l08Get.l0 (k + 1) l a (i : Int) n (j : Int) r p ram = spec_l08Get.l0 k l a (i : Int) (256 * n + rd row ((o + j : Nat) : Int)) m r p ram := fun k j n m hj hlt h0 h1 hm => by
    have hb := byte_at hB (o + j) hlt
    have e0 : wrap64 (256 * n) = 256 * n := wr (by omega) (by omega)
    have e1 : wrap64 (rd row ((o + j : Nat) : Int)) = rd row ((o + j : Nat) : Int) := wr (by omega) (by omega)
    have e2 : wrap64 (256 * n + rd row ((o + j : Nat) : Int)) = 256 * n + rd row ((o + j : Nat) : Int) := wr (by omega) (by omega)
    have c3 : (j : Int) ≥ 0 := by omega
    have c4 : (0 : Int) ≤ ((o + j : Nat) : Int) := by omega
    have c5 : ((o + j : Nat) : Int) < (row.length : Int) := by omega
    rw [spec_l08Get.l0, hrow, w1, wi j hj, if_pos c3, if_pos c0, if_pos c1, if_pos c2, if_pos c4, if_pos c5, e0, e1, e2, hm]
  have stop : ∀ (k : Nat) (n : Int), spec_l08Get.l0 (k + 1) l a (i : Int) n (-1) r p ram = some (n % 4294967296) := fun k n => by
    rw [spec_l08Get.l0, if_neg (by decide)]
  rcases hs with rfl | rfl
  · have b0 := byte_at hB (o + 0) (by omega)
    have s0 := step (k + 4) 0 0 (-1) (by omega) (by omega) (by omega) (by omega) (by unfold wrap64; omega)
    have e0 : wrap64 (1 - 1) = ((0 : Nat) : Int) := by unfold wrap64; omega
    rw [e0, s0, stop]
    unfold readB
    rw [if_pos rfl]
    refine congrArg some ?_
    rw [show o + 0 = o from rfl] at b0 ⊢
    omega
  · have b0 := byte_at hB (o + 0) (by omega)
    have b1 := byte_at hB (o + 1) (by omega)
    have b2 := byte_at hB (o + 2) (by omega)
    have b3 := byte_at hB (o + 3) (by omega)
    have e0 : wrap64 (4 - 1) = ((3 : Nat) : Int) := by unfold wrap64; omega
    have e3 : wrap64 (((3 : Nat) : Int) - 1) = ((2 : Nat) : Int) := by unfold wrap64; omega
    have e2 : wrap64 (((2 : Nat) : Int) - 1) = ((1 : Nat) : Int) := by unfold wrap64; omega
    have e1 : wrap64 (((1 : Nat) : Int) - 1) = ((0 : Nat) : Int) := by unfold wrap64; omega
    have ez : wrap64 (((0 : Nat) : Int) - 1) = -1 := by unfold wrap64; omega
    rw [e0, step (k + 4) 3 0 _ (by omega) (by omega) (by omega) (by omega) e3, step (k + 3) 2 _ _ (by omega) (by omega) (by omega) (by omega) e2, step (k + 2) 1 _ _ (by omega) (by omega) (by omega) (by omega) e1, step (k + 1) 0 _ _ (by omega) (by omega) (by omega) (by omega) ez, stop]
    unfold readB
    rw [if_neg (by decide)]
    refine congrArg some ?_
    rw [show o + 0 = o from rfl] at b0 ⊢
    omega
theorem load_i (l : List S70) (r : List Int) (p : Int) (ram : List (List Int)) (hram : ram.length = l.length) (hfit : Fits l ram) (hby : ∀ x ∈ ram, Bytes x) (a s kd : Int) (ha : (Lit.int .u32 a).wf = true) (hs : s = 1 ∨ s = 4) (hk : kd = 1 ∨ kd = 2 ∨ kd = 4) (h0 : fltB l a s kd = 0) (i o : Nat) (hi : i < l.length) (he : idxB (hasB a) l = (i : Int)) (ho : a - (rd_T70 l (i : Int)).f0 = (o : Int)) (hos : (o : Int) + s ≤ (rd_T70 l (i : Int)).f1) (hf1 : (rd_T70 l (i : Int)).f1 ≤ 2048) (k : Nat) (hk0 : 0 < k) :
    impl_Guest_load.f k r p ram l a s kd = some (readB (rd_L2 ram (i : Int)) o s, 0, p) := by
  have ha32 := Bit.w32 ha
  have hw : wrap64 a = a := wr (by omega) (by omega)
  have hl := hfit i hi
  have hB : Bytes (rd_L2 ram (i : Int)) := by rw [rd2 ram i (by omega)]; exact hby _ (List.getElem_mem _)
  unfold impl_Guest_load.f
  rw [flt_j l a s kd ha k hk0, if_pos ⟨hs, hk⟩, h0, Option.bind_some, if_pos rfl, hw, at_i, he, Option.bind_some]
  have w1 : wrap64 (a - (rd_T70 l (i : Int)).f0) = (o : Int) := by rw [ho, wr (by omega) (by omega)]
  rw [w1]
  generalize rd_L2 ram (i : Int) = row at hl hB ⊢
  have c0 : (0 : Int) ≤ (i : Int) := by omega
  have c1 : (i : Int) < (ram.length : Int) := by omega
  have c2 : (i : Int) < (l.length : Int) := by omega
  have c3 : (0 : Int) ≤ (o : Int) := by omega
  have c4 : (o : Int) ≤ (row.length : Int) := by omega
  rw [if_pos c0, if_pos c1, if_pos c2, if_pos c3, if_pos c4, Int.toNat_natCast]
  unfold readB
  rcases hs with rfl | rfl
  · have b0 := byte_at hB (o + 0) (by omega)
    have c5 : (0 : Int) < ((row.drop o).length : Int) := by rw [List.length_drop]; omega
    rw [if_pos rfl, if_pos c5, if_pos rfl, show rd (row.drop o) 0 = rd row ((o + 0 : Nat) : Int) from rd_drop row o 0]
    rw [show o + 0 = o from rfl] at b0 ⊢
    rw [show rd row (o : Int) % 4294967296 = rd row (o : Int) by omega]
  · have b0 := byte_at hB (o + 0) (by omega)
    have b1 := byte_at hB (o + 1) (by omega)
    have b2 := byte_at hB (o + 2) (by omega)
    have b3 := byte_at hB (o + 3) (by omega)
    have c5 : (4 : Int) ≤ ((row.drop o).length : Int) := by rw [List.length_drop]; omega
    have e4 : ((row.drop o).take 4).length = 4 := by rw [List.length_take]; omega
    have g0 : rd ((row.drop o).take 4) 0 = rd row ((o + 0 : Nat) : Int) := (rd_take _ 4 0 (by omega)).trans (rd_drop row o 0)
    have g1 : rd ((row.drop o).take 4) 1 = rd row ((o + 1 : Nat) : Int) := (rd_take _ 4 1 (by omega)).trans (rd_drop row o 1)
    have g2 : rd ((row.drop o).take 4) 2 = rd row ((o + 2 : Nat) : Int) := (rd_take _ 4 2 (by omega)).trans (rd_drop row o 2)
    have g3 : rd ((row.drop o).take 4) 3 = rd row ((o + 3 : Nat) : Int) := (rd_take _ 4 3 (by omega)).trans (rd_drop row o 3)
    rw [if_neg (by decide), if_pos c5, if_neg (by decide)]
    unfold impl_WordOf.f
    rw [e4, if_pos (by decide), if_pos (by decide), if_pos (by decide), if_pos (by decide), if_pos (by decide), g0, g1, g2, g3, word4 _ _ _ _ b0 b1 b2 b3, Option.bind_some]
    rw [show o + 0 = o from rfl]
theorem load_f (l : List S70) (r : List Int) (p : Int) (ram : List (List Int)) (a s kd : Int) (ha : (Lit.int .u32 a).wf = true) (k : Nat) (hk0 : 0 < k) (t : Int) (ht : (if (s = 1 ∨ s = 4) ∧ (kd = 1 ∨ kd = 2 ∨ kd = 4) then fltB l a s kd else 9) = t) (h : t ≠ 0) :
    impl_Guest_load.f k r p ram l a s kd = some (0, t, p) := by
  unfold impl_Guest_load.f
  rw [flt_j l a s kd ha k hk0, ht, Option.bind_some, if_neg h]
end Go.Proofs.Ytbcpkigeginmnaa.AidFL
end
section
namespace Go.Proofs.Ytbcpkigeginmnaa.AidFP
open Go.RowKit Go.Proofs.Ytbcpkigeginmnaa Go.Proofs.Ytbcpkigeginmnaa.AidFW Go.Proofs.Ytbcpkigeginmnaa.AidFF Go.Proofs.Ytbcpkigeginmnaa.AidFG Go.Proofs.Ytbcpkigeginmnaa.AidFL Go.Proofs.Ytbcpkigeginmnaa.GF Go.Proofs.Ytbcpkigeginmnaa.Lst Go.Proofs.YtbcpkigeginmnaaW.PrintWords Go.Proofs.YtbcpkigeginmnaaW.PrintLast
theorem ram_bytes (ram : List (List Int)) (h : ∀ x ∈ ram, x.length ≤ maxLen ∧ ∀ y ∈ x, (Lit.int .u8 y).wf = true) : ∀ x ∈ ram, Bytes x := fun x hx y hy => w8 ((h x hx).2 y hy)
end Go.Proofs.Ytbcpkigeginmnaa.AidFP
end
section
namespace Go.Proofs.Ytbcpkigeginmnaa.AidFK
open Go.RowKit Go.Proofs.Ytbcpkigeginmnaa Go.Proofs.Ytbcpkigeginmnaa.AidFW Go.Proofs.Ytbcpkigeginmnaa.AidFF Go.Proofs.Ytbcpkigeginmnaa.AidFG Go.Proofs.Ytbcpkigeginmnaa.AidFL Go.Proofs.Ytbcpkigeginmnaa.AidFP Go.Proofs.Ytbcpkigeginmnaa.GF Go.Proofs.Ytbcpkigeginmnaa.Lst Go.Proofs.YtbcpkigeginmnaaW.PrintWords Go.Proofs.YtbcpkigeginmnaaW.PrintLast
theorem bytes_eq (x : Int) (hx : (Lit.int .u32 x).wf = true) : spec_BytesOf.f x = impl_BytesOf.f x := by
  have h := Bit.w32 hx
  have e0 : wrap64 x = x := wr (by omega) (by omega)
  unfold spec_BytesOf.f impl_BytesOf.f
  rw [e0]
  have t1 : Int.tmod x 256 = x % 256 := by rw [Int.tmod_eq_emod_of_nonneg (by omega)]
  have d1 : Int.tdiv x 256 = x / 256 := Int.tdiv_eq_ediv_of_nonneg (by omega)
  have d2 : Int.tdiv x 65536 = x / 65536 := Int.tdiv_eq_ediv_of_nonneg (by omega)
  have d3 : Int.tdiv x 16777216 = x / 16777216 := Int.tdiv_eq_ediv_of_nonneg (by omega)
  rw [t1, d1, d2, d3, wr (n := x / 256) (by omega) (by omega), wr (n := x / 65536) (by omega) (by omega), wr (n := x / 16777216) (by omega) (by omega)]
  rw [Int.tmod_eq_emod_of_nonneg (by omega), Int.tmod_eq_emod_of_nonneg (by omega)]
  have c0 : x % 256 % 256 = x % 256 := by omega
  have c1 : x / 256 % 256 % 256 = x / 256 % 256 := by omega
  have c2 : x / 65536 % 256 % 256 = x / 65536 % 256 := by omega
  rw [c0, c1, c2]
theorem tot_set (ram : List (List Int)) (i : Nat) (row : List Int) (hi : i < ram.length) (h : row.length = ram[i].length) : GF.tot (ram.set i row) = GF.tot ram := by
  induction ram generalizing i with
  | nil => simp at hi
  | cons y t ih =>
    cases i with
    | zero => simp only [List.set_cons_zero, GF.tot, h, List.getElem_cons_zero]
    | succ i => simp only [List.set_cons_succ, GF.tot, ih i (by simpa using hi) (by simpa using h)]
end Go.Proofs.Ytbcpkigeginmnaa.AidFK
end
section
namespace Go.Proofs.Ytbcpkigeginmnaa.SarF
open Go.RowKit Go.Proofs.Ytbcpkigeginmnaa.Lst Go.Proofs.YtbcpkigeginmnaaW.PrintWords Go.Proofs.YtbcpkigeginmnaaW.PrintLast Go.Proofs.YtbcpkigeginmnaaW.PrintMore
def sarN (a n : Nat) : Nat := ((BitVec.ofNat 32 a).sshiftRight n).toNat
theorem sar_lt (a n : Nat) : sarN a n < 2 ^ 32 := BitVec.isLt _
theorem sar_int (a n : Nat) (ha : a < 2 ^ 32) : (wrap32 (a : Int) / 2 ^ n) % 4294967296 = (sarN a n : Int) := by
  have h1 : (BitVec.ofNat 32 a).toInt = wrap32 (a : Int) := by
    rw [BitVec.toInt_eq_toNat_bmod, BitVec.toNat_ofNat, Nat.mod_eq_of_lt ha]
    rw [Int.bmod_def]
    unfold wrap32
    split <;> omega
  have h2 : ((BitVec.ofNat 32 a).sshiftRight n).toInt = wrap32 (a : Int) / 2 ^ n := by
    rw [BitVec.toInt_sshiftRight, h1, Int.shiftRight_eq_div_pow]
    simp
  rw [← h2, BitVec.toInt_eq_toNat_bmod]
  have : ((2 ^ 32 : Nat) : Int) = 4294967296 := by decide
  rw [← this, Int.bmod_emod]
  have := sar_lt a n
  unfold sarN at *
  omega
theorem sar_bit (a n m : Nat) (hm : m < 32) : sarN a n / 2 ^ m % 2 = if n + m < 32 then a / 2 ^ (n + m) % 2 else a / 2 ^ 31 % 2 := by
  have e : (sarN a n).testBit m = ((BitVec.ofNat 32 a).sshiftRight n).getLsbD m := rfl
  rw [← Nat.toNat_testBit, e, BitVec.getLsbD_sshiftRight]
  have hd : decide (32 ≤ m) = false := by simp; omega
  rw [hd]
  simp only [Bool.not_false, Bool.true_and]
  split
  · rename_i h
    rw [← Nat.toNat_testBit, BitVec.getLsbD_ofNat]
    simp [h]
  · rw [← Nat.toNat_testBit, BitVec.msb_eq_getLsbD_last, BitVec.getLsbD_ofNat]
    simp
theorem sar_loop (F : Nat → Int → Int → Int → Int → Option Int) (B : Int → Int → Option Int)
    (hF : ∀ k x b o i, F (k + 1) x b o i = if i ≥ 0 then (if wrap64 (i + b) > 31 then ((B x 31).bind fun t => F k x b (wrap64 (wrap64 (2 * o) + t)) (wrap64 (i - 1))) else ((B x (wrap64 (i + b))).bind fun t => F k x b (wrap64 (wrap64 (2 * o) + t)) (wrap64 (i - 1)))) else some (o % 4294967296))
    (hB : ∀ (p d : Nat), p < 2 ^ 32 → d < 32 → B (p : Int) (d : Int) = some ((p / 2 ^ d % 2 : Nat) : Int))
    (a n : Nat) (ha : a < 2 ^ 32) (hn : n < 32) (m : Nat) : ∀ (k o : Nat), m ≤ 32 → o < 2 ^ (32 - m) → m < k → F k (a : Int) (n : Int) (o : Int) ((m : Int) - 1) = some (((o * 2 ^ m + sarN a n % 2 ^ m : Nat) : Int) % 4294967296) := by
  induction m with
  | zero =>
    intro k o hm ho hk
    obtain ⟨k, rfl⟩ : ∃ j, k = j + 1 := ⟨k - 1, by omega⟩
    rw [hF, if_neg (by omega)]
    simp [Nat.mod_one]
  | succ m ih =>
    intro k o hm ho hk
    obtain ⟨k, rfl⟩ : ∃ j, k = j + 1 := ⟨k - 1, by omega⟩
    have hlt : 2 ^ (32 - (m + 1)) ≤ 2 ^ 31 := Nat.pow_le_pow_right (by decide) (by omega)
    have hg := sar_bit a n m (by omega)
    have hg2 : sarN a n / 2 ^ m % 2 < 2 := Nat.mod_lt _ (by decide)
    have hpw : 2 ^ (32 - m) = 2 * 2 ^ (32 - (m + 1)) := by rw [show 32 - m = (32 - (m + 1)) + 1 by omega, Nat.pow_succ, Nat.mul_comm]
    have next : F k (a : Int) (n : Int) (wrap64 (wrap64 (2 * (o : Int)) + ((sarN a n / 2 ^ m % 2 : Nat) : Int))) (wrap64 (((m + 1 : Nat) : Int) - 1 - 1)) = some (((o * 2 ^ (m + 1) + sarN a n % 2 ^ (m + 1) : Nat) : Int) % 4294967296) := by
      have i1 := ih k (2 * o + sarN a n / 2 ^ m % 2) (by omega) (by omega) (by omega)
      have e1 : wrap64 (2 * (o : Int)) = 2 * (o : Int) := wr (by omega) (by omega)
      have e2 : wrap64 (2 * (o : Int) + ((sarN a n / 2 ^ m % 2 : Nat) : Int)) = ((2 * o + sarN a n / 2 ^ m % 2 : Nat) : Int) := by rw [wr (by omega) (by omega)]; omega
      have e3 : wrap64 (((m + 1 : Nat) : Int) - 1 - 1) = (m : Int) - 1 := by rw [wr (by omega) (by omega)]; omega
      rw [e1, e2, e3, i1]
      have e4 : (2 * o + sarN a n / 2 ^ m % 2) * 2 ^ m + sarN a n % 2 ^ m = o * 2 ^ (m + 1) + sarN a n % 2 ^ (m + 1) := by
        rw [Nat.mod_pow_succ, Nat.pow_succ, Nat.add_mul, Nat.mul_comm (2 ^ m) (sarN a n / 2 ^ m % 2), Nat.mul_comm 2 o, Nat.mul_assoc, Nat.mul_comm 2 (2 ^ m)]
        omega
      rw [e4]
    rw [hF, if_pos (by omega)]
    have e0 : wrap64 (((m + 1 : Nat) : Int) - 1 + (n : Int)) = ((n + m : Nat) : Int) := by rw [wr (by omega) (by omega)]; omega
    rw [e0]
    by_cases hw : n + m < 32
    · rw [if_neg (by omega), hB a (n + m) ha hw, ← (by rw [hg, if_pos hw] : sarN a n / 2 ^ m % 2 = a / 2 ^ (n + m) % 2)]
      exact next
    · rw [if_pos (by omega), show (31 : Int) = ((31 : Nat) : Int) from rfl, hB a 31 ha (by decide), ← (by rw [hg, if_neg hw] : sarN a n / 2 ^ m % 2 = a / 2 ^ 31 % 2)]
      exact next
end Go.Proofs.Ytbcpkigeginmnaa.SarF
end
section
namespace Go.Proofs.Ytbcpkigeginmnaa.AidFA
open Go.RowKit Go.Proofs.Ytbcpkigeginmnaa Go.Proofs.Ytbcpkigeginmnaa.GF Go.Proofs.Ytbcpkigeginmnaa.Lst Go.Proofs.YtbcpkigeginmnaaW.PrintWords Go.Proofs.YtbcpkigeginmnaaW.PrintLast Go.Proofs.YtbcpkigeginmnaaW.PrintMore
theorem wf32 {n : Int} (h0 : 0 ≤ n) (h1 : n < 4294967296) : (Lit.int .u32 n).wf = true := by
  simp only [Lit.wf, IntKind.min, IntKind.max, IntKind.signed, IntKind.bits, Bool.and_eq_true, decide_eq_true_eq, Bool.false_eq_true, if_false]
  omega
theorem bit_s (p d : Nat) (hp : p < 2 ^ 32) (hd : d < 32) : spec_l01Bit.f (p : Int) (d : Int) = some ((p / 2 ^ d % 2 : Nat) : Int) := by
  have hlt : p / 2 ^ d ≤ p := Nat.div_le_self _ _
  unfold spec_l01Bit.f
  rw [Bit.wu64 d (by omega), if_pos (by omega), Bit.shr_nat p d hd]
  generalize p / 2 ^ d = q at *
  rw [wr (by omega) (by omega), Bit.and_one _ (by omega)]
theorem less (a b : Int) (ha : 0 ≤ a ∧ a < 4294967296) (hb : 0 ≤ b ∧ b < 4294967296) : spec_LessWord.f a b = impl_LessWord.f a b := by
  unfold spec_LessWord.f impl_LessWord.f spec_l01Signed.f wrap64 wrap32
  repeat' split
  all_goals (simp only [Option.bind_some, Option.some.injEq]; rw [decide_eq_decide]; omega)
theorem tm32 (b : Nat) : Int.tmod (b : Int) 32 = ((b % 32 : Nat) : Int) := by
  rw [Int.tmod_eq_emod_of_nonneg (by omega)]; omega
theorem sar_i (a b : Nat) (ha : a < 2 ^ 32) : impl_SarWord.f (a : Int) (b : Int) = some ((SarF.sarN a (b % 32) : Nat) : Int) := by
  unfold impl_SarWord.f
  rw [tm32, if_pos (by omega)]
  have : shr .i32 (wrap32 (a : Int)) ((b % 32 : Nat) : Int) = wrap32 (a : Int) / 2 ^ (b % 32) := by
    unfold shr
    rw [Int.toNat_natCast, show min (b % 32) (IntKind.bits .i32) = b % 32 from Nat.min_eq_left (by show b % 32 ≤ 32; omega)]
  rw [this, SarF.sar_int a (b % 32) ha]
theorem sar_s (a b : Nat) (ha : a < 2 ^ 32) (k : Nat) (hk : 40 ≤ k) : spec_SarWord.f k (a : Int) (b : Int) = some ((SarF.sarN a (b % 32) : Nat) : Int) := by
  unfold spec_SarWord.f
  rw [tm32, wr (by omega) (by omega)]
  have := SarF.sar_loop spec_SarWord.l0 spec_l01Bit.f (fun _ _ _ _ _ => rfl) bit_s a (b % 32) ha (by omega) 32 k 0 (by omega) (by decide) (by omega)
  have h2 := SarF.sar_lt a (b % 32)
  rw [show ((32 : Nat) : Int) - 1 = 31 from rfl] at this
  simp only [Nat.zero_mul, Nat.zero_add] at this
  rw [Nat.mod_eq_of_lt h2] at this
  rw [show (0 : Int) = ((0 : Nat) : Int) from rfl, this]
  congr 1
  omega
theorem alu_eq (a : Int) (p n : Nat) (hp : p < 2 ^ 32) (hn : n < 2 ^ 32) (K : Nat) (hK : 40 ≤ K) : spec_Alu.f K a p n = impl_alu.f a p n := by
  have b1 : 0 ≤ (p : Int) ∧ (p : Int) < 4294967296 := by omega
  have c1 : 0 ≤ (n : Int) ∧ (n : Int) < 4294967296 := by omega
  have hw := Bit.wu64 (n % 32) (by omega)
  unfold spec_Alu.f impl_alu.f
  rw [sar_s p n hp K hK, sar_i p n hp, less p n b1 c1, tm32, hw]
  unfold spec_l08One.f impl_bitOf.f impl_LessWord.f
  rfl
theorem some_ite {α : Type} {c : Prop} [Decidable c] {x y : Option α} (hx : ∃ r, x = some r) (hy : ∃ r, y = some r) : ∃ r, (if c then x else y) = some r := by split <;> assumption
theorem some_bind {α β : Type} {x : Option α} {f : α → Option β} (hx : ∃ r, x = some r) (hf : ∀ a, ∃ r, f a = some r) : ∃ r, x.bind f = some r := by obtain ⟨r, rfl⟩ := hx; exact hf r
theorem alu_some (a : Int) (p n : Nat) : ∃ r, impl_alu.f a p n = some r := by
  unfold impl_alu.f impl_SarWord.f impl_LessWord.f impl_bitOf.f
  rw [tm32]
  have hz : (0 : Int) ≤ ((n % 32 : Nat) : Int) := by omega
  simp only [if_pos hz]
  repeat' (first | refine some_ite ?_ ?_ | refine some_bind ?_ (fun _ => ?_) | exact ⟨_, rfl⟩)
theorem alu_both (op x y : Int) (hx : 0 ≤ x ∧ x < 4294967296) (hy : 0 ≤ y ∧ y < 4294967296) (K : Nat) (hK : 40 ≤ K) : ∃ z t, spec_Alu.f K op x y = some (z, t) ∧ impl_alu.f op x y = some (z, t) := by
  obtain ⟨p, rfl⟩ := Int.eq_ofNat_of_zero_le hx.1
  obtain ⟨n, rfl⟩ := Int.eq_ofNat_of_zero_le hy.1
  obtain ⟨⟨z, t⟩, e⟩ := alu_some op p n
  exact ⟨z, t, (alu_eq op p n (by omega) (by omega) K hK).trans e, e⟩
theorem taken_both (op x y : Int) (hx : 0 ≤ x ∧ x < 4294967296) (hy : 0 ≤ y ∧ y < 4294967296) : ∃ b, spec_Taken.f op x y = some b ∧ impl_taken.f op x y = some b := by
  have e : spec_Taken.f op x y = impl_taken.f op x y := by
    unfold spec_Taken.f impl_taken.f
    rw [less x y hx hy]
  have h : ∃ b, impl_taken.f op x y = some b := by
    unfold impl_taken.f impl_LessWord.f
    repeat' (first | refine some_ite ?_ ?_ | refine some_bind ?_ (fun _ => ?_) | exact ⟨_, rfl⟩)
  obtain ⟨b, hb⟩ := h
  exact ⟨b, e.trans hb, hb⟩
end Go.Proofs.Ytbcpkigeginmnaa.AidFA
end
