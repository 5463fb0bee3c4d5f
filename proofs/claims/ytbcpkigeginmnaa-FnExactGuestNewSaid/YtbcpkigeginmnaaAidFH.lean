/- Plain laws: marks in a guest are held, and the reference's RegSet answers what the program's does. No program in sight. -/
import Derived.Test.YtbcpkigeginmnaaGFx0
import Derived.Test.YtbcpkigeginmnaaGFx18
import Derived.Test.YtbcpkigeginmnaaGFx19
import Derived.Test.YtbcpkigeginmnaaGFx21
import Derived.Test.YtbcpkigeginmnaaGFx22
import Derived.Test.YtbcpkigeginmnaaGFx4
import Derived.Test.YtbcpkigeginmnaaAidFG
import Derived.Test.YtbcpkigeginmnaaRgsF
namespace Go.Proofs.Ytbcpkigeginmnaa.AidFH
open Go.RowKit Go.Proofs.Ytbcpkigeginmnaa Go.Proofs.Ytbcpkigeginmnaa.GF Go.Proofs.Ytbcpkigeginmnaa.Lst Go.Proofs.YtbcpkigeginmnaaW.PrintWords Go.Proofs.YtbcpkigeginmnaaW.PrintLast
theorem tot_eq (l : List (List Int)) : AidFG.tot l = GF.tot l := by
  induction l with
  | nil => rfl
  | cons x t ih => simp [AidFG.tot, GF.tot, ih]
theorem tot_mem {l : List (List Int)} {x : List Int} (h : x ∈ l) : x.length ≤ tot l := by
  rw [← tot_eq]
  exact AidFG.tot_mem h
theorem held_b (m : Int) (n : Nat) (h0 : 0 ≤ m) (hm : m ≤ 90000000) (hl : n ≤ 9000000) (k : Nat) (hk : n < k) : laws_heldByteS.f k (marks (· % 256) m n) m = some (m + (n : Int)) := by
  unfold laws_heldByteS.f
  exact held_int laws_heldByteS.l0 (· % 256) (fun _ _ _ _ => rfl) m n h0 (by omega) k hk
theorem held_u (m : Int) (n : Nat) (h0 : 0 ≤ m) (hm : m ≤ 90000000) (hl : n ≤ 9000000) (k : Nat) (hk : n < k) : laws_heldUint32S.f k (marks (· % 4294967296) m n) m = some (m + (n : Int)) := by
  unfold laws_heldUint32S.f
  exact held_int laws_heldUint32S.l0 (· % 4294967296) (fun _ _ _ _ => rfl) m n h0 (by omega) k hk
theorem marksB_get (m : Int) (l : List (List Int)) (i : Nat) (hi : i < l.length) : rd_L2 (marksB m l) (i : Int) = marks (· % 256) (m + (tot (l.take i) : Int)) l[i].length := by
  have e : marksB m l = marksB m (l.take i) ++ marksB (m + (tot (l.take i) : Int)) (l.drop i) := by rw [← marksB_append, List.take_append_drop]
  have e2 : (marksB m (l.take i)).length = i := by rw [marksB_length, List.length_take]; omega
  unfold rd_L2
  rw [Int.toNat_natCast, e, List.getD_eq_getElem?_getD, List.getElem?_append_right (by omega), e2, Nat.sub_self, List.drop_eq_getElem_cons hi]
  rfl
theorem held_bb (l : List (List Int)) (m : Int) (h0 : 0 ≤ m) (hm : m + (tot l : Int) ≤ 9000000) (hl : l.length ≤ 9000000) (k : Nat) (hk : 20000000 < k) : laws_heldByteSS.f k (marksB m l) m = some (m + (tot l : Int)) := by
  unfold laws_heldByteSS.f
  have main : ∀ (d k i : Nat), i ≤ l.length → l.length - i = d → 9000001 + d < k → laws_heldByteSS.l0 k (marksB m l) (m + (tot (l.take i) : Int)) (i : Int) = some (m + (tot l : Int)) := by
    intro d
    induction d with
    | zero =>
      intro k i hi hd hk
      obtain ⟨k, rfl⟩ : ∃ m, k = m + 1 := ⟨k - 1, by omega⟩
      simp only [laws_heldByteSS.l0]
      rw [marksB_length, if_neg (by omega), List.take_of_length_le (by omega)]
    | succ d ih =>
      intro k i hi hd hk
      obtain ⟨k, rfl⟩ : ∃ m, k = m + 1 := ⟨k - 1, by omega⟩
      have hlt : i < l.length := by omega
      have e1 : wrap64 ((i : Int) + 1) = ((i + 1 : Nat) : Int) := by rw [wr (by omega) (by omega)]; omega
      have hx := tot_mem (List.getElem_mem hlt)
      have ht := tot_take l i hlt
      have hle := tot_take_le l i
      have hle1 := tot_take_le l (i + 1)
      have c1 : (i : Int) < ((marksB m l).length : Int) := by rw [marksB_length]; omega
      have c2 : (0 : Int) ≤ (i : Int) := by omega
      have e3 : m + (tot (l.take i) : Int) + (l[i].length : Int) = m + (tot (l.take (i + 1)) : Int) := by omega
      have c3 : ¬ m + (tot (l.take (i + 1)) : Int) < 0 := by omega
      simp only [laws_heldByteSS.l0]
      rw [if_pos c1, if_pos c2, marksB_get m l i hlt, held_b _ _ (by omega) (by omega) (by omega) k (by omega), Option.bind_some, e3, if_neg c3, e1]
      exact ih k (i + 1) (by omega) (by omega) (by omega)
  have := main l.length k 0 (by omega) (by omega) (by omega)
  simpa [tot] using this
theorem held_g (r : List Int) (p : Int) (ram : List (List Int)) (m : Int) (h0 : 0 ≤ m) (hm : m + (r.length : Int) + (ram.length : Int) + (tot ram : Int) ≤ 9000000) (k : Nat) (hk : 20000000 < k) :
    laws_heldGuest.f k (marks (· % 4294967296) m r.length) p (marksB (m + (r.length : Int)) ram) m = some (m + (r.length : Int) + (tot ram : Int)) := by
  unfold laws_heldGuest.f
  have c1 : ¬ m + (r.length : Int) < 0 := by omega
  have c2 : ¬ m + (r.length : Int) + (tot ram : Int) < 0 := by omega
  rw [held_u m r.length h0 (by omega) (by omega) k (by omega), Option.bind_some, if_neg c1, held_bb ram _ (by omega) (by omega) (by omega) k hk, Option.bind_some, if_neg c2]
theorem in_s (a b c : Int) : spec_l01In.f a b c = some (decide (b ≤ a ∧ a ≤ c)) := by
  unfold spec_l01In.f; split <;> simp_all <;> omega
theorem regset_s (r : List Int) (p : Int) (ram : List (List Int)) (n x : Int) (hr : r.length ≤ 9000000) (hl : ram.length ≤ 9000000) (hb : ∀ x ∈ ram, x.length ≤ 9000000) (k : Nat) (hk : ram.length + 1 < k) :
    spec_RegSet.f k r p ram n x = some (regR r n x, regP r n p, regM r n ram) := by
  obtain ⟨k, rfl⟩ : ∃ m, k = m + 1 := ⟨k - 1, by omega⟩
  unfold spec_RegSet.f regR regP regM regOk
  by_cases c1 : r.length = 16
  · rw [if_pos (show (r.length : Int) = 16 by omega), in_s, Option.bind_some, decide_eq_true c1, Bool.true_and]
    simp only [spec_RegSet.j0]
    by_cases c2 : 0 ≤ n ∧ n ≤ 15
    · rw [decide_eq_true c2, if_neg (by decide), if_pos rfl, if_pos rfl, if_pos rfl, copy_pure r p ram hr hl hb k (by omega), Option.bind_some]
      unfold spec_l08Set.f setR
      by_cases c3 : n = 0
      · subst c3
        rw [if_neg (by decide), if_pos rfl, Option.bind_some]
      · rw [if_pos (show n > 0 by omega), if_pos (show 0 ≤ n by omega), if_pos (show n < (r.length : Int) by omega), if_neg c3, Option.bind_some]
    · rw [decide_eq_false c2, if_pos (by decide), if_neg (by decide), if_neg (by decide), if_neg (by decide)]
  · rw [if_neg (show ¬ (r.length : Int) = 16 by omega), decide_eq_false c1]
    simp only [spec_RegSet.j0]
    simp
theorem reg_len (r : List Int) (n x : Int) : (regR r n x).length ≤ r.length := by
  unfold regR setR
  split
  · split
    · omega
    · simp
  · simp
theorem reg_ram (r : List Int) (n : Int) (ram : List (List Int)) : (regM r n ram).length ≤ ram.length ∧ tot (regM r n ram) ≤ tot ram := by
  unfold regM
  split
  · omega
  · simp [tot]
end Go.Proofs.Ytbcpkigeginmnaa.AidFH
