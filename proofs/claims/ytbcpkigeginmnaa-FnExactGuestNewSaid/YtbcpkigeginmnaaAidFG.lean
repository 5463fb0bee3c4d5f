/- Plain laws of the law's own small functions over guests, and that both call the same guests ok. No program in sight. -/
import Derived.Test.YtbcpkigeginmnaaGFx0
import Derived.Test.YtbcpkigeginmnaaGFx1
import Derived.Test.YtbcpkigeginmnaaGFx2
import Derived.Test.YtbcpkigeginmnaaGFx3
import Derived.Test.YtbcpkigeginmnaaGFx4
import Derived.Test.YtbcpkigeginmnaaGFx7
import Derived.Test.YtbcpkigeginmnaaGFx9
import Derived.Test.YtbcpkigeginmnaaAidFW
namespace Go.Proofs.Ytbcpkigeginmnaa.AidFG
open Go.RowKit Go.Proofs.Ytbcpkigeginmnaa Go.Proofs.Ytbcpkigeginmnaa.AidFW Go.Proofs.Ytbcpkigeginmnaa.GF Go.Proofs.Ytbcpkigeginmnaa.Lst Go.Proofs.YtbcpkigeginmnaaW.PrintWords Go.Proofs.YtbcpkigeginmnaaW.PrintLast
theorem sz_u (l : List Int) (hl : l.length ≤ maxLen) (m : Int) (h0 : 0 ≤ m) (h1 : m ≤ 9000000) : laws_szUint32S.f l m = some (if m < (l.length : Int) then -1 else m - (l.length : Int)) := by
  unfold maxLen at hl
  unfold laws_szUint32S.f
  rw [wr (by omega) (by omega)]
  split <;> split <;> first | rfl | omega
theorem sz_b (l : List Int) (hl : l.length ≤ maxLen) (m : Int) (h0 : 0 ≤ m) (h1 : m ≤ 9000000) : laws_szByteS.f l m = some (if m < (l.length : Int) then -1 else m - (l.length : Int)) := by
  unfold maxLen at hl
  unfold laws_szByteS.f
  rw [wr (by omega) (by omega)]
  split <;> split <;> first | rfl | omega
theorem to_u (l : List Int) (hl : l.length ≤ 9000000) (k : Nat) (hk : l.length < k) : laws_toUint32S.f k l = some l := by
  unfold laws_toUint32S.f
  rw [if_pos (by omega), if_pos (by omega)]
  exact to_int laws_toUint32S.l0 (fun _ _ _ _ => rfl) l (by omega) k hk
theorem eq_u (l : List Int) (hl : l.length ≤ 9000000) (k : Nat) (hk : l.length < k) : laws_eqUint32S.f k l l = some true := by
  unfold laws_eqUint32S.f
  rw [if_pos rfl]
  exact eq_int laws_eqUint32S.l0 (fun _ _ _ _ => rfl) l (by omega) k hk
theorem to_b (l : List Int) (hl : l.length ≤ 9000000) (k : Nat) (hk : l.length < k) : laws_toByteS.f k l = some l := by
  unfold laws_toByteS.f
  rw [if_pos (by omega), if_pos (by omega)]
  exact to_int laws_toByteS.l0 (fun _ _ _ _ => rfl) l (by omega) k hk
theorem eq_b (l : List Int) (hl : l.length ≤ 9000000) (k : Nat) (hk : l.length < k) : laws_eqByteS.f k l l = some true := by
  unfold laws_eqByteS.f
  rw [if_pos rfl]
  exact eq_int laws_eqByteS.l0 (fun _ _ _ _ => rfl) l (by omega) k hk
theorem rd2 (l : List (List Int)) (i : Nat) (hi : i < l.length) : rd_L2 l (i : Int) = l[i] := by
  unfold rd_L2
  rw [Int.toNat_natCast, List.getD_eq_getElem?_getD, List.getElem?_eq_getElem hi]
  rfl
/-- How many bytes rows hold. -/
def tot : List (List Int) → Nat
  | [] => 0
  | x :: t => x.length + tot t
theorem tot_mem {l : List (List Int)} {x : List Int} (h : x ∈ l) : x.length ≤ tot l := by
  induction l with
  | nil => cases h
  | cons y t ih =>
    unfold tot
    rcases List.mem_cons.1 h with rfl | h2
    · omega
    · have := ih h2; omega
theorem tot_drop (l : List (List Int)) (i : Nat) (hi : i < l.length) : tot (l.drop i) = l[i].length + tot (l.drop (i + 1)) := by
  rw [List.drop_eq_getElem_cons hi]
  rfl
theorem sz_bb (l : List (List Int)) (hl : l.length ≤ maxLen) (hb : ∀ x ∈ l, x.length ≤ maxLen) (m : Int) (h0 : 0 ≤ m) (h1 : m ≤ 9000000) (k : Nat) (hk : 9000001 < k) :
    laws_szByteSS.f k l m = some (if m < (l.length : Int) + (tot l : Int) then -1 else m - (l.length : Int) - (tot l : Int)) := by
  have hm := hl
  unfold maxLen at hm
  unfold laws_szByteSS.f
  rw [wr (by omega) (by omega)]
  by_cases c : m - (l.length : Int) < 0
  · rw [if_pos c, if_pos (by omega)]
  · rw [if_neg c]
    have main : ∀ (d : Nat) (k i : Nat) (q : Int), i ≤ l.length → l.length - i = d → d < k → 0 ≤ q → q ≤ 9000000 → laws_szByteSS.l0 k l q (i : Int) = some (if q < (tot (l.drop i) : Int) then -1 else q - (tot (l.drop i) : Int)) := by
      intro d
      induction d with
      | zero =>
        intro k i q hi hd hk hq hq2
        obtain ⟨k, rfl⟩ : ∃ m, k = m + 1 := ⟨k - 1, by omega⟩
        simp only [laws_szByteSS.l0]
        have : l.drop i = [] := List.drop_eq_nil_of_le (by omega)
        rw [if_neg (by omega), this]
        unfold tot
        rw [if_neg (by omega)]
        simp
      | succ d ih =>
        intro k i q hi hd hk hq hq2
        obtain ⟨k, rfl⟩ : ∃ m, k = m + 1 := ⟨k - 1, by omega⟩
        have hlt : i < l.length := by omega
        have e1 : wrap64 ((i : Int) + 1) = ((i + 1 : Nat) : Int) := by rw [wr (by omega) (by omega)]; omega
        have hx := hb l[i] (List.getElem_mem _)
        simp only [laws_szByteSS.l0]
        rw [if_pos (by omega), if_pos (by omega), rd2 l i hlt, sz_b _ hx q hq hq2, Option.bind_some, e1, tot_drop l i hlt]
        by_cases c2 : q < (l[i].length : Int)
        · rw [if_pos c2, if_pos (by decide), if_pos (by omega)]
        · rw [if_neg c2, if_neg (by omega), ih k (i + 1) _ (by omega) (by omega) (by omega) (by omega) (by omega)]
          have : (q - (l[i].length : Int) < (tot (l.drop (i + 1)) : Int)) ↔ q < ((l[i].length + tot (l.drop (i + 1)) : Nat) : Int) := by omega
          by_cases c3 : q - (l[i].length : Int) < (tot (l.drop (i + 1)) : Int)
          · rw [if_pos c3, if_pos (this.1 c3)]
          · rw [if_neg c3, if_neg (fun z => c3 (this.2 z))]
            refine congrArg some ?_
            omega
    have := main l.length k 0 (m - (l.length : Int)) (by omega) (by omega) (by omega) (by omega) (by omega)
    rw [List.drop_zero] at this
    rw [show (0 : Int) = ((0 : Nat) : Int) from rfl, this]
    by_cases c3 : m - (l.length : Int) < (tot l : Int)
    · rw [if_pos c3, if_pos (by omega)]
    · rw [if_neg c3, if_neg (by omega)]
theorem to_bb (l : List (List Int)) (hl : l.length ≤ 9000000) (hb : ∀ x ∈ l, x.length ≤ 9000000) (k : Nat) (hk : 20000000 < k) : laws_toByteSS.f k l = some l := by
  unfold laws_toByteSS.f
  rw [if_pos (by omega), if_pos (by omega), Int.toNat_natCast]
  have main : ∀ (d : Nat) (k i : Nat), i ≤ l.length → l.length - i = d → 9000001 + d < k → laws_toByteSS.l0 k l (l.take i ++ List.replicate d []) (i : Int) = some l := by
    intro d
    induction d with
    | zero =>
      intro k i hi hd hk
      obtain ⟨k, rfl⟩ : ∃ m, k = m + 1 := ⟨k - 1, by omega⟩
      simp only [laws_toByteSS.l0]
      rw [if_neg (by omega), List.take_of_length_le (by omega)]
      simp
    | succ d ih =>
      intro k i hi hd hk
      obtain ⟨k, rfl⟩ : ∃ m, k = m + 1 := ⟨k - 1, by omega⟩
      have hlt : i < l.length := by omega
      have e1 : wrap64 ((i : Int) + 1) = ((i + 1 : Nat) : Int) := by rw [wr (by omega) (by omega)]; omega
      have hx := hb l[i] (List.getElem_mem _)
      simp only [laws_toByteSS.l0]
      rw [if_pos (by omega), if_pos (by omega), rd2 l i hlt, to_b _ hx k (by omega), Option.bind_some, e1, if_pos (by simp; omega), Int.toNat_natCast]
      have : (l.take i ++ List.replicate (d + 1) []).set i l[i] = l.take (i + 1) ++ List.replicate d [] := by
        rw [List.set_append_right _ _ (by simp; omega), List.length_take, show i - min i l.length = 0 by omega, List.replicate_succ, List.set_cons_zero, List.take_succ_eq_append_getElem hlt, List.append_assoc]
        rfl
      rw [this]
      exact ih k (i + 1) (by omega) (by omega) (by omega)
  have := main l.length k 0 (by omega) (by omega) (by omega)
  simpa using this
theorem eq_bb (l : List (List Int)) (hl : l.length ≤ 9000000) (hb : ∀ x ∈ l, x.length ≤ 9000000) (k : Nat) (hk : 20000000 < k) : laws_eqByteSS.f k l l = some true := by
  unfold laws_eqByteSS.f
  rw [if_pos rfl]
  have main : ∀ (d : Nat) (k i : Nat), i ≤ l.length → l.length - i = d → 9000001 + d < k → laws_eqByteSS.l0 k l l (i : Int) = some true := by
    intro d
    induction d with
    | zero =>
      intro k i hi hd hk
      obtain ⟨k, rfl⟩ : ∃ m, k = m + 1 := ⟨k - 1, by omega⟩
      simp only [laws_eqByteSS.l0]
      rw [if_neg (by omega)]
    | succ d ih =>
      intro k i hi hd hk
      obtain ⟨k, rfl⟩ : ∃ m, k = m + 1 := ⟨k - 1, by omega⟩
      have hlt : i < l.length := by omega
      have e1 : wrap64 ((i : Int) + 1) = ((i + 1 : Nat) : Int) := by rw [wr (by omega) (by omega)]; omega
      have hx := hb l[i] (List.getElem_mem _)
      simp only [laws_eqByteSS.l0]
      rw [if_pos (by omega), if_pos (by omega), if_pos (by omega), rd2 l i hlt, eq_b _ hx k (by omega), Option.bind_some, if_pos rfl, e1]
      exact ih k (i + 1) (by omega) (by omega) (by omega)
  exact main l.length k 0 (by omega) (by omega) (by omega)
theorem to_g (r : List Int) (p : Int) (ram : List (List Int)) (hr : r.length ≤ 9000000) (hl : ram.length ≤ 9000000) (hb : ∀ x ∈ ram, x.length ≤ 9000000) (k : Nat) (hk : 20000000 < k) : laws_toGuest.f k r p ram = some (r, p, ram) := by
  unfold laws_toGuest.f
  rw [to_u r hr k (by omega), Option.bind_some, to_bb ram hl hb k hk, Option.bind_some]
theorem eq_g (r : List Int) (p : Int) (ram : List (List Int)) (hr : r.length ≤ 9000000) (hl : ram.length ≤ 9000000) (hb : ∀ x ∈ ram, x.length ≤ 9000000) (k : Nat) (hk : 20000000 < k) : laws_eqGuest.f k r p ram r p ram = some true := by
  unfold laws_eqGuest.f
  rw [eq_u r hr k (by omega), Option.bind_some, if_pos rfl, if_pos rfl, eq_bb ram hl hb k hk, Option.bind_some, if_pos rfl]
theorem sz_g (r : List Int) (p : Int) (ram : List (List Int)) (hr : r.length ≤ maxLen) (hl : ram.length ≤ maxLen) (hb : ∀ x ∈ ram, x.length ≤ maxLen) (m : Int) (h0 : 0 ≤ m) (h1 : m ≤ 9000000) (k : Nat) (hk : 9000001 < k) :
    ∃ q, laws_szGuest.f k r p ram m = some q ∧ (q < 0 ∨ (r.length : Int) + (ram.length : Int) + (tot ram : Int) ≤ m) := by
  unfold laws_szGuest.f
  rw [sz_u r hr m h0 h1, Option.bind_some]
  by_cases c : m < (r.length : Int)
  · rw [if_pos c, if_pos (by decide)]
    exact ⟨_, rfl, .inl (by decide)⟩
  · rw [if_neg c, if_neg (by omega), sz_bb ram hl hb _ (by omega) (by omega) k hk, Option.bind_some]
    by_cases c2 : m - (r.length : Int) < (ram.length : Int) + (tot ram : Int)
    · rw [if_pos c2, if_pos (by decide)]
      exact ⟨_, rfl, .inl (by decide)⟩
    · rw [if_neg c2, if_neg (by omega)]
      exact ⟨_, rfl, .inr (by omega)⟩
/-- Each window's bytes are there. -/
def Fits (l : List S70) (ram : List (List Int)) : Prop := ∀ j : Nat, j < l.length → ((rd_L2 ram (j : Int)).length : Int) = (rd_T70 l (j : Int)).f1
theorem gok_loop (l : List S70) (r : List Int) (p : Int) (ram : List (List Int)) (hlen : l.length ≤ 9000000) (hram : ram.length = l.length) : ∀ (d k i : Nat), i ≤ l.length → l.length - i = d → d < k →
    ∃ b, spec_GuestOk.l0 k l (i : Int) r p ram = some b ∧ impl_isGuest.l0 k l (l.length : Int) (i : Int) r p ram = some b ∧ (b = true → ∀ j : Nat, i ≤ j → j < l.length → ((rd_L2 ram (j : Int)).length : Int) = (rd_T70 l (j : Int)).f1) := by
  intro d
  induction d with
  | zero =>
    intro k i hi hd hk
    obtain ⟨k, rfl⟩ : ∃ m, k = m + 1 := ⟨k - 1, by omega⟩
    simp only [spec_GuestOk.l0, impl_isGuest.l0]
    rw [if_neg (by omega), if_neg (by omega)]
    exact ⟨true, rfl, rfl, fun _ j h1 h2 => by omega⟩
  | succ d ih =>
    intro k i hi hd hk
    obtain ⟨k, rfl⟩ : ∃ m, k = m + 1 := ⟨k - 1, by omega⟩
    have e1 : wrap64 ((i : Int) + 1) = ((i + 1 : Nat) : Int) := by rw [wr (by omega) (by omega)]; omega
    simp only [spec_GuestOk.l0, impl_isGuest.l0]
    have c0 : (0 : Int) ≤ (i : Int) := by omega
    have c1 : (i : Int) < (l.length : Int) := by omega
    have c2 : (i : Int) < (ram.length : Int) := by omega
    simp only [if_pos c0, if_pos c1, if_pos c2, e1]
    by_cases c : ((rd_L2 ram (i : Int)).length : Int) = (rd_T70 l (i : Int)).f1
    · simp only [if_pos c]
      obtain ⟨b, hs, hi2, hb⟩ := ih k (i + 1) (by omega) (by omega) (by omega)
      refine ⟨b, hs, hi2, fun h j h1 h2 => ?_⟩
      by_cases e : j = i
      · subst e; exact c
      · exact hb h j (by omega) h2
    · simp only [if_neg c]
      exact ⟨false, rfl, rfl, fun h => by cases h⟩
theorem gok (l : List S70) (hwf : ∀ x ∈ l, WfW x) (r : List Int) (p : Int) (ram : List (List Int)) (hlen : l.length ≤ 9000000) (k : Nat) (hk : l.length + 2000 < k) :
    ∃ b, spec_GuestOk.f k l r p ram = some b ∧ impl_isGuest.f k l r p ram = some b ∧ (b = true → areWB l = true ∧ r.length = 16 ∧ rd r 0 = 0 ∧ ram.length = l.length ∧ Fits l ram) := by
  obtain ⟨k, rfl⟩ : ∃ m, k = m + 1 := ⟨k - 1, by omega⟩
  unfold spec_GuestOk.f impl_isGuest.f impl_areWindows.f
  rw [windows_s l hwf (k + 1) (by omega), Option.bind_some, Option.bind_some]
  have no : ∃ b, spec_GuestOk.j0 (k + 1) l true r p ram = some b ∧ impl_isGuest.j0 (k + 1) l true r p ram = some b ∧ (b = true → areWB l = true ∧ r.length = 16 ∧ rd r 0 = 0 ∧ ram.length = l.length ∧ Fits l ram) := by
    simp only [spec_GuestOk.j0, impl_isGuest.j0]
    rw [if_pos trivial, if_pos trivial]
    exact ⟨false, rfl, rfl, fun h => by cases h⟩
  by_cases h1 : areWB l = true
  · rw [if_pos h1, if_pos h1]
    by_cases h2 : (r.length : Int) = 16
    · have h5 : (0 : Int) < (r.length : Int) := by omega
      rw [if_pos h2, if_pos h2, if_pos h5, if_pos h5]
      by_cases h3 : rd r 0 = 0
      · rw [if_pos h3, if_pos h3]
        by_cases h4 : ram.length = l.length
        · have e4 : ((ram.length : Int) != (l.length : Int)) = false := by simp [h4]
          rw [e4]
          simp only [spec_GuestOk.j0, impl_isGuest.j0]
          rw [if_neg (by decide), if_neg (by decide)]
          obtain ⟨b, hs, hi, hb⟩ := gok_loop l r p ram hlen h4 l.length k 0 (by omega) (by omega) (by omega)
          exact ⟨b, hs, hi, fun h => ⟨h1, by omega, h3, h4, fun j hj => hb h j (by omega) hj⟩⟩
        · have e4 : ((ram.length : Int) != (l.length : Int)) = true := bne_iff_ne.2 (by omega)
          rw [e4]
          exact no
      · rw [if_neg h3, if_neg h3]
        exact no
    · rw [if_neg h2, if_neg h2]
      exact no
  · rw [if_neg h1, if_neg h1]
    exact no
end Go.Proofs.Ytbcpkigeginmnaa.AidFG
