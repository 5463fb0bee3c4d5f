/- Plain laws: the reference's GuestNew answers what the program's does. No program in sight. -/
import Derived.Test.YtbcpkigeginmnaaGFx0
import Derived.Test.YtbcpkigeginmnaaGFx23
import Derived.Test.YtbcpkigeginmnaaGFx24
import Derived.Test.YtbcpkigeginmnaaAidFW
import Derived.Test.YtbcpkigeginmnaaAidFH
namespace Go.Proofs.Ytbcpkigeginmnaa.AidFN
open Go.RowKit Go.Proofs.Ytbcpkigeginmnaa Go.Proofs.Ytbcpkigeginmnaa.AidFW Go.Proofs.Ytbcpkigeginmnaa.GF Go.Proofs.Ytbcpkigeginmnaa.Lst Go.Proofs.YtbcpkigeginmnaaW.PrintWords Go.Proofs.YtbcpkigeginmnaaW.PrintLast
theorem wsucc (i : Nat) (h : i ≤ 9000000000) : wrap64 ((i : Int) + 1) = ((i + 1 : Nat) : Int) := by rw [wr (by omega) (by omega)]; omega
def zerosOf (v : S70) : List Int := List.replicate v.f1.toNat 0
def gnR (l : List S70) : List Int := if areWB l = true then List.replicate 16 0 else []
def gnP (l : List S70) (e : Int) : Int := if areWB l = true then e % 4294967296 else 0
def gnM (l : List S70) : List (List Int) := if areWB l = true then l.map zerosOf else []
theorem map_snoc (l : List S70) (i : Nat) (hi : i < l.length) : (l.take i).map zerosOf ++ [zerosOf (rd_T70 l (i : Int))] = (l.take (i + 1)).map zerosOf := by
  have := rd_at l i hi
  rw [List.getElem?_eq_getElem hi] at this
  injection this with this
  rw [List.take_succ_eq_append_getElem hi, List.map_append, ← this]
  rfl
theorem new_i (l : List S70) (hw : ∀ x ∈ l, WinB x) (e : Int) (hlen : l.length ≤ 9000000) (k : Nat) (hk : l.length < k) : impl_newGuest.f k l e = some (List.replicate 16 0, e % 4294967296, l.map zerosOf) := by
  unfold impl_newGuest.f
  rw [if_pos (by decide)]
  have main : ∀ (d k i : Nat), i ≤ l.length → l.length - i = d → d < k → impl_newGuest.l0 k l (l.length : Int) (i : Int) (List.replicate 16 0) (e % 4294967296) ((l.take i).map zerosOf) = some (List.replicate 16 0, e % 4294967296, l.map zerosOf) := by
    intro d
    induction d with
    | zero =>
      intro k i hi hd hk
      obtain ⟨k, rfl⟩ : ∃ m, k = m + 1 := ⟨k - 1, by omega⟩
      simp only [impl_newGuest.l0]
      rw [if_neg (by omega), List.take_of_length_le (by omega)]
    | succ d ih =>
      intro k i hi hd hk
      obtain ⟨k, rfl⟩ : ∃ m, k = m + 1 := ⟨k - 1, by omega⟩
      have hlt : i < l.length := by omega
      have hb := mem_rd hw i hlt
      unfold WinB at hb
      have c1 : (i : Int) < (l.length : Int) := by omega
      have c2 : (0 : Int) ≤ (i : Int) := by omega
      have c3 : (0 : Int) ≤ (rd_T70 l (i : Int)).f1 := by omega
      have c4 : ((rd_T70 l (i : Int)).f1).toNat ≤ 281474976710656 := by omega
      have c5 : ((l.take i).map zerosOf).length < 5864062014805 := by rw [List.length_map, List.length_take]; omega
      have e1 : wrap64 ((i : Int) + 1) = ((i + 1 : Nat) : Int) := wsucc i (by omega)
      simp only [impl_newGuest.l0]
      rw [if_pos c1, if_pos c2, if_pos c1, if_pos c3, if_pos c4, if_pos c5, e1]
      have := map_snoc l i hlt
      unfold zerosOf at this ⊢
      rw [this]
      clear e1
      exact ih k (i + 1) (by omega) (by omega) (by omega)
  exact main l.length k 0 (by omega) (by omega) hk
theorem new_s (l : List S70) (hw : ∀ x ∈ l, WinB x) (e : Int) (hlen : l.length ≤ 4) (k : Nat) (hk : 20000 < k) : spec_GuestNew.l0 k l 0 [] (e % 4294967296) = some (List.replicate 16 0, e % 4294967296, l.map zerosOf) := by
  have inner : ∀ (f : List S70 → Prop) (d : Nat) (K i : Nat) (n : Nat) (q : Option (List Int × Int × List (List Int))), i < l.length → n ≤ (rd_T70 l (i : Int)).f1.toNat → (rd_T70 l (i : Int)).f1.toNat - n = d → spec_GuestNew.l1 K l (((i + 1 : Nat) : Int)) (List.replicate 16 0) (e % 4294967296) ((l.take (i + 1)).map zerosOf) = q →
      spec_GuestNew.l2 (K + 1 + d) l (i : Int) (List.replicate n 0) (n : Int) (List.replicate 16 0) (e % 4294967296) ((l.take i).map zerosOf) = q := by
    intro f d
    induction d with
    | zero =>
      intro K i n q hi hn hd hq
      have hb := mem_rd hw i hi
      unfold WinB at hb
      have c1 : (0 : Int) ≤ (i : Int) := by omega
      have c2 : (i : Int) < (l.length : Int) := by omega
      have c3 : ¬ (n : Int) < (rd_T70 l (i : Int)).f1 := by omega
      have c4 : ((l.take i).map zerosOf).length < 5864062014805 := by rw [List.length_map, List.length_take]; omega
      have en : n = (rd_T70 l (i : Int)).f1.toNat := by omega
      rw [Nat.add_zero]
      have e1 : wrap64 ((i : Int) + 1) = ((i + 1 : Nat) : Int) := wsucc i (by omega)
      simp only [spec_GuestNew.l2]
      rw [if_pos c1, if_pos c2, if_neg c3, if_pos c4, e1, en]
      have := map_snoc l i hi
      unfold zerosOf at this hq ⊢
      rw [this]
      clear e1
      exact hq
    | succ d ih =>
      intro K i n q hi hn hd hq
      have hb := mem_rd hw i hi
      unfold WinB at hb
      have c1 : (0 : Int) ≤ (i : Int) := by omega
      have c2 : (i : Int) < (l.length : Int) := by omega
      have c3 : (n : Int) < (rd_T70 l (i : Int)).f1 := by omega
      have c4 : (List.replicate n (0 : Int)).length < 140737488355328 := by rw [List.length_replicate]; omega
      rw [show K + 1 + (d + 1) = (K + 1 + d) + 1 by omega]
      have e1 : wrap64 ((n : Int) + 1) = ((n + 1 : Nat) : Int) := wsucc n (by omega)
      simp only [spec_GuestNew.l2]
      rw [if_pos c1, if_pos c2, if_pos c3, if_pos c4, e1, show List.replicate n (0 : Int) ++ [0] = List.replicate (n + 1) 0 from List.replicate_succ'.symm]
      clear e1
      exact ih K i (n + 1) q hi (by omega) (by omega) hq
  have outer : ∀ (d K i : Nat), i ≤ l.length → l.length - i = d → 3000 * d < K → spec_GuestNew.l1 K l (i : Int) (List.replicate 16 0) (e % 4294967296) ((l.take i).map zerosOf) = some (List.replicate 16 0, e % 4294967296, l.map zerosOf) := by
    intro d
    induction d with
    | zero =>
      intro K i hi hd hk
      obtain ⟨K, rfl⟩ : ∃ m, K = m + 1 := ⟨K - 1, by omega⟩
      simp only [spec_GuestNew.l1]
      rw [if_neg (by omega), List.take_of_length_le (by omega)]
    | succ d ih =>
      intro K i hi hd hk
      obtain ⟨K, rfl⟩ : ∃ m, K = m + 1 := ⟨K - 1, by omega⟩
      have hlt : i < l.length := by omega
      have hb := mem_rd hw i hlt
      unfold WinB at hb
      have c2 : (i : Int) < (l.length : Int) := by omega
      simp only [spec_GuestNew.l1]
      rw [if_pos c2]
      obtain ⟨K', hK'⟩ : ∃ K', K = K' + 1 + (rd_T70 l (i : Int)).f1.toNat := ⟨K - 1 - (rd_T70 l (i : Int)).f1.toNat, by omega⟩
      rw [hK']
      exact inner (fun _ => True) _ K' i 0 _ hlt (by omega) (by omega) (ih K' (i + 1) (by omega) (by omega) (by omega))
  have regs : ∀ (d K n : Nat), n ≤ 16 → 16 - n = d → 12001 + d < K → spec_GuestNew.l0 K l (n : Int) (List.replicate n 0) (e % 4294967296) = some (List.replicate 16 0, e % 4294967296, l.map zerosOf) := by
    intro d
    induction d with
    | zero =>
      intro K n hn hd hk
      obtain ⟨K, rfl⟩ : ∃ m, K = m + 1 := ⟨K - 1, by omega⟩
      obtain rfl : n = 16 := by omega
      simp only [spec_GuestNew.l0]
      rw [if_neg (by decide)]
      exact outer l.length K 0 (by omega) (by omega) (by omega)
    | succ d ih =>
      intro K n hn hd hk
      obtain ⟨K, rfl⟩ : ∃ m, K = m + 1 := ⟨K - 1, by omega⟩
      have c4 : (List.replicate n (0 : Int)).length < 35184372088832 := by rw [List.length_replicate]; omega
      have c1 : (n : Int) < 16 := by omega
      have e1 : wrap64 ((n : Int) + 1) = ((n + 1 : Nat) : Int) := wsucc n (by omega)
      simp only [spec_GuestNew.l0]
      rw [if_pos c1, if_pos c4, e1, show List.replicate n (0 : Int) ++ [0] = List.replicate (n + 1) 0 from List.replicate_succ'.symm]
      clear e1
      exact ih K (n + 1) (by omega) (by omega) (by omega)
  exact regs 16 k 0 (by omega) (by omega) (by omega)
theorem gn_i (l : List S70) (hl : ∀ x ∈ l, WfW x) (e : Int) (hlen : l.length ≤ 9000000) (k : Nat) (hk : l.length < k) : impl_GuestNew.f k l e = some (gnR l, gnP l e, gnM l) := by
  unfold impl_GuestNew.f impl_areWindows.f gnR gnP gnM
  rw [Option.bind_some]
  by_cases h : areWB l = true
  · rw [if_pos h, if_pos h, if_pos h, if_pos h, new_i l (areW_win hl h) e hlen k hk, Option.bind_some]
  · rw [if_neg h, if_neg h, if_neg h, if_neg h]
theorem gn_s (l : List S70) (hl : ∀ x ∈ l, WfW x) (e : Int) (k : Nat) (hk : 20000 < k) : spec_GuestNew.f k l e = some (gnR l, gnP l e, gnM l) := by
  unfold spec_GuestNew.f gnR gnP gnM
  rw [windows_s l hl k (by omega), Option.bind_some]
  by_cases h : areWB l = true
  · rw [if_pos h, if_pos h, if_pos h, if_pos h, new_s l (areW_win hl h) e (areW_len h) k hk]
  · rw [if_neg h, if_neg h, if_neg h, if_neg h]
theorem tot_zeros (l : List S70) (hw : ∀ x ∈ l, WinB x) : tot (l.map zerosOf) ≤ 2048 * l.length := by
  induction l with
  | nil => simp [tot]
  | cons v t ih =>
    have hb := hw v List.mem_cons_self
    unfold WinB at hb
    have := ih (fun x hx => hw x (List.mem_cons_of_mem _ hx))
    simp only [List.map_cons, tot, List.length_cons]
    unfold zerosOf
    rw [List.length_replicate]
    unfold zerosOf at this
    omega
theorem gn_small (l : List S70) (hl : ∀ x ∈ l, WfW x) : (gnR l).length ≤ 16 ∧ (gnM l).length ≤ 4 ∧ tot (gnM l) ≤ 8192 := by
  unfold gnR gnM
  by_cases h : areWB l = true
  · rw [if_pos h, if_pos h]
    have h4 := areW_len h
    have := tot_zeros l (areW_win hl h)
    rw [List.length_map, List.length_replicate]
    omega
  · rw [if_neg h, if_neg h]
    simp [tot]
end Go.Proofs.Ytbcpkigeginmnaa.AidFN
