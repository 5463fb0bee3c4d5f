/- Plain laws of the law's own small functions over rows of words, and over a receiver's end. No program in sight. -/
import Derived.Test.YtioifcanipijhaaGCx0
import Derived.Test.YtioifcanipijhaaGCx12
import Derived.Test.YtioifcanipijhaaGCx4
import Derived.Test.YtioifcanipijhaaGCx5
import Derived.Test.YtioifcanipijhaaLst
namespace Go.Proofs.Ytioifcanipijhaa.AidVC
open Go.RowKit Go.Proofs.Ytioifcanipijhaa Go.Proofs.Ytioifcanipijhaa.GC Go.Proofs.Ytioifcanipijhaa.Lst Go.Proofs.YtioifcanipijhaaW.PrintWords Go.Proofs.YtioifcanipijhaaW.PrintLast
theorem sz_u (l : List Int) (hl : l.length ≤ maxLen) (m : Int) (h0 : 0 ≤ m) (h1 : m ≤ 9000000) : laws_szUint32S.f l m = some (if m < (l.length : Int) then -1 else m - (l.length : Int)) := by
  unfold maxLen at hl
  unfold laws_szUint32S.f
  rw [wr (by omega) (by omega)]
  split <;> split <;> first | rfl | omega
theorem to_u (l : List Int) (hl : l.length ≤ 9000000) (k : Nat) (hk : l.length < k) : laws_toUint32S.f k l = some l := by
  unfold laws_toUint32S.f
  rw [if_pos (by omega), if_pos (by omega)]
  exact to_int laws_toUint32S.l0 (fun _ _ _ _ => rfl) l (by omega) k hk
theorem eq_u (l : List Int) (hl : l.length ≤ 9000000) (k : Nat) (hk : l.length < k) : laws_eqUint32S.f k l l = some true := by
  unfold laws_eqUint32S.f
  rw [if_pos rfl]
  exact eq_int laws_eqUint32S.l0 (fun _ _ _ _ => rfl) l (by omega) k hk
theorem mark_u (l : List Int) (m : Int) (h0 : 0 ≤ m) (hm : m ≤ 90000000) (hl : l.length ≤ 9000000) (k : Nat) (hk : l.length < k) : laws_markUint32S.f k l m = some (m + (l.length : Int), marks (· % 4294967296) m l.length) := by
  unfold laws_markUint32S.f
  exact mark_all laws_markUint32S.l0 (· % 4294967296) (fun _ _ _ _ => rfl) l m h0 (by omega) k hk
theorem held_u (m : Int) (n : Nat) (h0 : 0 ≤ m) (hm : m ≤ 90000000) (hl : n ≤ 9000000) (k : Nat) (hk : n < k) : laws_heldUint32S.f k (marks (· % 4294967296) m n) m = some (m + (n : Int)) := by
  unfold laws_heldUint32S.f
  exact held_int laws_heldUint32S.l0 (· % 4294967296) (fun _ _ _ _ => rfl) m n h0 (by omega) k hk

theorem to_in (l : List Int) (hl : l.length ≤ 9000000) (k : Nat) (hk : l.length < k) : laws_toInEnd.f k l = some l := by
  unfold laws_toInEnd.f
  rw [to_u l hl k hk]
  rfl
theorem eq_in (l : List Int) (hl : l.length ≤ 9000000) (k : Nat) (hk : l.length < k) : laws_eqInEnd.f k l l = some true := by
  unfold laws_eqInEnd.f
  rw [eq_u l hl k hk]
  rfl
theorem mark_in (l : List Int) (m : Int) (h0 : 0 ≤ m) (hm : m ≤ 90000000) (hl : l.length ≤ 9000000) (k : Nat) (hk : l.length < k) : laws_markInEnd.f k l m = some (m + (l.length : Int), marks (· % 4294967296) m l.length) := by
  unfold laws_markInEnd.f
  rw [mark_u l m h0 hm hl k hk]
  rfl
theorem held_in (m : Int) (n : Nat) (h0 : 0 ≤ m) (hm : m ≤ 90000000) (hl : n ≤ 9000000) (k : Nat) (hk : n < k) : laws_heldInEnd.f k (marks (· % 4294967296) m n) m = some (m + (n : Int)) := by
  unfold laws_heldInEnd.f
  rw [held_u m n h0 hm hl k hk, Option.bind_some, if_neg (by omega)]
theorem sz_in (l : List Int) (hl : l.length ≤ maxLen) (m : Int) (h0 : 0 ≤ m) (h1 : m ≤ 9000000) : laws_szInEnd.f l m = some (if m < (l.length : Int) then -1 else m - (l.length : Int)) := by
  unfold laws_szInEnd.f
  rw [sz_u l hl m h0 h1, Option.bind_some]
  split
  · rfl
  · rw [if_neg (by omega)]
end Go.Proofs.Ytioifcanipijhaa.AidVC
