/- Plain laws of the loops that a law's own small functions run over lists: copying, holding against, marking, asking for the marks. Said of any function that obeys the loop's equation; no program in sight. -/
import Derived.Test.YtioifcanipijhaaWMore
namespace Go.Proofs.Ytioifcanipijhaa.Lst
open Go.RowKit Go.Proofs.YtioifcanipijhaaW.PrintWords Go.Proofs.YtioifcanipijhaaW.PrintLast

theorem w64 {n : Int} (h : (Lit.int .i64 n).wf = true) : -9223372036854775808 ≤ n ∧ n ≤ 9223372036854775807 := by
  simp only [Lit.wf, IntKind.min, IntKind.max, IntKind.signed, IntKind.bits, Bool.and_eq_true, decide_eq_true_eq, if_true] at h
  omega
theorem w32 {n : Int} (h : (Lit.int .u32 n).wf = true) : 0 ≤ n ∧ n < 4294967296 := by
  simp only [Lit.wf, IntKind.min, IntKind.max, IntKind.signed, IntKind.bits, Bool.and_eq_true, decide_eq_true_eq, Bool.false_eq_true, if_false] at h
  omega
theorem w8 {n : Int} (h : (Lit.int .u8 n).wf = true) : 0 ≤ n ∧ n < 256 := by
  simp only [Lit.wf, IntKind.min, IntKind.max, IntKind.signed, IntKind.bits, Bool.and_eq_true, decide_eq_true_eq, Bool.false_eq_true, if_false] at h
  omega
theorem wr {n : Int} (h0 : -9223372036854775808 ≤ n) (h1 : n ≤ 9223372036854775807) : wrap64 n = n := by unfold wrap64; omega

/-- It tells something. -/
theorem some_ite {α : Type} {c : Prop} [Decidable c] {x y : Option α} (hx : ∃ r, x = some r) (hy : ∃ r, y = some r) : ∃ r, (if c then x else y) = some r := by
  split
  · exact hx
  · exact hy
theorem some_bind {α β : Type} {x : Option α} {f : α → Option β} (hx : ∃ r, x = some r) (hf : ∀ r, ∃ s, f r = some s) : ∃ s, x.bind f = some s := by
  obtain ⟨r, rfl⟩ := hx
  exact hf r
theorem both {α : Type} {o : Option α} (h : ∃ r, o = some r) : ∃ r, o = some r ∧ o = some r := by
  obtain ⟨r, h⟩ := h
  exact ⟨r, h, h⟩

theorem to_loop {α β : Type} (F : Nat → List α → List β → Int → Option (List β)) (g : α → β) (r : List α → Int → β)
    (hF : ∀ k x0 x3 i, F (k + 1) x0 x3 i = if i < (x0.length : Int) then (if 0 ≤ i then (if i < (x3.length : Int) then F k x0 (x3.set i.toNat (r x0 i)) (wrap64 (i + 1)) else none) else none) else some x3)
    (l : List α) (hr : ∀ (j : Nat) (a : α), l[j]? = some a → r l (j : Int) = g a) (hl : l.length ≤ 9223372036854775806) (d : Nat) :
    ∀ (k i : Nat) (ys : List β), ys.length = l.length → ys.take i = (l.map g).take i → i ≤ l.length → l.length - i = d → d < k → F k l ys (i : Int) = some (l.map g) := by
  induction d with
  | zero =>
    intro k i ys hy ht hi hd hk
    obtain ⟨k, rfl⟩ : ∃ m, k = m + 1 := ⟨k - 1, by omega⟩
    rw [hF, if_neg (by omega)]
    rw [List.take_of_length_le (by omega), List.take_of_length_le (by simp; omega)] at ht
    rw [ht]
  | succ d ih =>
    intro k i ys hy ht hi hd hk
    obtain ⟨k, rfl⟩ : ∃ m, k = m + 1 := ⟨k - 1, by omega⟩
    have hlt : i < l.length := by omega
    rw [hF, if_pos (by omega), if_pos (by omega), if_pos (by omega), wr (by omega) (by omega), Int.toNat_natCast]
    have e : ((i : Int) + 1) = ((i + 1 : Nat) : Int) := by omega
    rw [e]
    refine ih k (i + 1) _ (by simp [hy]) ?_ (by omega) (by omega) (by omega)
    have hget : l[i]? = some l[i] := List.getElem?_eq_getElem hlt
    apply List.ext_getElem?
    intro j
    have hj := congrArg (fun z : List β => z[j]?) ht
    simp only [List.getElem?_take] at hj ⊢
    by_cases hj1 : j < i
    · rw [if_pos hj1, if_pos hj1] at hj
      rw [if_pos (by omega), if_pos (by omega), List.getElem?_set_ne (by omega), hj]
    · by_cases hj2 : j = i
      · subst hj2
        rw [if_pos (by omega), if_pos (by omega), List.getElem?_set_self (by omega), hr j l[j] hget, List.getElem?_map, hget]
        rfl
      · rw [if_neg (by omega), if_neg (by omega)]

theorem to_all {α β : Type} (F : Nat → List α → List β → Int → Option (List β)) (g : α → β) (r : List α → Int → β)
    (hF : ∀ k x0 x3 i, F (k + 1) x0 x3 i = if i < (x0.length : Int) then (if 0 ≤ i then (if i < (x3.length : Int) then F k x0 (x3.set i.toNat (r x0 i)) (wrap64 (i + 1)) else none) else none) else some x3)
    (l : List α) (hr : ∀ (j : Nat) (a : α), l[j]? = some a → r l (j : Int) = g a) (z : β) (hl : l.length ≤ 9223372036854775806) (k : Nat) (hk : l.length < k) :
    F k l (List.replicate ((l.length : Int)).toNat z) 0 = some (l.map g) := by
  rw [Int.toNat_natCast]
  exact to_loop F g r hF l hr hl l.length k 0 _ (by simp) (by simp) (by omega) (by omega) hk

theorem rd_get (l : List Int) (j : Nat) (a : Int) (h : l[j]? = some a) : rd l (j : Int) = a := by
  unfold rd
  rw [Int.toNat_natCast, List.getD_eq_getElem?_getD, h]
  rfl

theorem to_int (F : Nat → List Int → List Int → Int → Option (List Int))
    (hF : ∀ k x0 x3 i, F (k + 1) x0 x3 i = if i < (x0.length : Int) then (if 0 ≤ i then (if i < (x3.length : Int) then F k x0 (x3.set i.toNat (rd x0 i)) (wrap64 (i + 1)) else none) else none) else some x3)
    (l : List Int) (hl : l.length ≤ 9223372036854775806) (k : Nat) (hk : l.length < k) : F k l (List.replicate ((l.length : Int)).toNat 0) 0 = some l := by
  have := to_all F (fun a => a) rd hF l (fun j a h => rd_get l j a h) 0 hl k hk
  simpa using this

theorem eq_loop {α : Type} (F : Nat → List α → List α → Int → Option Bool) (T : List α → List α → Int → Prop) [∀ a b i, Decidable (T a b i)]
    (hF : ∀ k x0 x1 i, F (k + 1) x0 x1 i = if i < (x0.length : Int) then (if 0 ≤ i then (if i < (x1.length : Int) then (if T x0 x1 i then F k x0 x1 (wrap64 (i + 1)) else some false) else none) else none) else some true)
    (l : List α) (hT : ∀ i, T l l i) (hl : l.length ≤ 9223372036854775806) (d : Nat) : ∀ (k i : Nat), i ≤ l.length → l.length - i = d → d < k → F k l l (i : Int) = some true := by
  induction d with
  | zero =>
    intro k i hi hd hk
    obtain ⟨k, rfl⟩ : ∃ m, k = m + 1 := ⟨k - 1, by omega⟩
    rw [hF, if_neg (by omega)]
  | succ d ih =>
    intro k i hi hd hk
    obtain ⟨k, rfl⟩ : ∃ m, k = m + 1 := ⟨k - 1, by omega⟩
    rw [hF, if_pos (by omega), if_pos (by omega), if_pos (by omega), if_pos (hT _), wr (by omega) (by omega)]
    have e : ((i : Int) + 1) = ((i + 1 : Nat) : Int) := by omega
    rw [e]
    exact ih k (i + 1) (by omega) (by omega) (by omega)
theorem eq_int (F : Nat → List Int → List Int → Int → Option Bool)
    (hF : ∀ k x0 x1 i, F (k + 1) x0 x1 i = if i < (x0.length : Int) then (if 0 ≤ i then (if i < (x1.length : Int) then (if rd x0 i = rd x1 i then F k x0 x1 (wrap64 (i + 1)) else some false) else none) else none) else some true)
    (l : List Int) (hl : l.length ≤ 9223372036854775806) (k : Nat) (hk : l.length < k) : F k l l 0 = some true :=
  eq_loop F (fun a b i => rd a i = rd b i) hF l (fun _ => rfl) hl l.length k 0 (by omega) (by omega) hk
/-- Elements held against each other by a call. -/
theorem eq_calls {α : Type} (F : Nat → List α → List α → Int → Option Bool) (T : Nat → List α → List α → Int → Option Bool) (K : Nat)
    (hF : ∀ k x0 x1 i, F (k + 1) x0 x1 i = if i < (x0.length : Int) then (if 0 ≤ i then (if i < (x1.length : Int) then ((T k x0 x1 i).bind fun t => (if t = true then F k x0 x1 (wrap64 (i + 1)) else some false)) else none) else none) else some true)
    (l : List α) (hT : ∀ k, K ≤ k → ∀ i : Nat, i < l.length → T k l l (i : Int) = some true) (hl : l.length ≤ 9223372036854775806) (d : Nat) : ∀ (k i : Nat), i ≤ l.length → l.length - i = d → K + d < k → F k l l (i : Int) = some true := by
  induction d with
  | zero =>
    intro k i hi hd hk
    obtain ⟨k, rfl⟩ : ∃ m, k = m + 1 := ⟨k - 1, by omega⟩
    rw [hF, if_neg (by omega)]
  | succ d ih =>
    intro k i hi hd hk
    obtain ⟨k, rfl⟩ : ∃ m, k = m + 1 := ⟨k - 1, by omega⟩
    rw [hF, if_pos (by omega), if_pos (by omega), if_pos (by omega), hT k (by omega) i (by omega), wr (by omega) (by omega)]
    simp only [Option.bind_some, if_true]
    have e : ((i : Int) + 1) = ((i + 1 : Nat) : Int) := by omega
    rw [e]
    exact ih k (i + 1) (by omega) (by omega) (by omega)

/-- n marks from m on. -/
def marks {β : Type} (h : Int → β) (m : Int) (n : Nat) : List β := (List.range n).map fun (j : Nat) => h (m + (j : Int))
theorem marks_length {β : Type} (h : Int → β) (m : Int) (n : Nat) : (marks h m n).length = n := by simp [marks]
theorem marks_get {β : Type} (h : Int → β) (m : Int) (n j : Nat) (hj : j < n) : (marks h m n)[j]? = some (h (m + (j : Int))) := by simp [marks, hj]

theorem mark_loop {β : Type} (F : Nat → List β → Int → Int → Option (Int × List β)) (h : Int → β)
    (hF : ∀ k xs m i, F (k + 1) xs m i = if i < (xs.length : Int) then (if 0 ≤ i then F k (xs.set i.toNat (h m)) (wrap64 (m + 1)) (wrap64 (i + 1)) else none) else some (m, xs))
    (m0 : Int) (n : Nat) (hm0 : 0 ≤ m0) (hb : m0 + n ≤ 9223372036854775806) (d : Nat) :
    ∀ (k i : Nat) (xs : List β), xs.length = n → xs.take i = (marks h m0 n).take i → i ≤ n → n - i = d → d < k → F k xs (m0 + (i : Int)) (i : Int) = some (m0 + (n : Int), marks h m0 n) := by
  induction d with
  | zero =>
    intro k i xs hx ht hi hd hk
    obtain ⟨k, rfl⟩ : ∃ m, k = m + 1 := ⟨k - 1, by omega⟩
    rw [hF, if_neg (by omega)]
    rw [List.take_of_length_le (by omega), List.take_of_length_le (by rw [marks_length]; omega)] at ht
    rw [ht, show i = n by omega]
  | succ d ih =>
    intro k i xs hx ht hi hd hk
    obtain ⟨k, rfl⟩ : ∃ m, k = m + 1 := ⟨k - 1, by omega⟩
    rw [hF, if_pos (by omega), if_pos (by omega), wr (by omega) (by omega), wr (by omega) (by omega), Int.toNat_natCast]
    have e : ((i : Int) + 1) = ((i + 1 : Nat) : Int) := by omega
    have e2 : (m0 + (i : Int) + 1) = m0 + ((i + 1 : Nat) : Int) := by omega
    rw [e2, e]
    refine ih k (i + 1) _ (by simp [hx]) ?_ (by omega) (by omega) (by omega)
    apply List.ext_getElem?
    intro j
    have hj := congrArg (fun z : List β => z[j]?) ht
    simp only [List.getElem?_take] at hj ⊢
    by_cases hj1 : j < i
    · rw [if_pos hj1, if_pos hj1] at hj
      rw [if_pos (by omega), if_pos (by omega), List.getElem?_set_ne (by omega), hj]
    · by_cases hj2 : j = i
      · subst hj2
        rw [if_pos (by omega), if_pos (by omega), List.getElem?_set_self (by omega), marks_get h m0 n j (by omega)]
      · rw [if_neg (by omega), if_neg (by omega)]
theorem mark_all {β : Type} (F : Nat → List β → Int → Int → Option (Int × List β)) (h : Int → β)
    (hF : ∀ k xs m i, F (k + 1) xs m i = if i < (xs.length : Int) then (if 0 ≤ i then F k (xs.set i.toNat (h m)) (wrap64 (m + 1)) (wrap64 (i + 1)) else none) else some (m, xs))
    (xs : List β) (m0 : Int) (hm0 : 0 ≤ m0) (hb : m0 + xs.length ≤ 9223372036854775806) (k : Nat) (hk : xs.length < k) : F k xs m0 0 = some (m0 + (xs.length : Int), marks h m0 xs.length) := by
  have := mark_loop F h hF m0 xs.length hm0 hb xs.length k 0 xs rfl (by simp) (by omega) (by omega) hk
  simpa using this

theorem held_loop {β : Type} (F : Nat → List β → Int → Int → Option Int) (h : Int → β) (R : List β → Int → β) [DecidableEq β]
    (hF : ∀ k xs m i, F (k + 1) xs m i = if i < (xs.length : Int) then (if 0 ≤ i then (if R xs i = h m then F k xs (wrap64 (m + 1)) (wrap64 (i + 1)) else some (-1)) else none) else some m)
    (hR : ∀ (l : List β) (j : Nat) (a : β), l[j]? = some a → R l (j : Int) = a)
    (m0 : Int) (n : Nat) (hm0 : 0 ≤ m0) (hb : m0 + n ≤ 9223372036854775806) (d : Nat) :
    ∀ (k i : Nat), i ≤ n → n - i = d → d < k → F k (marks h m0 n) (m0 + (i : Int)) (i : Int) = some (m0 + (n : Int)) := by
  induction d with
  | zero =>
    intro k i hi hd hk
    obtain ⟨k, rfl⟩ : ∃ m, k = m + 1 := ⟨k - 1, by omega⟩
    rw [hF, if_neg (by rw [marks_length]; omega), show i = n by omega]
  | succ d ih =>
    intro k i hi hd hk
    obtain ⟨k, rfl⟩ : ∃ m, k = m + 1 := ⟨k - 1, by omega⟩
    rw [hF, if_pos (by rw [marks_length]; omega), if_pos (by omega), if_pos (hR _ _ _ (marks_get h m0 n i (by omega))), wr (by omega) (by omega), wr (by omega) (by omega)]
    have e : ((i : Int) + 1) = ((i + 1 : Nat) : Int) := by omega
    have e2 : (m0 + (i : Int) + 1) = m0 + ((i + 1 : Nat) : Int) := by omega
    rw [e2, e]
    exact ih k (i + 1) (by omega) (by omega) (by omega)
theorem held_int (F : Nat → List Int → Int → Int → Option Int) (h : Int → Int)
    (hF : ∀ k xs m i, F (k + 1) xs m i = if i < (xs.length : Int) then (if 0 ≤ i then (if rd xs i = h m then F k xs (wrap64 (m + 1)) (wrap64 (i + 1)) else some (-1)) else none) else some m)
    (m0 : Int) (n : Nat) (hm0 : 0 ≤ m0) (hb : m0 + n ≤ 9223372036854775806) (k : Nat) (hk : n < k) : F k (marks h m0 n) m0 0 = some (m0 + (n : Int)) := by
  have := held_loop F h rd hF rd_get m0 n hm0 hb n k 0 (by omega) (by omega) hk
  simpa using this
end Go.Proofs.Ytioifcanipijhaa.Lst
