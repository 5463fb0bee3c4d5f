/- What areWindows and windowAt come to: the closures that they hand to the library's IndexFunc are walked, and IndexFunc's own text, once for every predicate that leaves what was there alone. -/
import Derived.Test.YtbcpkigeginmnaaM2Z
import Derived.Test.YtbcpkigeginmnaaM3Z
import Derived.Shelf.Abstract
import Derived.Lib.SliceRun
set_option linter.unusedVariables false
set_option linter.unusedSimpArgs false
section
namespace Go.Proofs.Ytbcpkigeginmnaa.Lst
open Go.RowKit Go.Proofs.YtbcpkigeginmnaaW.PrintWords Go.Proofs.YtbcpkigeginmnaaW.PrintLast

theorem w64 {n : Int} (h : (Lit.int .i64 n).wf = true) : -9223372036854775808 ≤ n ∧ n ≤ 9223372036854775807 := by
  simp only [Lit.wf, IntKind.min, IntKind.max, IntKind.signed, IntKind.bits, Bool.and_eq_true, decide_eq_true_eq, if_true] at h
  omega
theorem w32 {n : Int} (h : (Lit.int .u32 n).wf = true) : 0 ≤ n ∧ n < 4294967296 := by
  simp only [Lit.wf, IntKind.min, IntKind.max, IntKind.signed, IntKind.bits, Bool.and_eq_true, decide_eq_true_eq, Bool.false_eq_true, if_false] at h
  omega
theorem w8 {n : Int} (h : (Lit.int .u8 n).wf = true) : 0 ≤ n ∧ n < 256 := by
  simp only [Lit.wf, IntKind.min, IntKind.max, IntKind.signed, IntKind.bits, Bool.and_eq_true, decide_eq_true_eq, Bool.false_eq_true, if_false] at h
  omega
theorem wr {n : Int} (h0 : -9223372036854775808 ≤ n) (h1 : n ≤ 9223372036854775807) : wrap64 n = n := by unfold wrap64; omega

theorem some_ite {α : Type} {c : Prop} [Decidable c] {x y : Option α} (hx : ∃ r, x = some r) (hy : ∃ r, y = some r) : ∃ r, (if c then x else y) = some r := by
  split
  · exact hx
  · exact hy
theorem some_bind {α β : Type} {x : Option α} {f : α → Option β} (hx : ∃ r, x = some r) (hf : ∀ r, ∃ s, f r = some s) : ∃ s, x.bind f = some s := by
  obtain ⟨r, rfl⟩ := hx
  exact hf r
theorem both {α : Type} {o : Option α} (h : ∃ r, o = some r) : ∃ r, o = some r ∧ o = some r := by
  obtain ⟨r, h⟩ := h
  exact ⟨r, h, h⟩

theorem to_loop {α β : Type} (F : Nat → List α → List β → Int → Option (List β)) (g : α → β) (r : List α → Int → β)
    (hF : ∀ k x0 x3 i, F (k + 1) x0 x3 i = if i < (x0.length : Int) then (if 0 ≤ i then (if i < (x3.length : Int) then F k x0 (x3.set i.toNat (r x0 i)) (wrap64 (i + 1)) else none) else none) else some x3)
    (l : List α) (hr : ∀ (j : Nat) (a : α), l[j]? = some a → r l (j : Int) = g a) (hl : l.length ≤ 9223372036854775806) (d : Nat) :
    ∀ (k i : Nat) (ys : List β), ys.length = l.length → ys.take i = (l.map g).take i → i ≤ l.length → l.length - i = d → d < k → F k l ys (i : Int) = some (l.map g) := by
  induction d with
  | zero =>
    intro k i ys hy ht hi hd hk
    obtain ⟨k, rfl⟩ : ∃ m, k = m + 1 := ⟨k - 1, by omega⟩
    rw [hF, if_neg (by omega)]
    rw [List.take_of_length_le (by omega), List.take_of_length_le (by simp; omega)] at ht
    rw [ht]
  | succ d ih =>
    intro k i ys hy ht hi hd hk
    obtain ⟨k, rfl⟩ : ∃ m, k = m + 1 := ⟨k - 1, by omega⟩
    have hlt : i < l.length := by omega
    rw [hF, if_pos (by omega), if_pos (by omega), if_pos (by omega), wr (by omega) (by omega), Int.toNat_natCast]
    have e : ((i : Int) + 1) = ((i + 1 : Nat) : Int) := by omega
    rw [e]
    refine ih k (i + 1) _ (by simp [hy]) ?_ (by omega) (by omega) (by omega)
    have hget : l[i]? = some l[i] := List.getElem?_eq_getElem hlt
    apply List.ext_getElem?
    intro j
    have hj := congrArg (fun z : List β => z[j]?) ht
    simp only [List.getElem?_take] at hj ⊢
    by_cases hj1 : j < i
    · rw [if_pos hj1, if_pos hj1] at hj
      rw [if_pos (by omega), if_pos (by omega), List.getElem?_set_ne (by omega), hj]
    · by_cases hj2 : j = i
      · subst hj2
        rw [if_pos (by omega), if_pos (by omega), List.getElem?_set_self (by omega), hr j l[j] hget, List.getElem?_map, hget]
        rfl
      · rw [if_neg (by omega), if_neg (by omega)]

theorem to_all {α β : Type} (F : Nat → List α → List β → Int → Option (List β)) (g : α → β) (r : List α → Int → β)
    (hF : ∀ k x0 x3 i, F (k + 1) x0 x3 i = if i < (x0.length : Int) then (if 0 ≤ i then (if i < (x3.length : Int) then F k x0 (x3.set i.toNat (r x0 i)) (wrap64 (i + 1)) else none) else none) else some x3)
    (l : List α) (hr : ∀ (j : Nat) (a : α), l[j]? = some a → r l (j : Int) = g a) (z : β) (hl : l.length ≤ 9223372036854775806) (k : Nat) (hk : l.length < k) :
    F k l (List.replicate ((l.length : Int)).toNat z) 0 = some (l.map g) := by
  rw [Int.toNat_natCast]
  exact to_loop F g r hF l hr hl l.length k 0 _ (by simp) (by simp) (by omega) (by omega) hk

theorem rd_get (l : List Int) (j : Nat) (a : Int) (h : l[j]? = some a) : rd l (j : Int) = a := by
  unfold rd
  rw [Int.toNat_natCast, List.getD_eq_getElem?_getD, h]
  rfl

theorem to_int (F : Nat → List Int → List Int → Int → Option (List Int))
    (hF : ∀ k x0 x3 i, F (k + 1) x0 x3 i = if i < (x0.length : Int) then (if 0 ≤ i then (if i < (x3.length : Int) then F k x0 (x3.set i.toNat (rd x0 i)) (wrap64 (i + 1)) else none) else none) else some x3)
    (l : List Int) (hl : l.length ≤ 9223372036854775806) (k : Nat) (hk : l.length < k) : F k l (List.replicate ((l.length : Int)).toNat 0) 0 = some l := by
  have := to_all F (fun a => a) rd hF l (fun j a h => rd_get l j a h) 0 hl k hk
  simpa using this

theorem eq_loop {α : Type} (F : Nat → List α → List α → Int → Option Bool) (T : List α → List α → Int → Prop) [∀ a b i, Decidable (T a b i)]
    (hF : ∀ k x0 x1 i, F (k + 1) x0 x1 i = if i < (x0.length : Int) then (if 0 ≤ i then (if i < (x1.length : Int) then (if T x0 x1 i then F k x0 x1 (wrap64 (i + 1)) else some false) else none) else none) else some true)
    (l : List α) (hT : ∀ i, T l l i) (hl : l.length ≤ 9223372036854775806) (d : Nat) : ∀ (k i : Nat), i ≤ l.length → l.length - i = d → d < k → F k l l (i : Int) = some true := by
  induction d with
  | zero =>
    intro k i hi hd hk
    obtain ⟨k, rfl⟩ : ∃ m, k = m + 1 := ⟨k - 1, by omega⟩
    rw [hF, if_neg (by omega)]
  | succ d ih =>
    intro k i hi hd hk
    obtain ⟨k, rfl⟩ : ∃ m, k = m + 1 := ⟨k - 1, by omega⟩
    rw [hF, if_pos (by omega), if_pos (by omega), if_pos (by omega), if_pos (hT _), wr (by omega) (by omega)]
    have e : ((i : Int) + 1) = ((i + 1 : Nat) : Int) := by omega
    rw [e]
    exact ih k (i + 1) (by omega) (by omega) (by omega)
theorem eq_int (F : Nat → List Int → List Int → Int → Option Bool)
    (hF : ∀ k x0 x1 i, F (k + 1) x0 x1 i = if i < (x0.length : Int) then (if 0 ≤ i then (if i < (x1.length : Int) then (if rd x0 i = rd x1 i then F k x0 x1 (wrap64 (i + 1)) else some false) else none) else none) else some true)
    (l : List Int) (hl : l.length ≤ 9223372036854775806) (k : Nat) (hk : l.length < k) : F k l l 0 = some true :=
  eq_loop F (fun a b i => rd a i = rd b i) hF l (fun _ => rfl) hl l.length k 0 (by omega) (by omega) hk
theorem eq_calls {α : Type} (F : Nat → List α → List α → Int → Option Bool) (T : Nat → List α → List α → Int → Option Bool) (K : Nat)
    (hF : ∀ k x0 x1 i, F (k + 1) x0 x1 i = if i < (x0.length : Int) then (if 0 ≤ i then (if i < (x1.length : Int) then ((T k x0 x1 i).bind fun t => (if t = true then F k x0 x1 (wrap64 (i + 1)) else some false)) else none) else none) else some true)
    (l : List α) (hT : ∀ k, K ≤ k → ∀ i : Nat, i < l.length → T k l l (i : Int) = some true) (hl : l.length ≤ 9223372036854775806) (d : Nat) : ∀ (k i : Nat), i ≤ l.length → l.length - i = d → K + d < k → F k l l (i : Int) = some true := by
  induction d with
  | zero =>
    intro k i hi hd hk
    obtain ⟨k, rfl⟩ : ∃ m, k = m + 1 := ⟨k - 1, by omega⟩
    rw [hF, if_neg (by omega)]
  | succ d ih =>
    intro k i hi hd hk
    obtain ⟨k, rfl⟩ : ∃ m, k = m + 1 := ⟨k - 1, by omega⟩
    rw [hF, if_pos (by omega), if_pos (by omega), if_pos (by omega), hT k (by omega) i (by omega), wr (by omega) (by omega)]
    simp only [Option.bind_some, if_true]
    have e : ((i : Int) + 1) = ((i + 1 : Nat) : Int) := by omega
    rw [e]
    exact ih k (i + 1) (by omega) (by omega) (by omega)

def marks {β : Type} (h : Int → β) (m : Int) (n : Nat) : List β := (List.range n).map fun (j : Nat) => h (m + (j : Int))
theorem marks_length {β : Type} (h : Int → β) (m : Int) (n : Nat) : (marks h m n).length = n := by simp [marks]
theorem marks_get {β : Type} (h : Int → β) (m : Int) (n j : Nat) (hj : j < n) : (marks h m n)[j]? = some (h (m + (j : Int))) := by simp [marks, hj]

theorem mark_loop {β : Type} (F : Nat → List β → Int → Int → Option (Int × List β)) (h : Int → β)
    (hF : ∀ k xs m i, F (k + 1) xs m i = if i < (xs.length : Int) then (if 0 ≤ i then F k (xs.set i.toNat (h m)) (wrap64 (m + 1)) (wrap64 (i + 1)) else none) else some (m, xs))
    (m0 : Int) (n : Nat) (hm0 : 0 ≤ m0) (hb : m0 + n ≤ 9223372036854775806) (d : Nat) :
    ∀ (k i : Nat) (xs : List β), xs.length = n → xs.take i = (marks h m0 n).take i → i ≤ n → n - i = d → d < k → F k xs (m0 + (i : Int)) (i : Int) = some (m0 + (n : Int), marks h m0 n) := by
  induction d with
  | zero =>
    intro k i xs hx ht hi hd hk
    obtain ⟨k, rfl⟩ : ∃ m, k = m + 1 := ⟨k - 1, by omega⟩
    rw [hF, if_neg (by omega)]
    rw [List.take_of_length_le (by omega), List.take_of_length_le (by rw [marks_length]; omega)] at ht
    rw [ht, show i = n by omega]
  | succ d ih =>
    intro k i xs hx ht hi hd hk
    obtain ⟨k, rfl⟩ : ∃ m, k = m + 1 := ⟨k - 1, by omega⟩
    rw [hF, if_pos (by omega), if_pos (by omega), wr (by omega) (by omega), wr (by omega) (by omega), Int.toNat_natCast]
    have e : ((i : Int) + 1) = ((i + 1 : Nat) : Int) := by omega
    have e2 : (m0 + (i : Int) + 1) = m0 + ((i + 1 : Nat) : Int) := by omega
    rw [e2, e]
    refine ih k (i + 1) _ (by simp [hx]) ?_ (by omega) (by omega) (by omega)
    apply List.ext_getElem?
    intro j
    have hj := congrArg (fun z : List β => z[j]?) ht
    simp only [List.getElem?_take] at hj ⊢
    by_cases hj1 : j < i
    · rw [if_pos hj1, if_pos hj1] at hj
      rw [if_pos (by omega), if_pos (by omega), List.getElem?_set_ne (by omega), hj]
    · by_cases hj2 : j = i
      · subst hj2
        rw [if_pos (by omega), if_pos (by omega), List.getElem?_set_self (by omega), marks_get h m0 n j (by omega)]
      · rw [if_neg (by omega), if_neg (by omega)]
theorem mark_all {β : Type} (F : Nat → List β → Int → Int → Option (Int × List β)) (h : Int → β)
    (hF : ∀ k xs m i, F (k + 1) xs m i = if i < (xs.length : Int) then (if 0 ≤ i then F k (xs.set i.toNat (h m)) (wrap64 (m + 1)) (wrap64 (i + 1)) else none) else some (m, xs))
    (xs : List β) (m0 : Int) (hm0 : 0 ≤ m0) (hb : m0 + xs.length ≤ 9223372036854775806) (k : Nat) (hk : xs.length < k) : F k xs m0 0 = some (m0 + (xs.length : Int), marks h m0 xs.length) := by
  have := mark_loop F h hF m0 xs.length hm0 hb xs.length k 0 xs rfl (by simp) (by omega) (by omega) hk
  simpa using this

theorem held_loop {β : Type} (F : Nat → List β → Int → Int → Option Int) (h : Int → β) (R : List β → Int → β) [DecidableEq β]
    (hF : ∀ k xs m i, F (k + 1) xs m i = if i < (xs.length : Int) then (if 0 ≤ i then (if R xs i = h m then F k xs (wrap64 (m + 1)) (wrap64 (i + 1)) else some (-1)) else none) else some m)
    (hR : ∀ (l : List β) (j : Nat) (a : β), l[j]? = some a → R l (j : Int) = a)
    (m0 : Int) (n : Nat) (hm0 : 0 ≤ m0) (hb : m0 + n ≤ 9223372036854775806) (d : Nat) :
    ∀ (k i : Nat), i ≤ n → n - i = d → d < k → F k (marks h m0 n) (m0 + (i : Int)) (i : Int) = some (m0 + (n : Int)) := by
  induction d with
  | zero =>
    intro k i hi hd hk
    obtain ⟨k, rfl⟩ : ∃ m, k = m + 1 := ⟨k - 1, by omega⟩
    rw [hF, if_neg (by rw [marks_length]; omega), show i = n by omega]
  | succ d ih =>
    intro k i hi hd hk
    obtain ⟨k, rfl⟩ : ∃ m, k = m + 1 := ⟨k - 1, by omega⟩
    rw [hF, if_pos (by rw [marks_length]; omega), if_pos (by omega), if_pos (hR _ _ _ (marks_get h m0 n i (by omega))), wr (by omega) (by omega), wr (by omega) (by omega)]
    have e : ((i : Int) + 1) = ((i + 1 : Nat) : Int) := by omega
    have e2 : (m0 + (i : Int) + 1) = m0 + ((i + 1 : Nat) : Int) := by omega
    rw [e2, e]
    exact ih k (i + 1) (by omega) (by omega) (by omega)
theorem held_int (F : Nat → List Int → Int → Int → Option Int) (h : Int → Int)
    (hF : ∀ k xs m i, F (k + 1) xs m i = if i < (xs.length : Int) then (if 0 ≤ i then (if rd xs i = h m then F k xs (wrap64 (m + 1)) (wrap64 (i + 1)) else some (-1)) else none) else some m)
    (m0 : Int) (n : Nat) (hm0 : 0 ≤ m0) (hb : m0 + n ≤ 9223372036854775806) (k : Nat) (hk : n < k) : F k (marks h m0 n) m0 0 = some (m0 + (n : Int)) := by
  have := held_loop F h rd hF rd_get m0 n hm0 hb n k 0 (by omega) (by omega) hk
  simpa using this
end Go.Proofs.Ytbcpkigeginmnaa.Lst
end
section
namespace Go.Proofs.Ytbcpkigeginmnaa.GF
open Go.Shelf Go.RowKit Go.Proofs.YtbcpkigeginmnaaW.PrintWords Go.Proofs.YtbcpkigeginmnaaW.PrintLast Go.Proofs.YtbcpkigeginmnaaW.PrintMore Go.Proofs.Ytbcpkigeginmnaa.Q

def apB (v u : S70) : Bool := decide (wrap64 (v.f0 + v.f1) ≤ u.f0) || decide (wrap64 (u.f0 + u.f1) ≤ v.f0)
theorem apart_f (v u : S70) : impl_areApart.f v.f0 v.f1 v.f2 u.f0 u.f1 u.f2 = some (apB v u) := by
  unfold impl_areApart.f apB
  by_cases h : wrap64 (v.f0 + v.f1) ≤ u.f0 <;> simp [h]
def PredB (g : Nat) (lb : Array Value) (p : S70 → Bool) (w : World) : Prop :=
  ∀ (W : World) (x : S70), Below w.heap.size w W → Calls Try.prog g (#[.agg #[.int .i64 x.f0, .int .i64 x.f1, .int .i64 x.f2]] ++ lb) W fun e w' => e = .returned (.bool (p x)) ∧ Below w.heap.size w w'

def idxB (p : S70 → Bool) (l : List S70) : Int := match l.findIdx? p with | some i => (i : Int) | none => -1
theorem idxB_hit (p : S70 → Bool) (l : List S70) (i : Nat) (x : S70) (hx : l[i]? = some x) (hp : p x = true) (hn : ∀ (j : Nat) (y : S70), j < i → l[j]? = some y → p y = false) : idxB p l = (i : Int) := by
  have : l.findIdx? p = some i := by
    rw [List.findIdx?_eq_some_iff_getElem]
    obtain ⟨hi, e⟩ := List.getElem?_eq_some_iff.1 hx
    refine ⟨hi, by rw [e]; exact hp, fun j hj => ?_⟩
    have := hn j l[j] hj (List.getElem?_eq_getElem (by omega))
    simpa using this
  unfold idxB
  rw [this]
theorem idxB_miss (p : S70 → Bool) (l : List S70) (hn : ∀ (j : Nat) (y : S70), l[j]? = some y → p y = false) : idxB p l = -1 := by
  have : l.findIdx? p = none := by
    rw [List.findIdx?_eq_none_iff]
    intro x hx
    obtain ⟨j, hj⟩ := List.getElem?_of_mem hx
    exact hn j x hj
  unfold idxB
  rw [this]
theorem idxB_any (p : S70 → Bool) (l : List S70) : decide (idxB p l ≥ 0) = l.any p := by
  unfold idxB
  cases h : l.findIdx? p with
  | none =>
    rw [List.findIdx?_eq_none_iff] at h
    have : l.any p = false := by
      rw [List.any_eq_false]
      intro x hx
      simp [h x hx]
    rw [this]
    rfl
  | some i =>
    rw [List.findIdx?_eq_some_iff_getElem] at h
    obtain ⟨hi, hp, _⟩ := h
    have : l.any p = true := List.any_eq_true.2 ⟨l[i], List.getElem_mem _, hp⟩
    rw [this]
    show decide ((i : Int) ≥ 0) = true
    exact decide_eq_true (by omega)
theorem rd_at (l : List S70) (k : Nat) (hk : k < l.length) : l[k]? = some (rd_T70 l (k : Int)) := by
  unfold rd_T70
  rw [Int.toNat_natCast, List.getD_eq_getElem?_getD, List.getElem?_eq_getElem hk]
  rfl

set_option maxHeartbeats 2000000 in
set_option maxRecDepth 100000 in
theorem index_calls (p : S70 → Bool) (g : Nat) (lb : Array Value) (eg : ∀ args w, (callFunc g args).run Try.prog w = .ok (.enter g args) w) (A : Option Addr) (c : Nat) (l : List S70) (w : World)
    (hp : PredB g lb p w) (hr : Kd.C k70 w A l.length l) :
    Calls Try.prog 93 #[.slice A l.length c, .func (.func g) #[] lb] w fun e w' => e = .returned (.int .i64 (idxB p l)) ∧ Below w.heap.size w w' := by
  have hu70 := Try.underlying70
  have hbig : l.length ≤ 9223372036854775807 := hr.2.1
  have HR := Aside0.mk hr
  have HP := Aside0.mk hp
  clear hr hp
  go_enter Try.func93, Try.ntmps93
  go_wp2
  go_loopg [5, 8] l.length (fun gg _ s8 wr => ∃ kk : Nat, kk ≤ l.length ∧ l.length - kk ≤ gg ∧ s8 = .int .i64 (kk : Int) ∧ Aside0 (Below w.heap.size w wr) ∧ Aside0 (∀ (j : Nat) (y : S70), j < kk → l[j]? = some y → p y = false))
  case atStart => exact ⟨0, Nat.zero_le _, by omega, rfl, ⟨Below.refl _ w⟩, ⟨fun j y hj => absurd hj (Nat.not_lt_zero _)⟩⟩
  case round =>
    obtain ⟨kk, hkk, hg, rfl, BW, AS⟩ := hrel
    by_cases hlt : kk < l.length
    · have hltz : (kk : Int) < (l.length : Int) := by omega
      have hr2 := Kd.C_below HR.out BW.out
      obtain ⟨ad, rfl, h0, h1, h2⟩ := at_T70 hr2 (kk : Int) (by omega) (by omega)
      have hy := rd_at l kk hlt
      have hcall := HP.out wr (rd_T70 l (kk : Int)) BW.out
      generalize rd_T70 l (kk : Int) = y at h0 h1 h2 hcall hy
      have HY := Aside0.mk hy
      clear hy
      rw [Int.toNat_natCast] at h0 h1 h2
      cases hq : p y with
      | true =>
        rw [hq] at hcall
        have HQ := Aside0.mk hq
        clear hq
        go_wp2_with (go_at_fn g; refine hcall.mono ?_; rintro e w' ⟨rfl, hb'⟩)
        go_ret
        exact ⟨by rw [idxB_hit p l kk y HY.out HQ.out AS.out]; rfl, hb'⟩
      | false =>
        rw [hq] at hcall
        have HQ := Aside0.mk hq
        clear hq
        go_wp2_with (go_at_fn g; refine hcall.mono ?_; rintro e w' ⟨rfl, hb'⟩)
        go_roundg (l.length - (kk + 1))
        case measure => omega
        case rel =>
          refine ⟨kk + 1, by omega, by omega, by go_num, ⟨hb'⟩, ⟨fun j z hj hz => ?_⟩⟩
          by_cases e : j = kk
          · subst e
            rw [HY.out] at hz
            injection hz with hz
            rw [← hz]
            exact HQ.out
          · exact AS.out j z (by omega) hz
    · have hltz : ¬ (kk : Int) < (l.length : Int) := by omega
      have HE : Aside0 (kk = l.length) := ⟨by omega⟩
      go_wp2
      go_ret
      exact ⟨by rw [idxB_miss p l (fun j z hz => AS.out j z (by rw [HE.out]; exact (List.getElem?_eq_some_iff.1 hz).1) hz)]; rfl, BW.out⟩

set_option maxHeartbeats 1000000 in
theorem contains_calls (p : S70 → Bool) (g : Nat) (lb : Array Value) (eg : ∀ args w, (callFunc g args).run Try.prog w = .ok (.enter g args) w) (A : Option Addr) (c : Nat) (l : List S70) (w : World)
    (hp : PredB g lb p w) (hr : Kd.C k70 w A l.length l) :
    Calls Try.prog 77 #[.slice A l.length c, .func (.func g) #[] lb] w fun e w' => e = .returned (.bool (l.any p)) ∧ Below w.heap.size w w' := by
  rw [← idxB_any]
  have hcon := index_calls p g lb eg A c l w hp hr
  clear hp hr
  generalize idxB p l = r at hcon ⊢
  go_enter Try.func77, Try.ntmps77
  go_wp2_with (go_at_call 93; refine hcon.mono ?_; rintro e w' ⟨rfl, hb'⟩)
  go_ret
  exact ⟨rfl, hb'⟩

theorem are1_pred (u : S70) (B : Nat) (w : World) (hB : w.heap[B]? = some (.cells #[.int .i64 u.f0, .int .i64 u.f1, .int .i64 u.f2] 70 (0, 0))) :
    PredB 78 #[.pointer (some ⟨B, 0, none⟩)] (fun v => !(apB v u)) w := fun W x hb => by
  have hlt := blk_lt hB
  have hB2 := (hb.block B hlt).trans hB
  have h0 := (blk_cell hB2 0).trans rfl
  have h1 := (blk_cell hB2 1).trans rfl
  have h2 := (blk_cell hB2 2).trans rfl
  clear hB hB2
  have hu70 := Try.underlying70
  have hBW : B < W.heap.size := Nat.lt_of_lt_of_le hlt hb.size
  have hne : B ≠ W.heap.size := by omega
  have hcall := fun W' => impl_areApart.calls x.f0 x.f1 x.f2 u.f0 u.f1 u.f2 (apB x u) W' (apart_f x u)
  show Calls Try.prog 78 #[.agg #[.int .i64 x.f0, .int .i64 x.f1, .int .i64 x.f2], .pointer (some ⟨B, 0, none⟩)] W _
  obtain ⟨x0, x1, x2⟩ := x
  obtain ⟨u0, u1, u2⟩ := u
  dsimp only at hcall h0 h1 h2 ⊢
  generalize apB ⟨x0, x1, x2⟩ ⟨u0, u1, u2⟩ = r at hcall ⊢
  go_enter Try.func78, Try.ntmps78
  go_wp2_with (go_at_call 79; refine (hcall _).mono ?_; rintro e w' ⟨rfl, hb'⟩)
  go_ret
  exact ⟨rfl, (hb.alloc hb.size _).trans (hb'.mono (by have := hb.size; simp; omega))⟩

theorem wat1_pred (a : Int) (B : Nat) (w : World) (hB : w.cell? ⟨B, 0, none⟩ = some (.int .i64 a)) (hlt : B < w.heap.size) :
    PredB 94 #[.pointer (some ⟨B, 0, none⟩)] (fun v => decide (v.f0 ≤ a) && decide (a < wrap64 (v.f0 + v.f1))) w := fun W x hb => by
  have hc : W.cell? ⟨B, 0, none⟩ = some (.int .i64 a) := (hb.cell (p := ⟨B, 0, none⟩) hlt).trans hB
  have hu70 := Try.underlying70
  have hBW : B < W.heap.size := Nat.lt_of_lt_of_le hlt hb.size
  have hne : B ≠ W.heap.size := by omega
  clear hB
  show Calls Try.prog 94 #[.agg #[.int .i64 x.f0, .int .i64 x.f1, .int .i64 x.f2], .pointer (some ⟨B, 0, none⟩)] W _
  obtain ⟨x0, x1, x2⟩ := x
  dsimp only
  by_cases h : x0 ≤ a
  · have hd : decide (x0 ≤ a) = true := decide_eq_true h
    rw [hd]
    simp only [Bool.true_and]
    go_enter Try.func94, Try.ntmps94
    go_wp2
    go_ret
    exact ⟨by first | rfl | (simp; done), hb.alloc hb.size _⟩
  · have hd : decide (x0 ≤ a) = false := decide_eq_false h
    rw [hd]
    simp only [Bool.false_and]
    go_enter Try.func94, Try.ntmps94
    go_wp2
    go_ret
    exact ⟨by first | rfl | (simp; done), hb.alloc hb.size _⟩

def impl_windowAt.f (l : List S70) (a : Int) : Option Int := some (idxB (fun v => decide (v.f0 ≤ a) && decide (a < wrap64 (v.f0 + v.f1))) l)
set_option maxHeartbeats 1000000 in
theorem impl_windowAt.calls (A0 : Option Addr) (c0 : Nat) (l0 : List S70) (a1 : Int) (r : Int) (w : World) (hr0 : Kd.C k70 w A0 l0.length l0) (hc0 : l0.length ≤ c0) (h : impl_windowAt.f l0 a1 = some r) :
    Calls Try.prog 82 #[.slice A0 l0.length c0, .int .i64 a1] w fun e w' => e = .returned (.int .i64 r) ∧ Below w.heap.size w w' := by
  unfold impl_windowAt.f at h
  obtain rfl := Option.some.inj h
  have eg : ∀ args w, (callFunc 94 args).run Try.prog w = .ok (.enter 94 args) w := enters_of Try.func94 (by kernel_rfl) rfl
  have hcon := fun W (hW : W.cell? ⟨w.heap.size, 0, none⟩ = some (.int .i64 a1)) (hlt : w.heap.size < W.heap.size) (hr : Kd.C k70 W A0 l0.length l0) =>
    index_calls _ 94 #[.pointer (some ⟨w.heap.size, 0, none⟩)] eg A0 c0 l0 W (wat1_pred a1 w.heap.size W hW hlt) hr
  have HR := Aside0.mk hr0
  clear hr0 h
  generalize idxB (fun v => decide (v.f0 ≤ a1) && decide (a1 < wrap64 (v.f0 + v.f1))) l0 = r at hcon ⊢
  go_enter Try.func82, Try.ntmps82
  go_wp2_with (go_at_call 93; refine (hcon _ (by simp) (by simp) (Kd.C_alloc HR.out _)).mono ?_; rintro e w' ⟨rfl, hb'⟩)
  go_ret
  exact ⟨rfl, ((Below.refl _ w).alloc (Nat.le_refl _) _).trans (hb'.mono (by simp))⟩

def winOk (v : S70) : Bool := (impl_isWindow.f v.f0 v.f1 v.f2) == some true
theorem isWindow_f (v : S70) : impl_isWindow.f v.f0 v.f1 v.f2 = some (winOk v) := by
  obtain ⟨b, hb⟩ : ∃ b, impl_isWindow.f v.f0 v.f1 v.f2 = some b := by
    unfold impl_isWindow.f impl_within.f
    repeat' (first | refine Lst.some_ite ?_ ?_ | refine Lst.some_bind ?_ (fun _ => ?_) | exact ⟨_, rfl⟩)
  unfold winOk
  rw [hb]
  cases b <;> rfl
def goodAt (l : List S70) (i : Nat) (v : S70) : Bool := winOk v && !((l.take i).any fun u => !(apB u v))
def areWB (l : List S70) : Bool := decide (l.length ≤ 4) && (List.range l.length).all fun i => goodAt l i (rd_T70 l (i : Int))
def impl_areWindows.f (l : List S70) : Option Bool := some (areWB l)
theorem areW_yes (l : List S70) (h4 : l.length ≤ 4) (h : ∀ i, i < l.length → goodAt l i (rd_T70 l (i : Int)) = true) : areWB l = true := by
  unfold areWB
  rw [decide_eq_true h4, List.all_eq_true.2 (fun i hi => h i (List.mem_range.1 hi))]
  rfl
theorem areW_no (l : List S70) (i : Nat) (hi : i < l.length) (h : goodAt l i (rd_T70 l (i : Int)) = false) : areWB l = false := by
  unfold areWB
  have : ((List.range l.length).all fun i => goodAt l i (rd_T70 l (i : Int))) = false := by
    rw [List.all_eq_false]
    exact ⟨i, List.mem_range.2 hi, by simp [h]⟩
  rw [this]
  simp
set_option maxHeartbeats 4000000 in
set_option maxRecDepth 100000 in
theorem impl_areWindows.calls (A0 : Option Addr) (c0 : Nat) (l0 : List S70) (r : Bool) (w : World) (hr0 : Kd.C k70 w A0 l0.length l0) (hc0 : l0.length ≤ c0) (h : impl_areWindows.f l0 = some r) :
    Calls Try.prog 56 #[.slice A0 l0.length c0] w fun e w' => e = .returned (.bool r) ∧ Below w.heap.size w w' := by
  unfold impl_areWindows.f at h
  obtain rfl := Option.some.inj h
  clear h
  have hu70 := Try.underlying70
  have eg : ∀ args w, (callFunc 78 args).run Try.prog w = .ok (.enter 78 args) w := enters_of Try.func78 (by kernel_rfl) rfl
  have hbig : l0.length ≤ 9223372036854775807 := hr0.2.1
  have HR := Aside0.mk hr0
  have HC := Aside0.mk hc0
  clear hr0 hc0
  by_cases h4 : l0.length ≤ 4
  · have hd : ((l0.length : Int) > 4) = False := by simp; omega
    have HY : Aside0 ((∀ i, i < l0.length → goodAt l0 i (rd_T70 l0 (i : Int)) = true) → areWB l0 = true) := ⟨areW_yes l0 h4⟩
    have HN : Aside0 (∀ i, i < l0.length → goodAt l0 i (rd_T70 l0 (i : Int)) = false → areWB l0 = false) := ⟨areW_no l0⟩
    generalize areWB l0 = r at HY HN ⊢
    have h4' : (l0.length : Int) ≤ 4 := by omega
    go_enter Try.func56, Try.ntmps56
    go_wp2
    go_loopg [3, 4, 10] l0.length (fun gg _ _ s10 wr => ∃ kk : Nat, kk ≤ l0.length ∧ l0.length - kk ≤ gg ∧ s10 = .int .i64 (kk : Int) ∧ Aside0 (Below w.heap.size w wr) ∧ Aside0 (∀ i, i < kk → goodAt l0 i (rd_T70 l0 (i : Int)) = true))
    case atStart => exact ⟨0, Nat.zero_le _, by omega, rfl, ⟨Below.refl _ w⟩, ⟨fun i hi => absurd hi (Nat.not_lt_zero _)⟩⟩
    case round =>
      obtain ⟨kk, hkk, hg, rfl, BW, AS⟩ := hrel
      by_cases hlt : kk < l0.length
      · have hltz : (kk : Int) < (l0.length : Int) := by omega
        obtain ⟨ad, rfl, h0, h1, h2⟩ := at_T70 (Kd.C_below HR.out BW.out) (kk : Int) (by omega) (by omega)
        rw [Int.toNat_natCast] at h0 h1 h2
        obtain ⟨y, hy⟩ : ∃ y, y = rd_T70 l0 (kk : Int) := ⟨_, rfl⟩
        rw [← hy] at h0 h1 h2
        have HG : Aside0 (goodAt l0 kk (rd_T70 l0 (kk : Int)) = (winOk y && !((l0.take kk).any fun u => !(apB u y)))) := ⟨by rw [← hy]; rfl⟩
        clear hy
        have HW := Aside0.mk (isWindow_f y)
        have hcon : ∀ W : World, W.heap[wr.heap.size]? = some (.cells #[.int .i64 y.f0, .int .i64 y.f1, .int .i64 y.f2] 70 (0, 0)) → Kd.C k70 W (some ad) l0.length l0 →
            Calls Try.prog 77 #[.slice (some ad) kk c0, .func (.func 78) #[] #[.pointer (some ⟨wr.heap.size, 0, none⟩)]] W fun e w' => e = .returned (.bool ((l0.take kk).any fun u => !(apB u y))) ∧ Below W.heap.size W w' := fun W hB hC => by
          have hl : (l0.take kk).length = kk := by rw [List.length_take]; omega
          have := contains_calls (fun u => !(apB u y)) 78 #[.pointer (some ⟨wr.heap.size, 0, none⟩)] eg (some ad) c0 (l0.take kk) W (are1_pred y wr.heap.size W hB) (Kd.C_take hC (by omega))
          rw [hl] at this
          exact this
        have HCON := Aside0.mk hcon
        clear hcon
        generalize winOk y = b at HG HW
        generalize ((l0.take kk).any fun u => !(apB u y)) = b2 at HG HCON
        have hkc : (kk : Int) ≤ (c0 : Int) := by have := HC.out; omega
        cases b with
        | false =>
          go_wp2_with (go_at_call 76; refine (impl_isWindow.calls _ _ _ false _ HW.out).mono ?_; rintro e w' ⟨rfl, hb'⟩; have HB1 := Aside0.mk hb'; clear hb')
          go_ret
          exact ⟨by rw [HN.out kk hlt (by rw [HG.out]; rfl)]; rfl, below_step (below_alloc BW.out _) HB1.out⟩
        | true =>
          cases b2 with
          | true =>
            go_wp2_with (first | (go_at_call 76; refine (impl_isWindow.calls _ _ _ true _ HW.out).mono ?_; rintro e w' ⟨rfl, hb'⟩; have HB1 := Aside0.mk hb'; clear hb') | (go_at_call 77; refine (HCON.out _ (blk_below (blk_new _ _) HB1.out) (Kd.C_below HR.out (below_step (below_alloc BW.out _) HB1.out))).mono ?_; rintro e w2 ⟨rfl, hb'⟩; have HB2 := Aside0.mk hb'; clear hb'))
            go_ret
            exact ⟨by rw [HN.out kk hlt (by rw [HG.out]; rfl)]; rfl, below_step (below_step (below_alloc BW.out _) HB1.out) HB2.out⟩
          | false =>
            go_wp2_with (first | (go_at_call 76; refine (impl_isWindow.calls _ _ _ true _ HW.out).mono ?_; rintro e w' ⟨rfl, hb'⟩; have HB1 := Aside0.mk hb'; clear hb') | (go_at_call 77; refine (HCON.out _ (blk_below (blk_new _ _) HB1.out) (Kd.C_below HR.out (below_step (below_alloc BW.out _) HB1.out))).mono ?_; rintro e w2 ⟨rfl, hb'⟩; have HB2 := Aside0.mk hb'; clear hb'))
            go_roundg (l0.length - (kk + 1))
            case measure => omega
            case rel =>
              refine ⟨kk + 1, by omega, by omega, by go_num, ⟨below_step (below_step (below_alloc BW.out _) HB1.out) HB2.out⟩, ⟨fun i hi => ?_⟩⟩
              by_cases e : i = kk
              · subst e
                rw [HG.out]
                rfl
              · exact AS.out i (by omega)
      · have hltz : ¬ (kk : Int) < (l0.length : Int) := by omega
        have HE : Aside0 (kk = l0.length) := ⟨by omega⟩
        go_wp2
        go_ret
        exact ⟨by rw [HY.out (fun i hi => AS.out i (by rw [HE.out]; exact hi))]; rfl, BW.out⟩
  · have hf : areWB l0 = false := by
      unfold areWB
      rw [decide_eq_false h4]
      rfl
    rw [hf]
    have h4' : 4 < (l0.length : Int) := by omega
    clear hf h4
    go_enter Try.func56, Try.ntmps56
    go_wp2
    go_ret
    exact ⟨rfl, Below.refl _ w⟩
end Go.Proofs.Ytbcpkigeginmnaa.GF
end
