/- Searches over ways and over uses, walked by hand: IndexFunc, ContainsFunc, wayIndex, find. -/
import Derived.Test.YtglehilfemfiiaaGUx0
import Derived.Test.YtglehilfemfiiaaGUx1
import Derived.Test.YtglehilfemfiiaaHnd
import Derived.Shelf.Abstract
import Derived.Lib.SliceRun
namespace Go.Proofs.Ytglehilfemfiiaa.GU
open Go.Shelf Go.RowKit Go.Proofs.YtglehilfemfiiaaW.PrintWords Go.Proofs.YtglehilfemfiiaaW.PrintLast Go.Proofs.YtglehilfemfiiaaW.PrintMore Go.Proofs.Ytglehilfemfiiaa.Q Go.Proofs.Ytglehilfemfiiaa.Hnd
set_option linter.unusedVariables false
set_option linter.unusedSimpArgs false
theorem rdx_W (l : List S118) (k : Nat) (hk : k < l.length) : l[k]? = some (rd_T118 l (k : Int)) := by
  unfold rd_T118
  rw [Int.toNat_natCast, List.getD_eq_getElem?_getD, List.getElem?_eq_getElem hk]
  rfl
def PredW (g : Nat) (lb : Array Value) (p : S118 → Bool) (w : World) : Prop :=
  ∀ (W : World) (x : S118), Below w.heap.size w W → Calls Try.prog g (#[.agg #[.int .i64 x.f0, .bool x.f1]] ++ lb) W fun e w' => e = .returned (.bool (p x)) ∧ Below w.heap.size w w'
def idxW (p : S118 → Bool) (l : List S118) : Int := match l.findIdx? p with | some i => (i : Int) | none => -1
theorem idxW_hit (p : S118 → Bool) (l : List S118) (i : Nat) (x : S118) (hx : l[i]? = some x) (hp : p x = true) (hn : ∀ (j : Nat) (y : S118), j < i → l[j]? = some y → p y = false) : idxW p l = (i : Int) := by
  have : l.findIdx? p = some i := by
    rw [List.findIdx?_eq_some_iff_getElem]
    obtain ⟨hi, e⟩ := List.getElem?_eq_some_iff.1 hx
    refine ⟨hi, by rw [e]; exact hp, fun j hj => ?_⟩
    have := hn j l[j] hj (List.getElem?_eq_getElem (by omega))
    simpa using this
  unfold idxW
  rw [this]
theorem idxW_miss (p : S118 → Bool) (l : List S118) (hn : ∀ (j : Nat) (y : S118), l[j]? = some y → p y = false) : idxW p l = -1 := by
  have : l.findIdx? p = none := by
    rw [List.findIdx?_eq_none_iff]
    intro x hx
    obtain ⟨j, hj⟩ := List.getElem?_of_mem hx
    exact hn j x hj
  unfold idxW
  rw [this]
theorem idxW_any (p : S118 → Bool) (l : List S118) : decide (idxW p l ≥ 0) = l.any p := by
  unfold idxW
  cases h : l.findIdx? p with
  | none =>
    rw [List.findIdx?_eq_none_iff] at h
    have : l.any p = false := by
      rw [List.any_eq_false]
      intro x hx
      simp [h x hx]
    rw [this]
    rfl
  | some i =>
    rw [List.findIdx?_eq_some_iff_getElem] at h
    obtain ⟨hi, hp, _⟩ := h
    have : l.any p = true := List.any_eq_true.2 ⟨l[i], List.getElem_mem _, hp⟩
    rw [this]
    show decide ((i : Int) ≥ 0) = true
    exact decide_eq_true (by omega)
set_option maxHeartbeats 2000000 in
set_option maxRecDepth 100000 in
theorem indexW_calls (p : S118 → Bool) (g : Nat) (lb : Array Value) (eg : ∀ args w, (callFunc g args).run Try.prog w = .ok (.enter g args) w) (A : Option Addr) (c : Nat) (l : List S118) (w : World)
    (hp : PredW g lb p w) (hr : Kd.C k118 w A l.length l) :
    Calls Try.prog 116 #[.slice A l.length c, .func (.func g) #[] lb] w fun e w' => e = .returned (.int .i64 (idxW p l)) ∧ Below w.heap.size w w' := by
  have hbig : l.length ≤ 9223372036854775807 := hr.2.1
  have HR := Aside0.mk hr
  have HP := Aside0.mk hp
  clear hr hp
  go_enter Try.func116, Try.ntmps116
  go_wp2
  go_loopg [5, 8] l.length (fun gg _ s8 wr => ∃ kk : Nat, kk ≤ l.length ∧ l.length - kk ≤ gg ∧ s8 = .int .i64 (kk : Int) ∧ Aside0 (Below w.heap.size w wr) ∧ Aside0 (∀ (j : Nat) (y : S118), j < kk → l[j]? = some y → p y = false))
  case atStart => exact ⟨0, Nat.zero_le _, by omega, rfl, ⟨Below.refl _ w⟩, ⟨fun j y hj => absurd hj (Nat.not_lt_zero _)⟩⟩
  case round =>
    obtain ⟨kk, hkk, hg, rfl, BW, AS⟩ := hrel
    by_cases hlt : kk < l.length
    · have hltz : (kk : Int) < (l.length : Int) := by omega
      have hr2 := Kd.C_below HR.out BW.out
      obtain ⟨ad, rfl, h0, h1⟩ := at_T118 hr2 (kk : Int) (by omega) (by omega)
      have hy := rdx_W l kk hlt
      have hcall := HP.out wr (rd_T118 l (kk : Int)) BW.out
      generalize rd_T118 l (kk : Int) = y at h0 h1 hcall hy
      have HY := Aside0.mk hy
      clear hy
      rw [Int.toNat_natCast] at h0 h1
      cases hq : p y with
      | true =>
        rw [hq] at hcall
        have HQ := Aside0.mk hq
        clear hq
        go_wp2_with (go_at_fn g; refine hcall.mono ?_; rintro e w' ⟨rfl, hb'⟩)
        go_ret
        exact ⟨by rw [idxW_hit p l kk y HY.out HQ.out AS.out]; rfl, hb'⟩
      | false =>
        rw [hq] at hcall
        have HQ := Aside0.mk hq
        clear hq
        go_wp2_with (go_at_fn g; refine hcall.mono ?_; rintro e w' ⟨rfl, hb'⟩)
        go_roundg (l.length - (kk + 1))
        case measure => omega
        case rel =>
          refine ⟨kk + 1, by omega, by omega, by go_num, ⟨hb'⟩, ⟨fun j z hj hz => ?_⟩⟩
          by_cases e : j = kk
          · subst e
            rw [HY.out] at hz
            injection hz with hz
            rw [← hz]
            exact HQ.out
          · exact AS.out j z (by omega) hz
    · have hltz : ¬ (kk : Int) < (l.length : Int) := by omega
      have HE : Aside0 (kk = l.length) := ⟨by omega⟩
      go_wp2
      go_ret
      exact ⟨by rw [idxW_miss p l (fun j z hz => AS.out j z (by rw [HE.out]; exact (List.getElem?_eq_some_iff.1 hz).1) hz)]; rfl, BW.out⟩
theorem rdx_U (l : List S32) (k : Nat) (hk : k < l.length) : l[k]? = some (rd_T32 l (k : Int)) := by
  unfold rd_T32
  rw [Int.toNat_natCast, List.getD_eq_getElem?_getD, List.getElem?_eq_getElem hk]
  rfl
def PredU (g : Nat) (lb : Array Value) (p : S32 → Bool) (w : World) : Prop :=
  ∀ (W : World) (x : S32), Below w.heap.size w W → Calls Try.prog g (#[.agg #[.int .i64 x.f0, .bool x.f1]] ++ lb) W fun e w' => e = .returned (.bool (p x)) ∧ Below w.heap.size w w'
def idxU (p : S32 → Bool) (l : List S32) : Int := match l.findIdx? p with | some i => (i : Int) | none => -1
theorem idxU_hit (p : S32 → Bool) (l : List S32) (i : Nat) (x : S32) (hx : l[i]? = some x) (hp : p x = true) (hn : ∀ (j : Nat) (y : S32), j < i → l[j]? = some y → p y = false) : idxU p l = (i : Int) := by
  have : l.findIdx? p = some i := by
    rw [List.findIdx?_eq_some_iff_getElem]
    obtain ⟨hi, e⟩ := List.getElem?_eq_some_iff.1 hx
    refine ⟨hi, by rw [e]; exact hp, fun j hj => ?_⟩
    have := hn j l[j] hj (List.getElem?_eq_getElem (by omega))
    simpa using this
  unfold idxU
  rw [this]
theorem idxU_miss (p : S32 → Bool) (l : List S32) (hn : ∀ (j : Nat) (y : S32), l[j]? = some y → p y = false) : idxU p l = -1 := by
  have : l.findIdx? p = none := by
    rw [List.findIdx?_eq_none_iff]
    intro x hx
    obtain ⟨j, hj⟩ := List.getElem?_of_mem hx
    exact hn j x hj
  unfold idxU
  rw [this]
theorem idxU_any (p : S32 → Bool) (l : List S32) : decide (idxU p l ≥ 0) = l.any p := by
  unfold idxU
  cases h : l.findIdx? p with
  | none =>
    rw [List.findIdx?_eq_none_iff] at h
    have : l.any p = false := by
      rw [List.any_eq_false]
      intro x hx
      simp [h x hx]
    rw [this]
    rfl
  | some i =>
    rw [List.findIdx?_eq_some_iff_getElem] at h
    obtain ⟨hi, hp, _⟩ := h
    have : l.any p = true := List.any_eq_true.2 ⟨l[i], List.getElem_mem _, hp⟩
    rw [this]
    show decide ((i : Int) ≥ 0) = true
    exact decide_eq_true (by omega)
set_option maxHeartbeats 2000000 in
set_option maxRecDepth 100000 in
theorem indexU_calls (p : S32 → Bool) (g : Nat) (lb : Array Value) (eg : ∀ args w, (callFunc g args).run Try.prog w = .ok (.enter g args) w) (A : Option Addr) (c : Nat) (l : List S32) (w : World)
    (hp : PredU g lb p w) (hr : Kd.C k32 w A l.length l) :
    Calls Try.prog 98 #[.slice A l.length c, .func (.func g) #[] lb] w fun e w' => e = .returned (.int .i64 (idxU p l)) ∧ Below w.heap.size w w' := by
  have hbig : l.length ≤ 9223372036854775807 := hr.2.1
  have HR := Aside0.mk hr
  have HP := Aside0.mk hp
  clear hr hp
  go_enter Try.func98, Try.ntmps98
  go_wp2
  go_loopg [5, 8] l.length (fun gg _ s8 wr => ∃ kk : Nat, kk ≤ l.length ∧ l.length - kk ≤ gg ∧ s8 = .int .i64 (kk : Int) ∧ Aside0 (Below w.heap.size w wr) ∧ Aside0 (∀ (j : Nat) (y : S32), j < kk → l[j]? = some y → p y = false))
  case atStart => exact ⟨0, Nat.zero_le _, by omega, rfl, ⟨Below.refl _ w⟩, ⟨fun j y hj => absurd hj (Nat.not_lt_zero _)⟩⟩
  case round =>
    obtain ⟨kk, hkk, hg, rfl, BW, AS⟩ := hrel
    by_cases hlt : kk < l.length
    · have hltz : (kk : Int) < (l.length : Int) := by omega
      have hr2 := Kd.C_below HR.out BW.out
      obtain ⟨ad, rfl, h0, h1⟩ := at_T32 hr2 (kk : Int) (by omega) (by omega)
      have hy := rdx_U l kk hlt
      have hcall := HP.out wr (rd_T32 l (kk : Int)) BW.out
      generalize rd_T32 l (kk : Int) = y at h0 h1 hcall hy
      have HY := Aside0.mk hy
      clear hy
      rw [Int.toNat_natCast] at h0 h1
      cases hq : p y with
      | true =>
        rw [hq] at hcall
        have HQ := Aside0.mk hq
        clear hq
        go_wp2_with (go_at_fn g; refine hcall.mono ?_; rintro e w' ⟨rfl, hb'⟩)
        go_ret
        exact ⟨by rw [idxU_hit p l kk y HY.out HQ.out AS.out]; rfl, hb'⟩
      | false =>
        rw [hq] at hcall
        have HQ := Aside0.mk hq
        clear hq
        go_wp2_with (go_at_fn g; refine hcall.mono ?_; rintro e w' ⟨rfl, hb'⟩)
        go_roundg (l.length - (kk + 1))
        case measure => omega
        case rel =>
          refine ⟨kk + 1, by omega, by omega, by go_num, ⟨hb'⟩, ⟨fun j z hj hz => ?_⟩⟩
          by_cases e : j = kk
          · subst e
            rw [HY.out] at hz
            injection hz with hz
            rw [← hz]
            exact HQ.out
          · exact AS.out j z (by omega) hz
    · have hltz : ¬ (kk : Int) < (l.length : Int) := by omega
      have HE : Aside0 (kk = l.length) := ⟨by omega⟩
      go_wp2
      go_ret
      exact ⟨by rw [idxU_miss p l (fun j z hz => AS.out j z (by rw [HE.out]; exact (List.getElem?_eq_some_iff.1 hz).1) hz)]; rfl, BW.out⟩
set_option maxHeartbeats 1000000 in
theorem containsU_calls (p : S32 → Bool) (g : Nat) (lb : Array Value) (eg : ∀ args w, (callFunc g args).run Try.prog w = .ok (.enter g args) w) (A : Option Addr) (c : Nat) (l : List S32) (w : World)
    (hp : PredU g lb p w) (hr : Kd.C k32 w A l.length l) :
    Calls Try.prog 58 #[.slice A l.length c, .func (.func g) #[] lb] w fun e w' => e = .returned (.bool (l.any p)) ∧ Below w.heap.size w w' := by
  rw [← idxU_any]
  have hcon := indexU_calls p g lb eg A c l w hp hr
  clear hp hr
  generalize idxU p l = r at hcon ⊢
  go_enter Try.func58, Try.ntmps58
  go_wp2_with (go_at_call 98; refine hcon.mono ?_; rintro e w' ⟨rfl, hb'⟩)
  go_ret
  exact ⟨rfl, hb'⟩
/-- The closure of wayIndex: 'its tag is a', a in block B. -/
def tagB (a : Int) (v : S118) : Bool := v.f0 == a
theorem wayIndex1_pred (a : Int) (B : Nat) (w : World) (hB : w.cell? ⟨B, 0, none⟩ = some (.int .i64 a)) (hlt : B < w.heap.size) : PredW 117 #[.pointer (some ⟨B, 0, none⟩)] (tagB a) w := fun W x hb => by
  have hc : W.cell? ⟨B, 0, none⟩ = some (.int .i64 a) := (hb.cell (p := ⟨B, 0, none⟩) hlt).trans hB
  have hu118 := Try.underlying118
  have hBW : B < W.heap.size := Nat.lt_of_lt_of_le hlt hb.size
  have hne : B ≠ W.heap.size := by omega
  clear hB
  show Calls Try.prog 117 #[.agg #[.int .i64 x.f0, .bool x.f1], .pointer (some ⟨B, 0, none⟩)] W _
  obtain ⟨x0, x1⟩ := x
  unfold tagB
  dsimp only
  go_enter Try.func117, Try.ntmps117
  go_wp2
  go_ret
  exact ⟨by first | rfl | (simp; done), hb.alloc hb.size _⟩
theorem wayIndex_calls (A : Option Addr) (c : Nat) (l : List S118) (a : Int) (w : World) (hr : Kd.C k118 w A l.length l) :
    Calls Try.prog 106 #[.slice A l.length c, .int .i64 a] w fun e w' => e = .returned (.int .i64 (idxW (tagB a) l)) ∧ Below w.heap.size w w' := by
  have HR := Aside0.mk hr
  have eg : ∀ args w, (callFunc 117 args).run Try.prog w = .ok (.enter 117 args) w := enters_of Try.func117 (by kernel_rfl) rfl
  have EG := Aside0.mk eg
  clear hr eg
  go_enter Try.func106, Try.ntmps106
  go_wp2_with (go_at_call 116; refine (indexW_calls (tagB a) 117 #[.pointer (some ⟨w.heap.size, 0, none⟩)] EG.out A c l _ (wayIndex1_pred a w.heap.size _ (by simp) (by simp)) (cq HR.out)).mono ?_; rintro e w' ⟨rfl, hb'⟩; have HB1 := Aside0.mk hb'; clear hb')
  go_ret
  exact ⟨rfl, ((Fr.refl (fun _ => False) w).alloc _ |>.step HB1.out).below (fun _ h => h.elim) (Nat.le_refl _)⟩
/-- The closure of CacheRun: 'no address'. -/
def badU (v : S32) : Bool := !(decide (0 ≤ v.f0 ∧ v.f0 ≤ 65535))
theorem badU_pred (w : World) : PredU 59 #[] badU w := fun W x hb => by
  have hu32 := Try.underlying32
  have hw : impl_isAddr.f x.f0 = some (decide (0 ≤ x.f0 ∧ x.f0 ≤ 65535)) := by
    unfold impl_isAddr.f impl_within.f; split <;> simp_all <;> omega
  have HW := Aside0.mk hw
  have HB := Aside0.mk hb
  clear hw hb
  show Calls Try.prog 59 #[.agg #[.int .i64 x.f0, .bool x.f1]] W _
  obtain ⟨x0, x1⟩ := x
  unfold badU
  dsimp only at HW ⊢
  generalize decide (0 ≤ x0 ∧ x0 ≤ 65535) = b at HW ⊢
  go_enter Try.func59, Try.ntmps59
  go_wp2_with (go_at_call 60; refine (impl_isAddr.calls x0 b _ HW.out).mono ?_; rintro e w' ⟨rfl, hb'⟩; have HD := Aside0.mk hb'; clear hb')
  go_ret
  exact ⟨rfl, (HB.out.alloc HB.out.size _).trans (HD.out.below.mono (by have := HB.out.size; simp; omega))⟩
/-- wayIndex, in the form of the print. -/
def impl_wayIndex.f (l : List S118) (a : Int) : Option Int := some (idxW (tagB a) l)
theorem impl_wayIndex.calls (A0 : Option Addr) (c0 : Nat) (l0 : List S118) (a1 : Int) (r : Int) (w : World) (hr0 : Kd.C k118 w A0 l0.length l0) (hc0 : l0.length ≤ c0) (h : impl_wayIndex.f l0 a1 = some r) :
    Calls Try.prog 106 #[.slice A0 l0.length c0, .int .i64 a1] w fun e w' => e = .returned (.int .i64 r) ∧ Below w.heap.size w w' := by
  obtain rfl := Option.some.inj h
  exact wayIndex_calls A0 c0 l0 a1 w hr0
end Go.Proofs.Ytglehilfemfiiaa.GU
