/- What ContainsFunc over channel operations comes to, and ChanPlay, walked by hand. -/
import Derived.Test.YtioifcanipijhaaGKx0T
import Derived.Test.YtioifcanipijhaaGKx1T
import Derived.Test.YtioifcanipijhaaChbKT
import Derived.Test.YtioifcanipijhaaChcKT
import Derived.Test.YtioifcanipijhaaChdKT
import Derived.Shelf.Abstract
import Derived.Lib.SliceRun
namespace Go.Proofs.Ytioifcanipijhaa.GK
open Go.Shelf Go.RowKit Go.Proofs.YtioifcanipijhaaW.PrintWords Go.Proofs.YtioifcanipijhaaW.PrintLast Go.Proofs.YtioifcanipijhaaW.PrintMore Go.Proofs.Ytioifcanipijhaa.Q Go.Proofs.Ytioifcanipijhaa.Hnd
set_option linter.unusedVariables false
set_option linter.unusedSimpArgs false
/-- A predicate on windows, told by function g over what it captured: it leaves what lay in w alone. -/
def PredB (g : Nat) (lb : Array Value) (p : S70 → Bool) (w : World) : Prop :=
  ∀ (W : World) (x : S70), Below w.heap.size w W → Calls Try.prog g (#[.agg #[.int .i64 x.f0, .int .u32 x.f1]] ++ lb) W fun e w' => e = .returned (.bool (p x)) ∧ Below w.heap.size w w'

/-- The first place of which p holds, or -1. -/
def idxB (p : S70 → Bool) (l : List S70) : Int := match l.findIdx? p with | some i => (i : Int) | none => -1
theorem idxB_hit (p : S70 → Bool) (l : List S70) (i : Nat) (x : S70) (hx : l[i]? = some x) (hp : p x = true) (hn : ∀ (j : Nat) (y : S70), j < i → l[j]? = some y → p y = false) : idxB p l = (i : Int) := by
  have : l.findIdx? p = some i := by
    rw [List.findIdx?_eq_some_iff_getElem]
    obtain ⟨hi, e⟩ := List.getElem?_eq_some_iff.1 hx
    refine ⟨hi, by rw [e]; exact hp, fun j hj => ?_⟩
    have := hn j l[j] hj (List.getElem?_eq_getElem (by omega))
    simpa using this
  unfold idxB
  rw [this]
theorem idxB_miss (p : S70 → Bool) (l : List S70) (hn : ∀ (j : Nat) (y : S70), l[j]? = some y → p y = false) : idxB p l = -1 := by
  have : l.findIdx? p = none := by
    rw [List.findIdx?_eq_none_iff]
    intro x hx
    obtain ⟨j, hj⟩ := List.getElem?_of_mem hx
    exact hn j x hj
  unfold idxB
  rw [this]
theorem idxB_any (p : S70 → Bool) (l : List S70) : decide (idxB p l ≥ 0) = l.any p := by
  unfold idxB
  cases h : l.findIdx? p with
  | none =>
    rw [List.findIdx?_eq_none_iff] at h
    have : l.any p = false := by
      rw [List.any_eq_false]
      intro x hx
      simp [h x hx]
    rw [this]
    rfl
  | some i =>
    rw [List.findIdx?_eq_some_iff_getElem] at h
    obtain ⟨hi, hp, _⟩ := h
    have : l.any p = true := List.any_eq_true.2 ⟨l[i], List.getElem_mem _, hp⟩
    rw [this]
    show decide ((i : Int) ≥ 0) = true
    exact decide_eq_true (by omega)
theorem rd_at (l : List S70) (k : Nat) (hk : k < l.length) : l[k]? = some (rd_T70 l (k : Int)) := by
  unfold rd_T70
  rw [Int.toNat_natCast, List.getD_eq_getElem?_getD, List.getElem?_eq_getElem hk]
  rfl

set_option maxHeartbeats 2000000 in
set_option maxRecDepth 100000 in
theorem index_calls (p : S70 → Bool) (g : Nat) (lb : Array Value) (eg : ∀ args w, (callFunc g args).run Try.prog w = .ok (.enter g args) w) (A : Option Addr) (c : Nat) (l : List S70) (w : World)
    (hp : PredB g lb p w) (hr : Kd.C k70 w A l.length l) :
    Calls Try.prog 92 #[.slice A l.length c, .func (.func g) #[] lb] w fun e w' => e = .returned (.int .i64 (idxB p l)) ∧ Below w.heap.size w w' := by
  have hu70 := Try.underlying70
  have hbig : l.length ≤ 9223372036854775807 := hr.2.1
  have HR := Aside0.mk hr
  have HP := Aside0.mk hp
  clear hr hp
  go_enter Try.func92, Try.ntmps92
  go_wp2
  go_loopg [5, 8] l.length (fun gg _ s8 wr => ∃ kk : Nat, kk ≤ l.length ∧ l.length - kk ≤ gg ∧ s8 = .int .i64 (kk : Int) ∧ Aside0 (Below w.heap.size w wr) ∧ Aside0 (∀ (j : Nat) (y : S70), j < kk → l[j]? = some y → p y = false))
  case atStart => exact ⟨0, Nat.zero_le _, by omega, rfl, ⟨Below.refl _ w⟩, ⟨fun j y hj => absurd hj (Nat.not_lt_zero _)⟩⟩
  case round =>
    obtain ⟨kk, hkk, hg, rfl, BW, AS⟩ := hrel
    by_cases hlt : kk < l.length
    · have hltz : (kk : Int) < (l.length : Int) := by omega
      have hr2 := Kd.C_below HR.out BW.out
      obtain ⟨ad, rfl, h0, h1⟩ := at_T70 hr2 (kk : Int) (by omega) (by omega)
      have hy := rd_at l kk hlt
      have hcall := HP.out wr (rd_T70 l (kk : Int)) BW.out
      generalize rd_T70 l (kk : Int) = y at h0 h1 hcall hy
      have HY := Aside0.mk hy
      clear hy
      rw [Int.toNat_natCast] at h0 h1
      cases hq : p y with
      | true =>
        rw [hq] at hcall
        have HQ := Aside0.mk hq
        clear hq
        go_wp2_with (go_at_fn g; refine hcall.mono ?_; rintro e w' ⟨rfl, hb'⟩)
        go_ret
        exact ⟨by rw [idxB_hit p l kk y HY.out HQ.out AS.out]; rfl, hb'⟩
      | false =>
        rw [hq] at hcall
        have HQ := Aside0.mk hq
        clear hq
        go_wp2_with (go_at_fn g; refine hcall.mono ?_; rintro e w' ⟨rfl, hb'⟩)
        go_roundg (l.length - (kk + 1))
        case measure => omega
        case rel =>
          refine ⟨kk + 1, by omega, by omega, by go_num, ⟨hb'⟩, ⟨fun j z hj hz => ?_⟩⟩
          by_cases e : j = kk
          · subst e
            rw [HY.out] at hz
            injection hz with hz
            rw [← hz]
            exact HQ.out
          · exact AS.out j z (by omega) hz
    · have hltz : ¬ (kk : Int) < (l.length : Int) := by omega
      have HE : Aside0 (kk = l.length) := ⟨by omega⟩
      go_wp2
      go_ret
      exact ⟨by rw [idxB_miss p l (fun j z hz => AS.out j z (by rw [HE.out]; exact (List.getElem?_eq_some_iff.1 hz).1) hz)]; rfl, BW.out⟩

set_option maxHeartbeats 1000000 in
theorem contains_calls (p : S70 → Bool) (g : Nat) (lb : Array Value) (eg : ∀ args w, (callFunc g args).run Try.prog w = .ok (.enter g args) w) (A : Option Addr) (c : Nat) (l : List S70) (w : World)
    (hp : PredB g lb p w) (hr : Kd.C k70 w A l.length l) :
    Calls Try.prog 80 #[.slice A l.length c, .func (.func g) #[] lb] w fun e w' => e = .returned (.bool (l.any p)) ∧ Below w.heap.size w w' := by
  rw [← idxB_any]
  have hcon := index_calls p g lb eg A c l w hp hr
  clear hp hr
  generalize idxB p l = r at hcon ⊢
  go_enter Try.func80, Try.ntmps80
  go_wp2_with (go_at_call 92; refine hcon.mono ?_; rintro e w' ⟨rfl, hb'⟩)
  go_ret
  exact ⟨rfl, hb'⟩


/-- The closure of ChanPlay: 'its kind is none of 0 to 3'. -/
def badOp (v : S70) : Bool := !(decide (0 ≤ v.f0 ∧ v.f0 ≤ 3))
theorem bad_pred (w : World) : PredB 81 #[] badOp w := fun W x hb => by
  have hu70 := Try.underlying70
  have hw : impl_within.f x.f0 0 3 = some (decide (0 ≤ x.f0 ∧ x.f0 ≤ 3)) := by
    unfold impl_within.f; split <;> simp_all <;> omega
  have HW := Aside0.mk hw
  have HB := Aside0.mk hb
  clear hw hb
  show Calls Try.prog 81 #[.agg #[.int .i64 x.f0, .int .u32 x.f1]] W _
  obtain ⟨x0, x1⟩ := x
  unfold badOp
  dsimp only at HW ⊢
  generalize decide (0 ≤ x0 ∧ x0 ≤ 3) = b at HW ⊢
  go_enter Try.func81, Try.ntmps81
  go_wp2_with (go_at_call 82; refine (impl_within.calls x0 0 3 b _ HW.out).mono ?_; rintro e w' ⟨rfl, hb'⟩; have HD := Aside0.mk hb'; clear hb')
  go_ret
  exact ⟨rfl, (HB.out.alloc HB.out.size _).trans (HD.out.below.mono (by have := HB.out.size; simp; omega))⟩

/-- What ChanPlay holds in memory: the channel's row, the two ends, their rows. -/
structure PS (W : World) (base g2 g5 g6 : Nat) (a0 a1 a2 a3 h : Int) (xs ys : List Int) (v1 v2 : Value) : Prop where
  k2 : W.heap[g2]? = some (.cells #[.int .i64 a0, .int .i64 a1, .int .i64 a2, .int .i64 a3] 29 (0, 0))
  k5 : W.heap[g5]? = some (.cells #[.int .i64 h, v1] 39 (0, 0))
  k6 : W.heap[g6]? = some (.cells #[v2] 31 (0, 0))
  r1 : Kd.R (Kd.int .u32) 46 W base (fun k => k ≠ g5 ∧ k ≠ g6) v1 xs
  r2 : Kd.Q (Kd.int .u32) 46 W base (fun k => k ≠ g5 ∧ k ≠ g6) v2 ys
  ne : ∀ k, v1.ownBlock = some k → v2.ownBlock ≠ some k
  lt : g2 < base
  h5 : base ≤ g5
  h6 : base ≤ g6
  h56 : g5 ≠ g6
/-- What one of the ends' functions may write. -/
def SP (W : World) (base g5 g6 : Nat) (k : Nat) : Prop := k = g5 ∨ k = g6 ∨ base ≤ k ∧ ∃ cs, W.heap[k]? = some (.cells cs 46 (0, 0))
section
variable {W w' : World} {base g2 g5 g6 : Nat} {a0 a1 a2 a3 h : Int} {xs ys : List Int} {v1 v2 : Value} {e : Ending}
theorem PS.below (p : PS W base g2 g5 g6 a0 a1 a2 a3 h xs ys v1 v2) (hb : Below W.heap.size W w') : PS w' base g2 g5 g6 a0 a1 a2 a3 h xs ys v1 v2 :=
  ⟨blk_below p.k2 hb, blk_below p.k5 hb, blk_below p.k6 hb, Kd.R_below p.r1 hb, Kd.Q_below p.r2 hb, p.ne, p.lt, p.h5, p.h6, p.h56⟩
theorem SP_own1 (p : PS W base g2 g5 g6 a0 a1 a2 a3 h xs ys v1 v2) {k : Nat} (hk : v1.ownBlock = some k) : SP W base g5 g6 k := by
  obtain ⟨cs, hc⟩ := Kd.R_typed p.r1 k hk
  obtain ⟨_, hb, _⟩ := (Kd.R_bound p.r1).1 k hk
  exact .inr (.inr ⟨hb, cs, hc⟩)
theorem PS.frame (hf : Fr (SP W base g5 g6) W w') {g t : Nat} {cs : Array Value} (hb : W.heap[g]? = some (.cells cs t (0, 0))) (ht : t ≠ 46) (n5 : g ≠ g5) (n6 : g ≠ g6) : w'.heap[g]? = some (.cells cs t (0, 0)) :=
  hf.blk hb (fun hs => by
    rcases hs with e | e | ⟨_, cs', hc⟩
    · exact n5 e
    · exact n6 e
    · rw [hc] at hb
      injection hb with hb
      injection hb with _ hb
      exact ht hb.symm)
theorem PS.row (p : PS W base g2 g5 g6 a0 a1 a2 a3 h xs ys v1 v2) (hf : Fr (SP W base g5 g6) W w') {ok : Nat → Prop} {v : Value} {acc : List S72} (hr : Kd.R k72 72 W base ok v acc) : Kd.R k72 72 w' base ok v acc := by
  refine Kd.R_mono (hf.R (Kd.R_bound hr) (fun k hk hs => ?_)) (fun _ hk => hk.1)
  obtain ⟨_, _, _, q, hq, cells, hc⟩ := hk
  have hq' : q = 72 := by
    have : q ∈ [72] := hq
    simpa using this
  subst hq'
  rcases hs with e | e | ⟨_, cs', hc'⟩
  · subst e
    rw [p.k5] at hc
    injection hc with hc
    injection hc with _ hc
    exact absurd hc (by decide)
  · subst e
    rw [p.k6] at hc
    injection hc with hc
    injection hc with _ hc
    exact absurd hc (by decide)
  · rw [hc'] at hc
    injection hc with hc
    injection hc with _ hc
    exact absurd hc (by decide)
theorem PS.send (p : PS W base g2 g5 g6 a0 a1 a2 a3 h xs ys v1 v2) {r : Int × List Int} (hbase : base ≤ W.heap.size) (hp : SendPost g5 h v1 r base W e w') : ∃ v1', PS w' base g2 g5 g6 a0 a1 a2 a3 h r.2 ys v1' v2 ∧ Fr (SP W base g5 g6) W w' := by
  obtain ⟨_, v1', hb5, hr, hf, hown⟩ := hp
  have hf' : Fr (SP W base g5 g6) W w' := hf.mono (fun k hk => hk.elim .inl (fun e => SP_own1 p e))
  have n25 : g2 ≠ g5 := blk_ne p.k2 p.k5 (by decide)
  have n26 : g2 ≠ g6 := blk_ne p.k2 p.k6 (by decide)
  have hk6 : w'.heap[g6]? = some (.cells #[v2] 31 (0, 0)) := hf.blk p.k6 (fun hs => hs.elim (fun e => p.h56 e.symm) (fun e => (p.r1.1 _ e).2 rfl))
  refine ⟨v1', ⟨PS.frame hf' p.k2 (by decide) n25 n26, hb5, hk6, Kd.R_mono (Kd.R_bound hr) (fun k hk => ⟨hk.1, ?_⟩), ?_, ?_, p.lt, p.h5, p.h6, p.h56⟩, hf'⟩
  · obtain ⟨_, _, _, q, hq, cells, hc⟩ := hk
    have hq' : q = 46 := by
      have : q ∈ [46] := hq
      simpa using this
    subst hq'
    exact blk_ne hc hk6 (by decide)
  · exact Kd.Q_mono (hf.Q (Kd.Q_tight rfl p.r2) (fun k hk hs => hs.elim (fun e => (p.r2.1 k hk.symm).1 e) (fun e => p.ne k e hk.symm))) (fun k hk => p.r2.1 k hk.symm)
  · intro k hk e2
    rcases hown k hk with e1 | hle
    · exact p.ne k e1 e2
    · have := Kd.Q_lt p.r2 k e2
      omega
theorem PS.recv (p : PS W base g2 g5 g6 a0 a1 a2 a3 h xs ys v1 v2) {r : Int × Int × List Int} (hp : RecvPost g6 v2 r base W e w') : ∃ v2', PS w' base g2 g5 g6 a0 a1 a2 a3 h xs r.2.2 v1 v2' ∧ Fr (SP W base g5 g6) W w' := by
  obtain ⟨_, v2', hb6, hr, hf, hown⟩ := hp
  have hf' : Fr (SP W base g5 g6) W w' := hf.mono (fun k hk => .inr (.inl hk))
  have n25 : g2 ≠ g5 := blk_ne p.k2 p.k5 (by decide)
  have n26 : g2 ≠ g6 := blk_ne p.k2 p.k6 (by decide)
  exact ⟨v2', ⟨PS.frame hf' p.k2 (by decide) n25 n26, hf.blk p.k5 p.h56, hb6, hf.R p.r1 (fun k hk e => hk.2 e), Kd.Q_mono (Kd.Q_tight rfl hr) (fun k hk => p.r2.1 k (hown k hk.symm)), fun k e1 e2 => p.ne k e1 (hown k e2), p.lt, p.h5, p.h6, p.h56⟩, hf'⟩
theorem PS.bord (p : PS W base g2 g5 g6 a0 a1 a2 a3 h xs ys v1 v2) {r : Int × List Int} (hp : BordPost g5 g6 v2 xs r base W e w') : ∃ v2', PS w' base g2 g5 g6 a0 a1 a2 a3 r.1 [] r.2 (.slice none 0 0) v2' ∧ Fr (SP W base g5 g6) W w' := by
  obtain ⟨vc, v2', _, _, hb5, hb6, hr, hf, hown⟩ := hp
  have hf' : Fr (SP W base g5 g6) W w' := hf.mono (fun k hk => hk.elim .inl (fun e => .inr (.inl e)))
  have n25 : g2 ≠ g5 := blk_ne p.k2 p.k5 (by decide)
  have n26 : g2 ≠ g6 := blk_ne p.k2 p.k6 (by decide)
  exact ⟨v2', ⟨PS.frame hf' p.k2 (by decide) n25 n26, hb5, hb6, Kd.R_nil _ _ _ _ _, hr, fun k e1 => by simp [Value.ownBlock] at e1, p.lt, p.h5, p.h6, p.h56⟩, hf'⟩
theorem PS.drop (p : PS W base g2 g5 g6 a0 a1 a2 a3 h xs ys v1 v2) : PS (W.setCell ⟨g5, 1, none⟩ (.slice none 0 0)) base g2 g5 g6 a0 a1 a2 a3 h [] ys (.slice none 0 0) v2 ∧ Fr (SP W base g5 g6) W (W.setCell ⟨g5, 1, none⟩ (.slice none 0 0)) := by
  have n25 : g2 ≠ g5 := blk_ne p.k2 p.k5 (by decide)
  have n65 : g6 ≠ g5 := Ne.symm p.h56
  refine ⟨⟨blk_far p.k2 n25 _, blk_put p.k5 1 _ rfl, blk_far p.k6 n65 _, Kd.R_nil _ _ _ _ _, Kd.Q_far p.r2 (fun k hk => hk.1) _, fun k e1 => by simp [Value.ownBlock] at e1, p.lt, p.h5, p.h6, p.h56⟩, (Fr.refl _ W).set (.inl (.inl rfl)) _⟩
/-- Rows of what was said, and its box. -/
def T72 (W : World) (base : Nat) (k : Nat) : Prop := base ≤ k ∧ ∃ cs, W.heap[k]? = some (.cells cs 72 (0, 0))
theorem SP_ge {k : Nat} (h : SP W base g5 g6 k) (h5 : base ≤ g5) (h6 : base ≤ g6) : base ≤ k := by
  rcases h with e | e | e
  · omega
  · omega
  · exact e.1
theorem PS.other (p : PS W base g2 g5 g6 a0 a1 a2 a3 h xs ys v1 v2) (hf : Fr (T72 W base) W w') : PS w' base g2 g5 g6 a0 a1 a2 a3 h xs ys v1 v2 := by
  have far : ∀ {g t : Nat} {cs : Array Value}, W.heap[g]? = some (.cells cs t (0, 0)) → t ≠ 72 → ¬ T72 W base g := fun hb ht hs => by
    obtain ⟨_, cs', hc⟩ := hs
    rw [hc] at hb
    injection hb with hb
    injection hb with _ hb
    exact ht hb.symm
  refine ⟨hf.blk p.k2 (far p.k2 (by decide)), hf.blk p.k5 (far p.k5 (by decide)), hf.blk p.k6 (far p.k6 (by decide)), ?_, ?_, p.ne, p.lt, p.h5, p.h6, p.h56⟩
  · refine Kd.R_mono (hf.R (Kd.R_bound p.r1) (fun k hk => ?_)) (fun _ hk => hk.1)
    obtain ⟨_, _, _, q, hq, cells, hc⟩ := hk
    have hq' : q = 46 := by
      have : q ∈ [46] := hq
      simpa using this
    subst hq'
    exact far hc (by decide)
  · refine Kd.Q_mono (hf.Q (Kd.Q_bound p.r2) (fun k hk => ?_)) (fun _ hk => hk.1)
    obtain ⟨_, _, _, q, hq, cells, hc⟩ := hk
    have hq' : q = 46 := by
      have : q ∈ [46] := hq
      simpa using this
    subst hq'
    exact far hc (by decide)
end
end Go.Proofs.Ytioifcanipijhaa.GK
