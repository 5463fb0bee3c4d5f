/- What Fetch and Peek come to, walked by hand: the guest is laid in a box, its method reads it. -/
import Derived.Test.YtbcpkigeginmnaaGFx0
import Derived.Test.YtbcpkigeginmnaaGFx13
import Derived.Test.YtbcpkigeginmnaaGFx9
import Derived.Test.YtbcpkigeginmnaaHnd
namespace Go.Proofs.Ytbcpkigeginmnaa.GF
open Go.RowKit Go.Proofs.YtbcpkigeginmnaaW.PrintWords Go.Proofs.YtbcpkigeginmnaaW.PrintLast Go.Proofs.YtbcpkigeginmnaaW.PrintMore Go.Proofs.Ytbcpkigeginmnaa.Q Go.Proofs.Ytbcpkigeginmnaa.Hnd
set_option linter.unusedVariables false
set_option linter.unusedSimpArgs false
def impl_Peek.f (k : Nat) (l0 : List S70) (l1_0 : List Int) (a1_1 : Int) (l1_2 : List (List Int)) (a2 a3 : Int) : Option (Int × Int) := (impl_isGuest.f k l0 l1_0 a1_1 l1_2).bind fun b => if b = true then ((impl_Guest_load.f k l1_0 a1_1 l1_2 l0 a2 a3 1).bind fun t => some (t.1, t.2.1)) else some (0, 9)
def impl_Fetch.f (k : Nat) (l0 : List S70) (l1_0 : List Int) (a1_1 : Int) (l1_2 : List (List Int)) : Option (Int × Int) := (impl_isGuest.f k l0 l1_0 a1_1 l1_2).bind fun b => if b = true then ((impl_Guest_load.f k l1_0 a1_1 l1_2 l0 a1_1 4 4).bind fun t => some (t.1, t.2.1)) else some (0, 9)
theorem impl_Peek.mono : ∀ a0 a1 a2 a3 a4 a5 k, LeO (impl_Peek.f k a0 a1 a2 a3 a4 a5) (impl_Peek.f (k + 1) a0 a1 a2 a3 a4 a5) := by
  intro a0 a1 a2 a3 a4 a5 k
  unfold impl_Peek.f
  refine LeO.bind (impl_isGuest.mono _ _ _ _ _) (fun _ => LeO.ite (LeO.bind (impl_Guest_load.mono _ _ _ _ _ _ _ _) (fun _ => LeO.refl _)) (LeO.refl _))
theorem impl_Fetch.mono : ∀ a0 a1 a2 a3 k, LeO (impl_Fetch.f k a0 a1 a2 a3) (impl_Fetch.f (k + 1) a0 a1 a2 a3) := by
  intro a0 a1 a2 a3 k
  unfold impl_Fetch.f
  refine LeO.bind (impl_isGuest.mono _ _ _ _ _) (fun _ => LeO.ite (LeO.bind (impl_Guest_load.mono _ _ _ _ _ _ _ _) (fun _ => LeO.refl _)) (LeO.refl _))
theorem k70_heap : Kd.Heap k70 := Kd.heap_iso _ (Kd.heap_pair (Kd.heap_int _) (Kd.heap_pair (Kd.heap_int _) (Kd.heap_int _)))
theorem load_at {k : Nat} {A0 : Option Addr} {c0 : Nat} {l0 : List S70} {A1_0 : Option Addr} {c1_0 : Nat} {l1_0 : List Int} {a1_1 : Int} {A1_2 : Option Addr} {c1_2 : Nat} {l1_2 : List (List Int)} {a2 a3 kd r1 r2 r3 : Int} {w W : World} {g : Nat}
    (hr0 : Kd.C k70 w A0 l0.length l0) (hc0 : l0.length ≤ c0) (hr1_0 : Kd.C (Kd.int .u32) w A1_0 l1_0.length l1_0) (hr1_2 : Kd.C (Kd.slice 5 (Kd.int .u8)) w A1_2 l1_2.length l1_2) (hB : Below w.heap.size w W) (hg : w.heap.size ≤ g) (hb : W.heap[g]? = some (.cells #[.slice A1_0 l1_0.length c1_0, .int .u32 a1_1, .slice A1_2 l1_2.length c1_2] 28 (0, 0))) (h : impl_Guest_load.f k l1_0 a1_1 l1_2 l0 a2 a3 kd = some (r1, r2, r3)) :
    Calls Try.prog 59 #[.pointer (some ⟨g, 0, none⟩), .slice A0 l0.length c0, .int .u32 a2, .int .i64 a3, .int .i64 kd] W fun e w' => e = .returned (.tuple #[.int .u32 r1, .int .i64 r2]) ∧ Below w.heap.size w w' :=
  (impl_Guest_load.calls k g l1_0 a1_1 l1_2 A0 c0 l0 a2 a3 kd r1 r2 r3 w W ⟨_, _, _, _, hb, hg, hr1_0, hr1_2⟩ hB (Kd.C_foot_came k70_heap hr0 hB hg) hc0 h).mono (fun e w' hh => ⟨hh.1, hh.2.2.1⟩)
set_option maxHeartbeats 8000000 in
set_option maxRecDepth 100000 in
theorem impl_Peek.calls (k : Nat) (A0 : Option Addr) (c0 : Nat) (l0 : List (S70)) (A1_0 : Option Addr) (c1_0 : Nat) (l1_0 : List Int) (a1_1 : Int) (A1_2 : Option Addr) (c1_2 : Nat) (l1_2 : List (List Int)) (a2 : Int) (a3 : Int) (r1 : Int) (r2 : Int) (w : World) (hr0 : Kd.C k70 w A0 l0.length l0) (hc0 : l0.length ≤ c0) (hr1_0 : Kd.C (Kd.int .u32) w A1_0 l1_0.length l1_0) (hc1_0 : l1_0.length ≤ c1_0) (hr1_2 : Kd.C (Kd.slice 5 (Kd.int .u8)) w A1_2 l1_2.length l1_2) (hc1_2 : l1_2.length ≤ c1_2) (h : impl_Peek.f k l0 l1_0 a1_1 l1_2 a2 a3 = some (r1, r2)) :
    Calls Try.prog 28 #[.slice A0 l0.length c0, .agg #[.slice A1_0 l1_0.length c1_0, .int .u32 a1_1, .slice A1_2 l1_2.length c1_2], .int .u32 a2, .int .i64 a3] w fun e w' => e = .returned (.tuple #[.int .u32 r1, .int .i64 r2]) ∧ Below w.heap.size w w' := by
  have hu28 := Try.underlying28
  have H0 := Aside0.mk hr0
  have H1 := Aside0.mk hr1_0
  have H2 := Aside0.mk hr1_2
  have C0 := Aside0.mk hc0
  have C1 := Aside0.mk hc1_0
  have C2 := Aside0.mk hc1_2
  clear hr0 hr1_0 hr1_2 hc0 hc1_0 hc1_2
  unfold impl_Peek.f at h
  obtain ⟨b, hb, h⟩ := Option.bind_eq_some_iff.mp h
  have HG := Aside0.mk hb
  clear hb
  cases b with
  | false =>
    rw [if_neg (by decide)] at h
    injection h with h
    injection h with h1 h2
    subst h1 h2
    go_enter Try.func28, Try.ntmps28
    go_wp2_with (go_at_call 54; refine (impl_isGuest.calls k A0 c0 l0 A1_0 c1_0 l1_0 a1_1 A1_2 c1_2 l1_2 false _ (cq H0.out) C0.out (cq H1.out) C1.out (cq H2.out) C2.out HG.out).mono ?_; rintro e w' ⟨rfl, hb'⟩; have HB1 := Aside0.mk hb'; clear hb')
    go_ret2
    exact ⟨rfl, below_step (below_alloc (Below.refl _ w) _) HB1.out⟩
  | true =>
    rw [if_pos rfl] at h
    obtain ⟨⟨t1, t2, t3⟩, ht, h⟩ := Option.bind_eq_some_iff.mp h
    injection h with h
    injection h with h1 h2
    subst h1 h2
    have HT := Aside0.mk ht
    clear ht
    go_enter Try.func28, Try.ntmps28
    go_wp2_with (first | (go_at_call 54; refine (impl_isGuest.calls k A0 c0 l0 A1_0 c1_0 l1_0 a1_1 A1_2 c1_2 l1_2 true _ (cq H0.out) C0.out (cq H1.out) C1.out (cq H2.out) C2.out HG.out).mono ?_; rintro e w' ⟨rfl, hb'⟩; have HB1 := Aside0.mk (below_step (below_alloc (Below.refl _ w) _) hb'); have HK1 := Aside0.mk (blk_below at1_0 hb'); clear hb') | (go_at_call 59; refine (load_at H0.out C0.out H1.out H2.out (lq HB1.out) (Nat.le_refl _) (bq HK1.out) HT.out).mono ?_; rintro e w2 ⟨rfl, hb2⟩; have HB2 := Aside0.mk hb2; clear hb2))
    go_ret2
    exact ⟨rfl, HB2.out⟩
set_option maxHeartbeats 8000000 in
set_option maxRecDepth 100000 in
theorem impl_Fetch.calls (k : Nat) (A0 : Option Addr) (c0 : Nat) (l0 : List (S70)) (A1_0 : Option Addr) (c1_0 : Nat) (l1_0 : List Int) (a1_1 : Int) (A1_2 : Option Addr) (c1_2 : Nat) (l1_2 : List (List Int)) (r1 : Int) (r2 : Int) (w : World) (hr0 : Kd.C k70 w A0 l0.length l0) (hc0 : l0.length ≤ c0) (hr1_0 : Kd.C (Kd.int .u32) w A1_0 l1_0.length l1_0) (hc1_0 : l1_0.length ≤ c1_0) (hr1_2 : Kd.C (Kd.slice 5 (Kd.int .u8)) w A1_2 l1_2.length l1_2) (hc1_2 : l1_2.length ≤ c1_2) (h : impl_Fetch.f k l0 l1_0 a1_1 l1_2 = some (r1, r2)) :
    Calls Try.prog 26 #[.slice A0 l0.length c0, .agg #[.slice A1_0 l1_0.length c1_0, .int .u32 a1_1, .slice A1_2 l1_2.length c1_2]] w fun e w' => e = .returned (.tuple #[.int .u32 r1, .int .i64 r2]) ∧ Below w.heap.size w w' := by
  have hu28 := Try.underlying28
  have H0 := Aside0.mk hr0
  have H1 := Aside0.mk hr1_0
  have H2 := Aside0.mk hr1_2
  have C0 := Aside0.mk hc0
  have C1 := Aside0.mk hc1_0
  have C2 := Aside0.mk hc1_2
  clear hr0 hr1_0 hr1_2 hc0 hc1_0 hc1_2
  unfold impl_Fetch.f at h
  obtain ⟨b, hb, h⟩ := Option.bind_eq_some_iff.mp h
  have HG := Aside0.mk hb
  clear hb
  cases b with
  | false =>
    rw [if_neg (by decide)] at h
    injection h with h
    injection h with h1 h2
    subst h1 h2
    go_enter Try.func26, Try.ntmps26
    go_wp2_with (go_at_call 54; refine (impl_isGuest.calls k A0 c0 l0 A1_0 c1_0 l1_0 a1_1 A1_2 c1_2 l1_2 false _ (cq H0.out) C0.out (cq H1.out) C1.out (cq H2.out) C2.out HG.out).mono ?_; rintro e w' ⟨rfl, hb'⟩; have HB1 := Aside0.mk hb'; clear hb')
    go_ret2
    exact ⟨rfl, below_step (below_alloc (Below.refl _ w) _) HB1.out⟩
  | true =>
    rw [if_pos rfl] at h
    obtain ⟨⟨t1, t2, t3⟩, ht, h⟩ := Option.bind_eq_some_iff.mp h
    injection h with h
    injection h with h1 h2
    subst h1 h2
    have HT := Aside0.mk ht
    clear ht
    go_enter Try.func26, Try.ntmps26
    go_wp2_with (first | (go_at_call 54; refine (impl_isGuest.calls k A0 c0 l0 A1_0 c1_0 l1_0 a1_1 A1_2 c1_2 l1_2 true _ (cq H0.out) C0.out (cq H1.out) C1.out (cq H2.out) C2.out HG.out).mono ?_; rintro e w' ⟨rfl, hb'⟩; have HB1 := Aside0.mk (below_step (below_alloc (Below.refl _ w) _) hb'); have HK1 := Aside0.mk (blk_below at1_0 hb'); have hk1 : w'.cell? ⟨w.heap.size, 1, none⟩ = some (.int .u32 a1_1) := kc HK1.out 1 rfl; clear hb') | (go_at_call 59; refine (load_at H0.out C0.out H1.out H2.out (lq HB1.out) (Nat.le_refl _) (bq HK1.out) HT.out).mono ?_; rintro e w2 ⟨rfl, hb2⟩; have HB2 := Aside0.mk hb2; clear hb2))
    go_ret2
    exact ⟨rfl, HB2.out⟩
end Go.Proofs.Ytbcpkigeginmnaa.GF
