/- The law FnExactGuestNew, walked by hand on its one path: the pure facts say what each call answers. -/
import Derived.Test.YtbcpkigeginmnaaGFx0
import Derived.Test.YtbcpkigeginmnaaGFx10
import Derived.Test.YtbcpkigeginmnaaGFx22
import Derived.Test.YtbcpkigeginmnaaGFx23
import Derived.Test.YtbcpkigeginmnaaGFx24
import Derived.Test.YtbcpkigeginmnaaGFx25
import Derived.Test.YtbcpkigeginmnaaGFx4
import Derived.Test.YtbcpkigeginmnaaGFx8
import Derived.Test.YtbcpkigeginmnaaAidFN
import Derived.Test.YtbcpkigeginmnaaAidFH
import Derived.Test.YtbcpkigeginmnaaLst2
namespace Go.Proofs.Ytbcpkigeginmnaa.GF
open Go.RowKit Go.Proofs.YtbcpkigeginmnaaW.PrintWords Go.Proofs.YtbcpkigeginmnaaW.PrintLast Go.Proofs.YtbcpkigeginmnaaW.PrintMore Go.Proofs.Ytbcpkigeginmnaa.Q Go.Proofs.Ytbcpkigeginmnaa.Hnd Go.Proofs.Ytbcpkigeginmnaa.Lst Go.Proofs.Ytbcpkigeginmnaa.AidFW Go.Proofs.Ytbcpkigeginmnaa.AidFN
set_option linter.unusedVariables false
set_option linter.unusedSimpArgs false
/-- Windows in memory of one's own, made within lo to hi. -/
structure Wst (w0 W : World) (lo hi : Nat) (v : Value) (l : List S70) : Prop where
  r : Kd.R k70 70 W w0.heap.size (fun k => lo ≤ k ∧ k < hi) v l
  ge : w0.heap.size ≤ lo
  le : hi ≤ W.heap.size
section
variable {w0 W W' : World} {lo hi lo' hi' : Nat} {v : Value} {l : List S70} {S : Nat → Prop}
theorem Wst.new (h : Kd.R k70 70 W' W.heap.size (fun _ => True) v l) (hB : Below w0.heap.size w0 W) : Wst w0 W' W.heap.size W'.heap.size v l :=
  ⟨Kd.R_lower (Kd.R_mono (R_in h) (fun k hk => hk.2)) hB.size, hB.size, Nat.le_refl _⟩
theorem Wst.fr (h : Wst w0 W lo hi v l) (f : Fr S W W') (hS : ∀ k, lo ≤ k → k < hi → ¬ S k) : Wst w0 W' lo hi v l :=
  ⟨f.R h.r (fun k hk => hS k hk.1 hk.2), h.ge, Nat.le_trans h.le f.size⟩
theorem Wst.below (h : Wst w0 W lo hi v l) (hb : Below W.heap.size W W') : Wst w0 W' lo hi v l := h.fr (Fr.of_below (fun _ => False) hb) (fun _ _ _ h => h)
theorem wq (h : Wst w0 W lo hi v l) [q : Quiet W W'] : Wst w0 W' lo hi v l := h.below q.go
theorem Wst.form (h : Wst w0 W lo hi v l) : ∃ A c, v = .slice A l.length c ∧ l.length ≤ c ∧ Kd.C k70 W A l.length l := by
  obtain ⟨A, c, rfl⟩ := Kd.R_slice h.r
  exact ⟨A, c, rfl, (Kd.R_reads' h.r).2.1, (Kd.R_reads' h.r).2.2⟩
theorem Wst.wide (h : Wst w0 W lo hi v l) (h1 : lo' ≤ lo) (h2 : hi ≤ hi') (h3 : hi' ≤ W.heap.size) (h4 : w0.heap.size ≤ lo') : Wst w0 W lo' hi' v l :=
  ⟨Kd.R_mono h.r (fun k hk => ⟨Nat.le_trans h1 hk.1, Nat.lt_of_lt_of_le hk.2 h2⟩), h4, h3⟩
end
theorem Gst.wide' {w0 W : World} {lo hi lo' hi' : Nat} {v0 v2 : Value} {r : List Int} {ram : List (List Int)} (h : Gst w0 W lo hi v0 v2 r ram) (h1 : lo' ≤ lo) (h2 : hi ≤ hi') (h3 : hi' ≤ W.heap.size) (h4 : w0.heap.size ≤ lo') : Gst w0 W lo' hi' v0 v2 r ram :=
  ⟨Kd.R_mono h.r0 (fun k hk => ⟨Nat.le_trans h1 hk.1, Nat.lt_of_lt_of_le hk.2 h2⟩), Kd.S_mono h.r2 (fun k hk => ⟨Nat.le_trans h1 hk.1, Nat.lt_of_lt_of_le hk.2 h2⟩), h4, h3⟩
theorem toW_calls {w W : World} {A : Option Addr} {c : Nat} {l : List S72} {L : List S70} (hL : L = l.map toW) (h : Kd.C k72 w A l.length l) (hc : l.length ≤ c) (hl : l.length ≤ 9000000) (hB : Below w.heap.size w W) :
    Calls Try.prog 19 #[.slice A l.length c] W fun e w' => ∃ B d, e = .returned (.slice B L.length d) ∧ Wst w w' W.heap.size w'.heap.size (.slice B L.length d) L ∧ Below W.heap.size W w' :=
  hL ▸ (laws_toWindowS.calls 10000000 A c l _ W (Kd.C_below h hB) hc (to_w l hl 10000000 (by omega))).mono (fun e w' hh => by
    obtain ⟨v, rfl, hR, hb⟩ := hh
    obtain ⟨B, d, rfl⟩ := Kd.R_slice hR
    exact ⟨_, _, rfl, Wst.new hR hB, hb⟩)
theorem eqW_calls {w W : World} {l1 h1 l2 h2 : Nat} {u v : Value} {l : List S70} (hu : Wst w W l1 h1 u l) (hv : Wst w W l2 h2 v l) (hl : l.length ≤ 9000000) :
    Calls Try.prog 21 #[u, v] W fun e w' => e = .returned (.bool true) ∧ Below W.heap.size W w' := by
  obtain ⟨A, c, rfl, q1, q2⟩ := hu.form
  obtain ⟨B, d, rfl, t1, t2⟩ := hv.form
  exact laws_eqWindowS.calls 10000000 A c l B d l true W q2 q1 t2 t1 (eq_w l hl 10000000 (by omega))
theorem mark_w (l : List S70) (hl : l.length ≤ 9000000) (k : Nat) (hk : l.length < k) : laws_markWindowS.f k l 1 = some (1 + ((3 : Nat) : Int) * (l.length : Int), marksS (fun m => (⟨m, m + 1, m + 2⟩ : S70)) 3 1 l.length) := by
  refine mark_allS laws_markWindowS.l0 (fun m => (⟨m, m + 1, m + 2⟩ : S70)) 3 (by decide) (fun k x0 m i h0 h1 hi hl => ?_) (fun k x0 m i hi => ?_) l 1 (by decide) (by decide) hl k hk
  · have e1 : wrap64 (m + 1) = m + 1 := wr (by omega) (by omega)
    have e2 : wrap64 (m + 1 + 1) = m + 1 + 1 := wr (by omega) (by omega)
    have e3 : wrap64 (m + 1 + 1 + 1) = m + 1 + 1 + 1 := wr (by omega) (by omega)
    have e4 : wrap64 ((i : Int) + 1) = ((i + 1 : Nat) : Int) := by rw [wr (by omega) (by omega)]; omega
    have c1 : (i : Int) < (x0.length : Int) := by omega
    have c2 : (0 : Int) ≤ (i : Int) := by omega
    have g1 : ∀ (y : List S70) (v : S70), i < y.length → rd_T70 (y.set i v) (i : Int) = v := by
      intro y v hy
      unfold rd_T70
      rw [Int.toNat_natCast, List.getD_eq_getElem?_getD, List.getElem?_set_self hy]
      rfl
    simp only [laws_markWindowS.l0, Option.bind_some]
    rw [if_pos c1, if_pos c2]
    simp only [Int.toNat_natCast, e1, e2, e3, e4, List.set_set, List.length_set, g1 _ _ hi]
    first
    | (rw [show m + ((3 : Nat) : Int) = m + 1 + 1 + 1 from by omega, show m + 2 = m + 1 + 1 from by omega]; done)
    | (rw [show m + ((3 : Nat) : Int) = m + 1 + 1 + 1 from by omega, show m + 2 = m + 1 + 1 from by omega]; simp [g1, hi, List.set_set])
  · simp only [laws_markWindowS.l0]
    rw [if_neg (by omega)]
theorem markW_calls (w W : World) (lo hi : Nat) (v : Value) (l : List S70) (hB : Below w.heap.size w W) (hG : Wst w W lo hi v l) (hl : l.length ≤ 9000000) :
    Calls Try.prog 24 #[v, .int .i64 1] W fun e w' => e = .returned (.int .i64 (1 + ((3 : Nat) : Int) * (l.length : Int))) ∧ Wst w w' lo hi v (marksS (fun m => (⟨m, m + 1, m + 2⟩ : S70)) 3 1 l.length) ∧ Fr (fun k => lo ≤ k ∧ k < hi) W w' :=
  (laws_markWindowS.calls 10000000 (fun k => some k = v.ownBlock) v l 1 _ _ w W hB (Kd.R_tight rfl hG.r) (mark_w l hl 10000000 (by omega))).mono (fun e w' hh => by
    obtain ⟨rfl, hR, hb, hk⟩ := hh
    have hF := (Fr.of_kept hk hB hb).mono (T := fun k => lo ≤ k ∧ k < hi) (fun k hk => hG.r.1 k hk.symm)
    exact ⟨rfl, ⟨Kd.R_mono (Kd.R_tight rfl hR) (fun k hk => hG.r.1 k hk.symm), hG.ge, Nat.le_trans hG.le hF.size⟩, hF⟩)
theorem eqGn_calls {w W : World} {l1 h1 l2 h2 : Nat} {u0 u2 v0 v2 : Value} {r : List Int} (p : Int) {ram : List (List Int)} (hu : Gst w W l1 h1 u0 u2 r ram) (hv : Gst w W l2 h2 v0 v2 r ram) (b0 : r.length ≤ 9000000) (b2 : ram.length ≤ 9000000) (bb : ∀ x ∈ ram, x.length ≤ 9000000) :
    Calls Try.prog 14 #[.agg #[u0, .int .u32 p, u2], .agg #[v0, .int .u32 p, v2]] W fun e w' => e = .returned (.bool true) ∧ Below W.heap.size W w' := by
  obtain ⟨A0, c0, A2, c2, rfl, rfl, q1, q2, q3, q4⟩ := hu.form
  obtain ⟨B0, d0, B2, d2, rfl, rfl, t1, t2, t3, t4⟩ := hv.form
  exact laws_eqGuest.calls 30000000 A0 c0 r p A2 c2 ram B0 d0 r p B2 d2 ram true W q3 q1 q4 q2 t3 t1 t4 t2 (AidFG.eq_g r p ram b0 b2 bb 30000000 (by decide))
theorem heldGn_calls {w W : World} {l1 h1 : Nat} {u0 u2 : Value} {r : List Int} (p : Int) {ram : List (List Int)} (hu : Gst w W l1 h1 u0 u2 (marks (· % 4294967296) 1 r.length) (marksB (1 + (r.length : Int)) ram)) (hm : (1 : Int) + (r.length : Int) + (ram.length : Int) + (tot ram : Int) ≤ 9000000) :
    Calls Try.prog 16 #[.agg #[u0, .int .u32 p, u2], .int .i64 1] W fun e w' => e = .returned (.int .i64 (1 + (r.length : Int) + (tot ram : Int))) ∧ Below W.heap.size W w' := by
  obtain ⟨A0, c0, A2, c2, rfl, rfl, q1, q2, q3, q4⟩ := hu.form
  exact laws_heldGuest.calls 30000000 A0 c0 _ p A2 c2 _ 1 _ W q3 q1 q4 q2 (AidFH.held_g r p ram 1 (by decide) hm 30000000 (by decide))
theorem specGN_calls {w W : World} {l1 h1 : Nat} {u : Value} {l : List S70} (e0 : Int) (hu : Wst w W l1 h1 u l) (hB : Below w.heap.size w W) (hl : ∀ x ∈ l, WfW x) :
    Calls Try.prog 22 #[u, .int .i64 e0] W fun e w' => ∃ B0 d0 B2 d2, e = .returned (.agg #[.slice B0 (gnR l).length d0, .int .u32 (gnP l e0), .slice B2 (gnM l).length d2]) ∧ Gst w w' W.heap.size w'.heap.size (.slice B0 (gnR l).length d0) (.slice B2 (gnM l).length d2) (gnR l) (gnM l) ∧ Below W.heap.size W w' := by
  obtain ⟨A, c, rfl, q1, q2⟩ := hu.form
  refine (spec_GuestNew.calls 30000000 A c l e0 _ _ _ W q2 q1 (gn_s l hl e0 30000000 (by decide))).mono (fun e w' hh => ?_)
  obtain ⟨v0, v2, rfl, hR, hS, hb⟩ := hh
  obtain ⟨B0, d0, rfl⟩ := Kd.R_slice hR
  obtain ⟨B2, d2, rfl⟩ := Kd.S_slice hS
  exact ⟨_, _, _, _, rfl, Gst.new hR hS hB, hb⟩
theorem implGN_calls {w W : World} {l1 h1 : Nat} {u : Value} {l : List S70} (e0 : Int) (hu : Wst w W l1 h1 u l) (hB : Below w.heap.size w W) (hl : ∀ x ∈ l, WfW x) (hn : l.length ≤ 9000000) :
    Calls Try.prog 23 #[u, .int .i64 e0] W fun e w' => ∃ B0 d0 B2 d2, e = .returned (.agg #[.slice B0 (gnR l).length d0, .int .u32 (gnP l e0), .slice B2 (gnM l).length d2]) ∧ Gst w w' W.heap.size w'.heap.size (.slice B0 (gnR l).length d0) (.slice B2 (gnM l).length d2) (gnR l) (gnM l) ∧ Below W.heap.size W w' := by
  obtain ⟨A, c, rfl, q1, q2⟩ := hu.form
  refine (impl_GuestNew.calls 30000000 A c l e0 _ _ _ W q2 q1 (gn_i l hl e0 hn 30000000 (by omega))).mono (fun e w' hh => ?_)
  obtain ⟨v0, v2, rfl, hR, hS, hb⟩ := hh
  obtain ⟨B0, d0, rfl⟩ := Kd.R_slice hR
  obtain ⟨B2, d2, rfl⟩ := Kd.S_slice hS
  exact ⟨_, _, _, _, rfl, Gst.new hR hS hB, hb⟩
/-- What the law holds: the boxes and guests of the reference's answer (w) and of the program's (g), and the windows that were handed in (x). -/
structure Lgn (w W : World) (bW lw hw : Nat) (u0 u2 : Value) (pw : Int) (rw_ : List Int) (mw : List (List Int)) (lx hx : Nat) (xv : Value) (xs : List S70) (bG lg hg : Nat) (g0 g2 : Value) (pg : Int) (rg : List Int) (mg : List (List Int)) : Prop where
  kw : W.heap[bW]? = some (.cells #[u0, .int .u32 pw, u2] 28 (0, 0))
  kg : W.heap[bG]? = some (.cells #[g0, .int .u32 pg, g2] 28 (0, 0))
  gw : Gst w W lw hw u0 u2 rw_ mw
  gx : Wst w W lx hx xv xs
  gg : Gst w W lg hg g0 g2 rg mg
  be : Below w.heap.size w W
  o2 : hw ≤ bW
  o3 : bW < lx
  o4 : hx ≤ lg
  o6 : hg ≤ bG
  p1 : lw ≤ hw
  p2 : lx ≤ hx
  p3 : lg ≤ hg
section
variable {w W W' : World} {bW lw hw lx hx bG lg hg : Nat} {u0 u2 xv g0 g2 : Value} {pw pg : Int} {rw_ rg rg' : List Int} {mw mg mg' : List (List Int)} {xs xs' : List S70}
theorem Lgn.below (h : Lgn w W bW lw hw u0 u2 pw rw_ mw lx hx xv xs bG lg hg g0 g2 pg rg mg) (hb : Below W.heap.size W W') : Lgn w W' bW lw hw u0 u2 pw rw_ mw lx hx xv xs bG lg hg g0 g2 pg rg mg :=
  ⟨blk_below h.kw hb, blk_below h.kg hb, h.gw.below hb, h.gx.below hb, h.gg.below hb, below_step h.be hb, h.o2, h.o3, h.o4, h.o6, h.p1, h.p2, h.p3⟩
theorem lgq (h : Lgn w W bW lw hw u0 u2 pw rw_ mw lx hx xv xs bG lg hg g0 g2 pg rg mg) [q : Quiet W W'] : Lgn w W' bW lw hw u0 u2 pw rw_ mw lx hx xv xs bG lg hg g0 g2 pg rg mg := h.below q.go
theorem Lgn.markX (h : Lgn w W bW lw hw u0 u2 pw rw_ mw lx hx xv xs bG lg hg g0 g2 pg rg mg) (hG : Wst w W' lx hx xv xs') (f : Fr (fun k => lx ≤ k ∧ k < hx) W W') : Lgn w W' bW lw hw u0 u2 pw rw_ mw lx hx xv xs' bG lg hg g0 g2 pg rg mg := by
  have a2 := h.o2; have a3 := h.o3; have a4 := h.o4; have a6 := h.o6; have a7 := h.gx.ge; have b1 := h.p1; have b2 := h.p2; have b3 := h.p3
  exact ⟨f.blk h.kw (fun k => by omega), f.blk h.kg (fun k => by omega), h.gw.fr f (fun k h1 h2 h3 => by omega), hG, h.gg.fr f (fun k h1 h2 h3 => by omega), h.be.trans (f.below (fun i hi => by omega) h.be.size), h.o2, h.o3, h.o4, h.o6, h.p1, h.p2, h.p3⟩
theorem Lgn.markG (h : Lgn w W bW lw hw u0 u2 pw rw_ mw lx hx xv xs bG lg hg g0 g2 pg rg mg) (hG : Gst w W' lg hg g0 g2 rg' mg') (f : Fr (fun k => lg ≤ k ∧ k < hg) W W') : Lgn w W' bW lw hw u0 u2 pw rw_ mw lx hx xv xs bG lg hg g0 g2 pg rg' mg' := by
  have a2 := h.o2; have a3 := h.o3; have a4 := h.o4; have a6 := h.o6; have a7 := h.gx.ge; have b1 := h.p1; have b2 := h.p2; have b3 := h.p3
  exact ⟨f.blk h.kw (fun k => by omega), f.blk h.kg (fun k => by omega), h.gw.fr f (fun k h1 h2 h3 => by omega), h.gx.fr f (fun k h1 h2 h3 => by omega), hG, h.be.trans (f.below (fun i hi => by omega) h.be.size), h.o2, h.o3, h.o4, h.o6, h.p1, h.p2, h.p3⟩
theorem lgn_mk {w w2 w3 w4 w5 : World} (kw : w5.heap[w3.heap.size]? = some (.cells #[u0, .int .u32 pw, u2] 28 (0, 0))) (gw : Gst w w5 w2.heap.size w3.heap.size u0 u2 rw_ mw) (gx : Wst w w5 (w3.heap.size + 1) w4.heap.size xv xs) (gg : Gst w w5 w4.heap.size w5.heap.size g0 g2 rg mg) (be : Below w.heap.size w w5)
    (s3 : w2.heap.size ≤ w3.heap.size) (s4 : w3.heap.size < w4.heap.size) (s5 : w4.heap.size ≤ w5.heap.size) :
    Lgn w (w5.alloc (.cells #[g0, .int .u32 pg, g2] 28)) w3.heap.size w2.heap.size w3.heap.size u0 u2 pw rw_ mw (w3.heap.size + 1) w4.heap.size xv xs w5.heap.size w4.heap.size w5.heap.size g0 g2 pg rg mg :=
  ⟨bq kw, at1_0, gq gw, wq gx, gq gg, lq be, Nat.le_refl _, Nat.lt_succ_self _, Nat.le_refl _, Nat.le_refl _, s3, s4, s5⟩
end
set_option maxHeartbeats 16000000 in
set_option maxRecDepth 100000 in
theorem lawGN_long (A : Option Addr) (c : Nat) (l : List S72) (L : List S70) (hL : L = l.map toW) (e0 q : Int) (w : World) (hC : Kd.C k72 w A l.length l) (hc : l.length ≤ c) (hq : laws_szWindowS.f l 1048576 = some q) (h0 : 0 ≤ q) (hl : l.length ≤ 9000000) (hw : ∀ x ∈ L, WfW x) :
    Calls Try.prog 5 #[.slice A l.length c, .int .i64 e0] w fun e w' => e = .returned (.bool true) ∧ Below w.heap.size w w' := by
  have hu28 := Try.underlying28
  have hs := gn_small _ hw
  have HC := Aside0.mk hC
  have HQ := Aside0.mk hq
  have HL := Aside0.mk hl
  have HL2 : Aside0 (L.length ≤ 9000000) := ⟨by rw [hL, List.length_map]; exact hl⟩
  have HLE := Aside0.mk hL
  have hl9 : (L.length : Int) ≤ 9000000 := by have := HL2.out; omega
  have HW := Aside0.mk hw
  have B0 : Aside0 ((gnR L).length ≤ 9000000) := ⟨by omega⟩
  have B2 : Aside0 ((gnM L).length ≤ 9000000) := ⟨by omega⟩
  have BB : Aside0 (∀ x ∈ (gnM L), x.length ≤ 9000000) := ⟨fun x hx => by have := AidFH.tot_mem hx; omega⟩
  have HM : Aside0 ((1 : Int) + ((gnR L).length : Int) + ((gnM L).length : Int) + (tot (gnM L) : Int) ≤ 9000000) := ⟨by omega⟩
  have q0 : decide (q < 0) = false := decide_eq_false (by omega)
  have k0 : decide (1 + ((3 : Nat) : Int) * (L.length : Int) < 0) = false := decide_eq_false (by omega)
  have m0 : decide ((1 : Int) + ((gnR L).length : Int) + (tot (gnM L) : Int) < 0) = false := decide_eq_false (by omega)
  clear hC hq hl hw hs hL hl9
  have T1 := Aside0.mk trivial
  have T2 := Aside0.mk trivial
  have T3 := Aside0.mk trivial
  have T4 := Aside0.mk trivial
  have T5 := Aside0.mk trivial
  have T7 := Aside0.mk trivial
  have T9 := Aside0.mk trivial
  have T10 := Aside0.mk trivial
  have T11 := Aside0.mk trivial
  have T12 := Aside0.mk trivial
  go_enter Try.func5, Try.ntmps5
  go_wp2_with (first | (go_at_call 17; refine (laws_szWindowS.calls A c l 1048576 q _ (cq HC.out) hc HQ.out).mono ?_; rintro e w1 ⟨rfl, hd⟩; have B1 := Aside0.mk (below_step (lq (Below.refl w.heap.size w) : Below w.heap.size w _) hd.below); clear hd) | (go_at_call 19; clear T1; refine (toW_calls HLE.out HC.out hc HL.out (lq B1.out)).mono ?_; rintro e w2 ⟨E0, j0, rfl, hG, hb'⟩; have GA := Aside0.mk hG; have B2' := Aside0.mk (below_step (lq B1.out) hb'); clear hG hb') | (go_at_call 22; refine (specGN_calls e0 (wq GA.out) (lq B2'.out) HW.out).mono ?_; rintro e w3 ⟨U0, f0, U2, f2, rfl, hG, hb'⟩; have GW := Aside0.mk (hG.wide' (lo' := w2.heap.size) (hi' := w3.heap.size) (by simp) (Nat.le_refl _) (Nat.le_refl _) B2'.out.size); have S3 := Aside0.mk (Nat.le_trans (by simp : w2.heap.size ≤ _) hb'.size); have B3 := Aside0.mk (below_step (lq B2'.out) hb'); clear hG hb') | (go_at_call 19; clear T2; refine (toW_calls HLE.out HC.out hc HL.out (lq B3.out)).mono ?_; rintro e w4 ⟨X0, h0, rfl, hG, hb'⟩; have GX := Aside0.mk (hG.wide (lo' := w3.heap.size + 1) (hi' := w4.heap.size) (by simp) (Nat.le_refl _) (Nat.le_refl _) (Nat.le_succ_of_le B3.out.size)); have B4 := Aside0.mk (below_step (lq B3.out) hb'); have KW4 := Aside0.mk (blk_below (at1_0 (w := w3) (o0 := .cells #[.slice U0 (gnR L).length f0, .int .u32 (gnP L e0), .slice U2 (gnM L).length f2] 28)) hb'); have GW4 := Aside0.mk ((gq GW.out).below hb'); have nn5 : w3.heap.size ≠ w4.heap.size := Nat.ne_of_lt (blk_lt KW4.out); have ll5 : w3.heap.size < w4.heap.size := blk_lt KW4.out; clear hG hb'; have yw0 := kc KW4.out 0 rfl; have yw1 := kc KW4.out 1 rfl; have yw2 := kc KW4.out 2 rfl) | (go_at_call 23; clear T3; refine (implGN_calls e0 (wq GX.out) (lq B4.out) HW.out HL2.out).mono ?_; rintro e w5 ⟨G0, i0, G2, i2, rfl, hG, hb'⟩; have GG := Aside0.mk (hG.wide' (lo' := w4.heap.size) (hi' := w5.heap.size) (by simp) (Nat.le_refl _) (Nat.le_refl _) B4.out.size); have S5 := Aside0.mk (Nat.le_trans (by simp : w4.heap.size ≤ _) hb'.size); have B5 := Aside0.mk (below_step (lq B4.out) hb'); have KW5 := Aside0.mk (blk_below (bq KW4.out) hb'); have GW5 := Aside0.mk ((gq GW4.out).below hb'); have GX5 := Aside0.mk ((wq GX.out).below hb'); have nn7 : w3.heap.size ≠ w5.heap.size := Nat.ne_of_lt (blk_lt KW5.out); have ll7 : w3.heap.size < w5.heap.size := blk_lt KW5.out; clear hG hb' yw0 yw1 yw2; have yw0 := kc KW5.out 0 rfl; have yw1 := kc KW5.out 1 rfl; have yw2 := kc KW5.out 2 rfl) | (go_at_call 14; clear T4; have L5 : Lgn w (w5.alloc (.cells #[.slice G0 (gnR L).length i0, .int .u32 (gnP L e0), .slice G2 (gnM L).length i2] 28)) w3.heap.size w2.heap.size w3.heap.size (.slice U0 (gnR L).length f0) (.slice U2 (gnM L).length f2) (gnP L e0) (gnR L) (gnM L) (w3.heap.size + 1) w4.heap.size (.slice X0 L.length h0) L w5.heap.size w4.heap.size w5.heap.size (.slice G0 (gnR L).length i0) (.slice G2 (gnM L).length i2) (gnP L e0) (gnR L) (gnM L) := lgn_mk KW5.out GW5.out GX5.out GG.out B5.out S3.out (blk_lt KW4.out) S5.out; refine (eqGn_calls (gnP L e0) (gq L5.gg) (gq L5.gw) B0.out B2.out BB.out).mono ?_; rintro e w6 ⟨rfl, hb'⟩; have L6 := Aside0.mk ((lgq L5).below hb'); clear hb' L5; (try clear yw0 yw1 yw2); (try clear yg0 yg1 yg2); have yw0 := kc L6.out.kw 0 rfl; have yw1 := kc L6.out.kw 1 rfl; have yw2 := kc L6.out.kw 2 rfl; have yg0 := kc L6.out.kg 0 rfl; have yg1 := kc L6.out.kg 1 rfl; have yg2 := kc L6.out.kg 2 rfl) | (go_at_call 19; clear T5; refine (toW_calls HLE.out HC.out hc HL.out (lq L6.out.be)).mono ?_; rintro e w7 ⟨Y0, k0, rfl, hG, hb'⟩; have L7 := Aside0.mk ((lgq L6.out).below hb'); have GY := Aside0.mk hG; clear hG hb'; (try clear yw0 yw1 yw2); (try clear yg0 yg1 yg2); have yw0 := kc L7.out.kw 0 rfl; have yw1 := kc L7.out.kw 1 rfl; have yw2 := kc L7.out.kw 2 rfl; have yg0 := kc L7.out.kg 0 rfl; have yg1 := kc L7.out.kg 1 rfl; have yg2 := kc L7.out.kg 2 rfl) | (go_at_call 21; refine (eqW_calls (wq L7.out.gx) (wq GY.out) HL2.out).mono ?_; rintro e w8 ⟨rfl, hb'⟩; have L8 := Aside0.mk ((lgq L7.out).below hb'); clear hb'; (try clear yw0 yw1 yw2); (try clear yg0 yg1 yg2); have yw0 := kc L8.out.kw 0 rfl; have yw1 := kc L8.out.kw 1 rfl; have yw2 := kc L8.out.kw 2 rfl; have yg0 := kc L8.out.kg 0 rfl; have yg1 := kc L8.out.kg 1 rfl; have yg2 := kc L8.out.kg 2 rfl) | (go_at_call 24; refine (markW_calls w _ _ _ _ L (lq L8.out.be) (wq L8.out.gx) HL2.out).mono ?_; rintro e w9 ⟨rfl, hG, hF⟩; have L9 := Aside0.mk ((lgq L8.out).markX hG hF); clear hG hF; (try clear yw0 yw1 yw2); (try clear yg0 yg1 yg2); have yw0 := kc L9.out.kw 0 rfl; have yw1 := kc L9.out.kw 1 rfl; have yw2 := kc L9.out.kw 2 rfl; have yg0 := kc L9.out.kg 0 rfl; have yg1 := kc L9.out.kg 1 rfl; have yg2 := kc L9.out.kg 2 rfl) | (go_at_call 14; clear T7; refine (eqGn_calls (gnP L e0) (gq L9.out.gg) (gq L9.out.gw) B0.out B2.out BB.out).mono ?_; rintro e w10 ⟨rfl, hb'⟩; have L10 := Aside0.mk ((lgq L9.out).below hb'); clear hb'; (try clear yw0 yw1 yw2); (try clear yg0 yg1 yg2); have yw0 := kc L10.out.kw 0 rfl; have yw1 := kc L10.out.kw 1 rfl; have yw2 := kc L10.out.kw 2 rfl; have yg0 := kc L10.out.kg 0 rfl; have yg1 := kc L10.out.kg 1 rfl; have yg2 := kc L10.out.kg 2 rfl) | (go_at_call 15; refine (markG_calls w _ _ _ _ _ (gnR L) (gnP L e0) (gnM L) 1 (lq L10.out.be) (gq L10.out.gg) (by decide) HM.out).mono ?_; rintro e w11 ⟨rfl, hG, hF⟩; have L11 := Aside0.mk ((lgq L10.out).markG hG hF); clear hG hF; (try clear yw0 yw1 yw2); (try clear yg0 yg1 yg2); have yw0 := kc L11.out.kw 0 rfl; have yw1 := kc L11.out.kw 1 rfl; have yw2 := kc L11.out.kw 2 rfl; have yg0 := kc L11.out.kg 0 rfl; have yg1 := kc L11.out.kg 1 rfl; have yg2 := kc L11.out.kg 2 rfl) | (go_at_call 16; clear T9; refine (heldGn_calls (gnP L e0) (gq L11.out.gg) HM.out).mono ?_; rintro e w12 ⟨rfl, hb'⟩; have L12 := Aside0.mk ((lgq L11.out).below hb'); clear hb'; (try clear yw0 yw1 yw2); (try clear yg0 yg1 yg2); have yw0 := kc L12.out.kw 0 rfl; have yw1 := kc L12.out.kw 1 rfl; have yw2 := kc L12.out.kw 2 rfl; have yg0 := kc L12.out.kg 0 rfl; have yg1 := kc L12.out.kg 1 rfl; have yg2 := kc L12.out.kg 2 rfl) | (go_at_call 19; clear T10; refine (toW_calls HLE.out HC.out hc HL.out (lq L12.out.be)).mono ?_; rintro e w13 ⟨Z0, n0, rfl, hG, hb'⟩; have L13 := Aside0.mk ((lgq L12.out).below hb'); have GZ := Aside0.mk hG; clear hG hb'; (try clear yw0 yw1 yw2); (try clear yg0 yg1 yg2); have yw0 := kc L13.out.kw 0 rfl; have yw1 := kc L13.out.kw 1 rfl; have yw2 := kc L13.out.kw 2 rfl; have yg0 := kc L13.out.kg 0 rfl; have yg1 := kc L13.out.kg 1 rfl; have yg2 := kc L13.out.kg 2 rfl) | (go_at_call 23; clear T11; refine (implGN_calls e0 (wq GZ.out) (lq L13.out.be) HW.out HL2.out).mono ?_; rintro e w14 ⟨H0, o0, H2, o2, rfl, hG, hb'⟩; have L14 := Aside0.mk ((lgq L13.out).below hb'); have GH := Aside0.mk hG; clear hG hb'; have lw := blk_lt L14.out.kw; have lg := blk_lt L14.out.kg; have nw := Nat.ne_of_lt lw; have ng := Nat.ne_of_lt lg; (try clear yw0 yw1 yw2); (try clear yg0 yg1 yg2); have yw0 := kc L14.out.kw 0 rfl; have yw1 := kc L14.out.kw 1 rfl; have yw2 := kc L14.out.kw 2 rfl; have yg0 := kc L14.out.kg 0 rfl; have yg1 := kc L14.out.kg 1 rfl; have yg2 := kc L14.out.kg 2 rfl) | (go_at_call 14; clear T12; refine (eqGn_calls (gnP L e0) (gq GH.out) (gq L14.out.gw) B0.out B2.out BB.out).mono ?_; rintro e w15 ⟨rfl, hb'⟩; have L15 := Aside0.mk ((lgq L14.out).below hb'); clear hb'; (try clear yw0 yw1 yw2); (try clear yg0 yg1 yg2); have yw0 := kc L15.out.kw 0 rfl; have yw1 := kc L15.out.kw 1 rfl; have yw2 := kc L15.out.kw 2 rfl; have yg0 := kc L15.out.kg 0 rfl; have yg1 := kc L15.out.kg 1 rfl; have yg2 := kc L15.out.kg 2 rfl) | (go_at_call 16; refine (heldGn_calls (gnP L e0) (gq L15.out.gg) HM.out).mono ?_; rintro e w16 ⟨rfl, hb'⟩; have L16 := Aside0.mk ((lgq L15.out).below hb'); clear hb'; (try clear yw0 yw1 yw2); (try clear yg0 yg1 yg2); have yw0 := kc L16.out.kw 0 rfl; have yw1 := kc L16.out.kw 1 rfl; have yw2 := kc L16.out.kw 2 rfl; have yg0 := kc L16.out.kg 0 rfl; have yg1 := kc L16.out.kg 1 rfl; have yg2 := kc L16.out.kg 2 rfl))
  go_ret
  exact ⟨rfl, lq L16.out.be⟩
set_option maxHeartbeats 8000000 in
set_option maxRecDepth 100000 in
theorem lawGN_short (A : Option Addr) (c : Nat) (l : List S72) (e0 q : Int) (w : World) (hC : Kd.C k72 w A l.length l) (hc : l.length ≤ c) (hq : laws_szWindowS.f l 1048576 = some q) (h0 : q < 0) :
    Calls Try.prog 5 #[.slice A l.length c, .int .i64 e0] w fun e w' => e = .returned (.bool true) ∧ Below w.heap.size w w' := by
  have HC := Aside0.mk hC
  have HQ := Aside0.mk hq
  have q0 : decide (q < 0) = true := decide_eq_true h0
  clear hC hq
  go_enter Try.func5, Try.ntmps5
  go_wp2_with (go_at_call 17; refine (laws_szWindowS.calls A c l 1048576 q _ (cq HC.out) hc HQ.out).mono ?_; rintro e w1 ⟨rfl, hd⟩; have B1 := Aside0.mk (below_step (lq (Below.refl w.heap.size w) : Below w.heap.size w _) hd.below); clear hd)
  go_ret
  exact ⟨rfl, lq B1.out⟩
/-- What came in is plain data. -/
def GoodGN (l0 : List S72) : Prop := l0.length ≤ maxLen ∧ ∀ x ∈ l0.map toW, WfW x
open Classical in
noncomputable def laws_FnExactGuestNew.f (k : Nat) (l0 : List S72) (a1 : Int) : Option Bool := if GoodGN l0 then some true else none
theorem laws_FnExactGuestNew.calls (k : Nat) (A0 : Option Addr) (c0 : Nat) (l0 : List (S72)) (a1 : Int) (w : World) (hr0 : Kd.C k72 w A0 l0.length l0) (hc0 : l0.length ≤ c0) (h : laws_FnExactGuestNew.f k l0 a1 = some true) :
  Calls Try.prog 5 #[.slice A0 l0.length c0, .int .i64 a1] w fun e w' => e = .returned (.bool true) ∧ Below w.heap.size w w' := by
  have hG : GoodGN l0 := by
    unfold laws_FnExactGuestNew.f at h
    by_cases c : GoodGN l0
    · exact c
    · rw [if_neg c] at h; cases h
  obtain ⟨g0, g1⟩ := hG
  have hq := sz_w l0 g0 1048576 (by decide) (by decide)
  by_cases c : (1048576 : Int) < (l0.length : Int)
  · rw [if_pos c] at hq
    exact lawGN_short A0 c0 l0 a1 _ w hr0 hc0 hq (by decide)
  · rw [if_neg c] at hq
    exact lawGN_long A0 c0 l0 _ rfl a1 _ w hr0 hc0 hq (by omega) (by omega) g1
end Go.Proofs.Ytbcpkigeginmnaa.GF
