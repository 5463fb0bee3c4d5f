/- The law FnExactRegSet, walked by hand on its one path: the pure facts say what each call answers. -/
import Derived.Test.YtbcpkigeginmnaaGFx0
import Derived.Test.YtbcpkigeginmnaaGFx1
import Derived.Test.YtbcpkigeginmnaaGFx19
import Derived.Test.YtbcpkigeginmnaaGFx22
import Derived.Test.YtbcpkigeginmnaaGFx3
import Derived.Test.YtbcpkigeginmnaaGFx4
import Derived.Test.YtbcpkigeginmnaaAidFH
namespace Go.Proofs.Ytbcpkigeginmnaa.GF
open Go.RowKit Go.Proofs.YtbcpkigeginmnaaW.PrintWords Go.Proofs.YtbcpkigeginmnaaW.PrintLast Go.Proofs.YtbcpkigeginmnaaW.PrintMore Go.Proofs.Ytbcpkigeginmnaa.Q Go.Proofs.Ytbcpkigeginmnaa.Hnd Go.Proofs.Ytbcpkigeginmnaa.Lst
set_option linter.unusedVariables false
set_option linter.unusedSimpArgs false
/-- A guest that came in, as the law holds it. -/
structure Came (w : World) (A0 : Option Addr) (c0 : Nat) (r : List Int) (A2 : Option Addr) (c2 : Nat) (ram : List (List Int)) : Prop where
  r0 : Kd.C (Kd.int .u32) w A0 r.length r
  l0 : r.length ≤ c0
  r2 : Kd.C (Kd.slice 5 (Kd.int .u8)) w A2 ram.length ram
  l2 : ram.length ≤ c2
  b0 : r.length ≤ 9000000
  b2 : ram.length ≤ 9000000
  bb : ∀ x ∈ ram, x.length ≤ 9000000
theorem toG_calls {w W : World} {A0 : Option Addr} {c0 : Nat} {r : List Int} (p : Int) {A2 : Option Addr} {c2 : Nat} {ram : List (List Int)} (h : Came w A0 c0 r A2 c2 ram) (hB : Below w.heap.size w W) :
    Calls Try.prog 12 #[.agg #[.slice A0 r.length c0, .int .u32 p, .slice A2 ram.length c2]] W fun e w' => ∃ B0 d0 B2 d2, e = .returned (.agg #[.slice B0 r.length d0, .int .u32 p, .slice B2 ram.length d2]) ∧ Gst w w' W.heap.size w'.heap.size (.slice B0 r.length d0) (.slice B2 ram.length d2) r ram ∧ Below W.heap.size W w' :=
  (laws_toGuest.calls 30000000 A0 c0 r p A2 c2 ram r p ram W (Kd.C_below h.r0 hB) h.l0 (Kd.C_below h.r2 hB) h.l2 (AidFG.to_g r p ram h.b0 h.b2 h.bb 30000000 (by decide))).mono (fun e w' hh => by
    obtain ⟨v0, v2, rfl, hR, hS, hb⟩ := hh
    obtain ⟨B0, d0, rfl⟩ := Kd.R_slice hR
    obtain ⟨B2, d2, rfl⟩ := Kd.S_slice hS
    exact ⟨_, _, _, _, rfl, Gst.new hR hS hB, hb⟩)
theorem eqG_calls {w W : World} {l1 h1 l2 h2 : Nat} {u0 u2 v0 v2 : Value} {r : List Int} (p : Int) {ram : List (List Int)} (hu : Gst w W l1 h1 u0 u2 r ram) (hv : Gst w W l2 h2 v0 v2 r ram) (b0 : r.length ≤ 9000000) (b2 : ram.length ≤ 9000000) (bb : ∀ x ∈ ram, x.length ≤ 9000000) :
    Calls Try.prog 14 #[.agg #[u0, .int .u32 p, u2], .agg #[v0, .int .u32 p, v2]] W fun e w' => e = .returned (.bool true) ∧ Below W.heap.size W w' := by
  obtain ⟨A0, c0, A2, c2, rfl, rfl, q1, q2, q3, q4⟩ := hu.form
  obtain ⟨B0, d0, B2, d2, rfl, rfl, t1, t2, t3, t4⟩ := hv.form
  exact laws_eqGuest.calls 30000000 A0 c0 r p A2 c2 ram B0 d0 r p B2 d2 ram true W q3 q1 q4 q2 t3 t1 t4 t2 (AidFG.eq_g r p ram b0 b2 bb 30000000 (by decide))
theorem heldG_calls {w W : World} {l1 h1 : Nat} {u0 u2 : Value} {r : List Int} (p : Int) {ram : List (List Int)} (hu : Gst w W l1 h1 u0 u2 (marks (· % 4294967296) 1 r.length) (marksB (1 + (r.length : Int)) ram)) (hm : (1 : Int) + (r.length : Int) + (ram.length : Int) + (tot ram : Int) ≤ 9000000) :
    Calls Try.prog 16 #[.agg #[u0, .int .u32 p, u2], .int .i64 1] W fun e w' => e = .returned (.int .i64 (1 + (r.length : Int) + (tot ram : Int))) ∧ Below W.heap.size W w' := by
  obtain ⟨A0, c0, A2, c2, rfl, rfl, q1, q2, q3, q4⟩ := hu.form
  exact laws_heldGuest.calls 30000000 A0 c0 _ p A2 c2 _ 1 _ W q3 q1 q4 q2 (AidFH.held_g r p ram 1 (by decide) hm 30000000 (by decide))
theorem specRS_calls {w W : World} {l1 h1 : Nat} {u0 u2 : Value} {r : List Int} (p : Int) {ram : List (List Int)} (n x : Int) (hu : Gst w W l1 h1 u0 u2 r ram) (hB : Below w.heap.size w W) (b0 : r.length ≤ 9000000) (b2 : ram.length ≤ 9000000) (bb : ∀ x ∈ ram, x.length ≤ 9000000) :
    Calls Try.prog 11 #[.agg #[u0, .int .u32 p, u2], .int .i64 n, .int .u32 x] W fun e w' => ∃ B0 d0 B2 d2, e = .returned (.agg #[.slice B0 (regR r n x).length d0, .int .u32 (regP r n p), .slice B2 (regM r n ram).length d2]) ∧ Gst w w' W.heap.size w'.heap.size (.slice B0 (regR r n x).length d0) (.slice B2 (regM r n ram).length d2) (regR r n x) (regM r n ram) ∧ Below W.heap.size W w' := by
  obtain ⟨A0, c0, A2, c2, rfl, rfl, q1, q2, q3, q4⟩ := hu.form
  refine (spec_RegSet.calls 30000000 A0 c0 r p A2 c2 ram n x _ _ _ W q3 q1 q4 q2 (AidFH.regset_s r p ram n x b0 b2 bb 30000000 (by omega))).mono (fun e w' hh => ?_)
  obtain ⟨v0, v2, rfl, hR, hS, hb⟩ := hh
  obtain ⟨B0, d0, rfl⟩ := Kd.R_slice hR
  obtain ⟨B2, d2, rfl⟩ := Kd.S_slice hS
  exact ⟨_, _, _, _, rfl, Gst.new hR hS hB, hb⟩
theorem implRS_calls {w W : World} {l1 h1 : Nat} {u0 u2 : Value} {r : List Int} (p : Int) {ram : List (List Int)} (n x : Int) (hu : Gst w W l1 h1 u0 u2 r ram) (hB : Below w.heap.size w W) (b0 : r.length ≤ 9000000) (b2 : ram.length ≤ 9000000) (bb : ∀ x ∈ ram, x.length ≤ 9000000) :
    Calls Try.prog 13 #[.agg #[u0, .int .u32 p, u2], .int .i64 n, .int .u32 x] W fun e w' => ∃ B0 d0 B2 d2, e = .returned (.agg #[.slice B0 (regR r n x).length d0, .int .u32 (regP r n p), .slice B2 (regM r n ram).length d2]) ∧ Gst w w' W.heap.size w'.heap.size (.slice B0 (regR r n x).length d0) (.slice B2 (regM r n ram).length d2) (regR r n x) (regM r n ram) ∧ Below W.heap.size W w' := by
  obtain ⟨A0, c0, A2, c2, rfl, rfl, q1, q2, q3, q4⟩ := hu.form
  refine (regset_calls w W A0 c0 r p A2 c2 ram n x hB q3 q1 q4 q2 b0 b2 bb).mono (fun e w' hh => ?_)
  obtain ⟨v0, v2, rfl, hG, hb⟩ := hh
  obtain ⟨B0, d0, B2, d2, rfl, rfl, _, _, _, _⟩ := hG.form
  exact ⟨_, _, _, _, rfl, hG, hb⟩
/-- What the law holds: its argument's box, and the boxes and guests of the reference's answer (w), of what was handed in (x), of the program's answer (g). -/
structure Law3 (w W : World) (ca : Array Value) (bW lw hw : Nat) (u0 u2 : Value) (pw : Int) (rw_ : List Int) (mw : List (List Int)) (bX lx hx : Nat) (x0 x2 : Value) (px : Int) (rx : List Int) (mx : List (List Int)) (bG lg hg : Nat) (g0 g2 : Value) (pg : Int) (rg : List Int) (mg : List (List Int)) : Prop where
  ka : W.heap[w.heap.size]? = some (.cells ca 26 (0, 0))
  kw : W.heap[bW]? = some (.cells #[u0, .int .u32 pw, u2] 28 (0, 0))
  kx : W.heap[bX]? = some (.cells #[x0, .int .u32 px, x2] 28 (0, 0))
  kg : W.heap[bG]? = some (.cells #[g0, .int .u32 pg, g2] 28 (0, 0))
  gw : Gst w W lw hw u0 u2 rw_ mw
  gx : Gst w W lx hx x0 x2 rx mx
  gg : Gst w W lg hg g0 g2 rg mg
  be : Below w.heap.size w W
  o1 : w.heap.size < lw
  o2 : hw ≤ bW
  o3 : bW < lx
  o4 : hx ≤ bX
  o5 : bX < lg
  o6 : hg ≤ bG
  p1 : lw ≤ hw
  p2 : lx ≤ hx
  p3 : lg ≤ hg
section
variable {w W W' : World} {ca : Array Value} {bW lw hw bX lx hx bG lg hg : Nat} {u0 u2 x0 x2 g0 g2 : Value} {pw px pg : Int} {rw_ rx rg rx' rg' : List Int} {mw mx mg mx' mg' : List (List Int)}
theorem Law3.below (h : Law3 w W ca bW lw hw u0 u2 pw rw_ mw bX lx hx x0 x2 px rx mx bG lg hg g0 g2 pg rg mg) (hb : Below W.heap.size W W') : Law3 w W' ca bW lw hw u0 u2 pw rw_ mw bX lx hx x0 x2 px rx mx bG lg hg g0 g2 pg rg mg :=
  ⟨blk_below h.ka hb, blk_below h.kw hb, blk_below h.kx hb, blk_below h.kg hb, h.gw.below hb, h.gx.below hb, h.gg.below hb, below_step h.be hb, h.o1, h.o2, h.o3, h.o4, h.o5, h.o6, h.p1, h.p2, h.p3⟩
theorem l3q (h : Law3 w W ca bW lw hw u0 u2 pw rw_ mw bX lx hx x0 x2 px rx mx bG lg hg g0 g2 pg rg mg) [q : Quiet W W'] : Law3 w W' ca bW lw hw u0 u2 pw rw_ mw bX lx hx x0 x2 px rx mx bG lg hg g0 g2 pg rg mg := h.below q.go
theorem Law3.markX (h : Law3 w W ca bW lw hw u0 u2 pw rw_ mw bX lx hx x0 x2 px rx mx bG lg hg g0 g2 pg rg mg) (hG : Gst w W' lx hx x0 x2 rx' mx') (f : Fr (fun k => lx ≤ k ∧ k < hx) W W') : Law3 w W' ca bW lw hw u0 u2 pw rw_ mw bX lx hx x0 x2 px rx' mx' bG lg hg g0 g2 pg rg mg := by
  have a1 := h.o1; have a2 := h.o2; have a3 := h.o3; have a4 := h.o4; have a5 := h.o5; have a6 := h.o6; have a7 := h.gx.ge; have a8 := h.gw.ge; have b1 := h.p1; have b2 := h.p2; have b3 := h.p3
  exact ⟨f.blk h.ka (fun k => by omega), f.blk h.kw (fun k => by omega), f.blk h.kx (fun k => by omega), f.blk h.kg (fun k => by omega), h.gw.fr f (fun k h1 h2 h3 => by omega), hG, h.gg.fr f (fun k h1 h2 h3 => by omega),
    h.be.trans (f.below (fun i hi => by omega) h.be.size), h.o1, h.o2, h.o3, h.o4, h.o5, h.o6, h.p1, h.p2, h.p3⟩
theorem Law3.markG (h : Law3 w W ca bW lw hw u0 u2 pw rw_ mw bX lx hx x0 x2 px rx mx bG lg hg g0 g2 pg rg mg) (hG : Gst w W' lg hg g0 g2 rg' mg') (f : Fr (fun k => lg ≤ k ∧ k < hg) W W') : Law3 w W' ca bW lw hw u0 u2 pw rw_ mw bX lx hx x0 x2 px rx mx bG lg hg g0 g2 pg rg' mg' := by
  have a1 := h.o1; have a2 := h.o2; have a3 := h.o3; have a4 := h.o4; have a5 := h.o5; have a6 := h.o6; have a7 := h.gx.ge; have a8 := h.gw.ge; have b1 := h.p1; have b2 := h.p2; have b3 := h.p3
  exact ⟨f.blk h.ka (fun k => by omega), f.blk h.kw (fun k => by omega), f.blk h.kx (fun k => by omega), f.blk h.kg (fun k => by omega), h.gw.fr f (fun k h1 h2 h3 => by omega), h.gx.fr f (fun k h1 h2 h3 => by omega), hG,
    h.be.trans (f.below (fun i hi => by omega) h.be.size), h.o1, h.o2, h.o3, h.o4, h.o5, h.o6, h.p1, h.p2, h.p3⟩
end
theorem reg_bb {r : List Int} {n : Int} {ram : List (List Int)} (h : ∀ x ∈ ram, x.length ≤ 9000000) : ∀ x ∈ regM r n ram, x.length ≤ 9000000 := by
  unfold regM
  split
  · exact h
  · simp
theorem law3_mk {w w2 w3 w4 w5 : World} {ca : Array Value} {u0 u2 x0 x2 g0 g2 : Value} {pw px pg : Int} {rw_ rx rg : List Int} {mw mx mg : List (List Int)}
    (ka : w5.heap[w.heap.size]? = some (.cells ca 26 (0, 0))) (kw : w5.heap[w3.heap.size]? = some (.cells #[u0, .int .u32 pw, u2] 28 (0, 0))) (kx : w5.heap[w4.heap.size]? = some (.cells #[x0, .int .u32 px, x2] 28 (0, 0)))
    (gw : Gst w w5 w2.heap.size w3.heap.size u0 u2 rw_ mw) (gx : Gst w w5 (w3.heap.size + 1) w4.heap.size x0 x2 rx mx) (gg : Gst w w5 (w4.heap.size + 1) w5.heap.size g0 g2 rg mg) (be : Below w.heap.size w w5)
    (s2 : w.heap.size < w2.heap.size) (s3 : w2.heap.size ≤ w3.heap.size) (s4 : w3.heap.size < w4.heap.size) (s5 : w4.heap.size < w5.heap.size) :
    Law3 w (w5.alloc (.cells #[g0, .int .u32 pg, g2] 28)) ca w3.heap.size w2.heap.size w3.heap.size u0 u2 pw rw_ mw w4.heap.size (w3.heap.size + 1) w4.heap.size x0 x2 px rx mx w5.heap.size (w4.heap.size + 1) w5.heap.size g0 g2 pg rg mg :=
  ⟨bq ka, bq kw, bq kx, at1_0, gq gw, gq gx, gq gg, lq be, s2, Nat.le_refl _, Nat.lt_succ_self _, Nat.le_refl _, Nat.lt_succ_self _, Nat.le_refl _, s3, s4, s5⟩
set_option maxHeartbeats 16000000 in
set_option maxRecDepth 100000 in
theorem lawRS_long (A0 : Option Addr) (c0 : Nat) (r : List Int) (p : Int) (A2 : Option Addr) (c2 : Nat) (ram : List (List Int)) (n x q : Int) (w : World) (hc : Came w A0 c0 r A2 c2 ram) (hq : laws_szGuest.f 30000000 r p ram 1048576 = some q) (h0 : 0 ≤ q) (hm : (1 : Int) + (r.length : Int) + (ram.length : Int) + (tot ram : Int) ≤ 9000000) :
    Calls Try.prog 3 #[.agg #[.slice A0 r.length c0, .int .u32 p, .slice A2 ram.length c2], .int .i64 n, .int .u32 x] w fun e w' => e = .returned (.bool true) ∧ Below w.heap.size w w' := by
  have hu26 := Try.underlying26
  have hu28 := Try.underlying28
  have HC := Aside0.mk hc
  have HQ := Aside0.mk hq
  have HM := Aside0.mk hm
  have q0 : decide (q < 0) = false := decide_eq_false (by omega)
  clear hc hq hm
  have T1 := Aside0.mk trivial
  have T2 := Aside0.mk trivial
  have T3 := Aside0.mk trivial
  have T4 := Aside0.mk trivial
  have T6 := Aside0.mk trivial
  have T7 := Aside0.mk trivial
  have T8 := Aside0.mk trivial
  have T9 := Aside0.mk trivial
  have T10 := Aside0.mk trivial
  have T11 := Aside0.mk trivial
  have T12 := Aside0.mk trivial
  have HM1 : Aside0 ((1 : Int) + ((regR r n x).length : Int) + ((regM r n ram).length : Int) + (tot (regM r n ram) : Int) ≤ 9000000) := ⟨by have := AidFH.reg_len r n x; have := AidFH.reg_ram r n ram; have := HM.out; omega⟩
  have k0 : decide ((1 : Int) + (r.length : Int) + (tot ram : Int) < 0) = false := decide_eq_false (by omega)
  have m0 : decide ((1 : Int) + ((regR r n x).length : Int) + (tot (regM r n ram) : Int) < 0) = false := decide_eq_false (by omega)
  go_enter Try.func3, Try.ntmps3
  go_wp2_with (first | (go_at_call 10; refine (laws_szGuest.calls 30000000 A0 c0 r p A2 c2 ram 1048576 q _ (cq HC.out.r0) HC.out.l0 (cq HC.out.r2) HC.out.l2 HQ.out).mono ?_; rintro e w1 ⟨rfl, hb'⟩; have B1 := Aside0.mk (below_step (below_alloc (Below.refl _ w) _) hb'); have K1 := Aside0.mk (blk_below (at1_0 (w := w) (o0 := .cells #[.slice A0 r.length c0, .int .u32 p, .slice A2 ram.length c2] 26)) hb'); clear hb'; have ya0 := kc K1.out 0 rfl; have ya1 := kc K1.out 1 rfl; have ya2 := kc K1.out 2 rfl) | (go_at_call 12; clear T1; refine (toG_calls p HC.out (lq B1.out)).mono ?_; rintro e w2 ⟨E0, j0, E2, j2, rfl, hG, hb'⟩; have GA := Aside0.mk hG; have B2 := Aside0.mk (below_step (lq B1.out) hb'); have K2 := Aside0.mk (blk_below (bq K1.out) hb'); clear hG hb' ya0 ya1 ya2; have ya0 := kc K2.out 0 rfl; have ya1 := kc K2.out 1 rfl; have ya2 := kc K2.out 2 rfl) | (go_at_call 11; refine (specRS_calls p n x (gq GA.out) (lq B2.out) HC.out.b0 HC.out.b2 HC.out.bb).mono ?_; rintro e w3 ⟨U0, f0, U2, f2, rfl, hG, hb'⟩; have GW := Aside0.mk (hG.wide (lo' := w2.heap.size) (hi' := w3.heap.size) (by simp) (Nat.le_refl _) (Nat.le_refl _) B2.out.size); have S3 := Aside0.mk (Nat.le_trans (by simp : w2.heap.size ≤ _) hb'.size); have B3 := Aside0.mk (below_step (lq B2.out) hb'); have K3 := Aside0.mk (blk_below (bq K2.out) hb'); have nn3 : w.heap.size ≠ w3.heap.size := Nat.ne_of_lt (blk_lt K3.out); have ll3 : w.heap.size < w3.heap.size := blk_lt K3.out; clear hG hb' ya0 ya1 ya2; have ya0 := kc K3.out 0 rfl; have ya1 := kc K3.out 1 rfl; have ya2 := kc K3.out 2 rfl) | (go_at_call 12; clear T2; refine (toG_calls p HC.out (lq B3.out)).mono ?_; rintro e w4 ⟨X0, h0, X2, h2, rfl, hG, hb'⟩; have GX := Aside0.mk (hG.wide (lo' := w3.heap.size + 1) (hi' := w4.heap.size) (by simp) (Nat.le_refl _) (Nat.le_refl _) (Nat.le_succ_of_le B3.out.size)); have B4 := Aside0.mk (below_step (lq B3.out) hb'); have K4 := Aside0.mk (blk_below (bq K3.out) hb'); have KW4 := Aside0.mk (blk_below (at1_0 (w := w3) (o0 := .cells #[.slice U0 (regR r n x).length f0, .int .u32 (regP r n p), .slice U2 (regM r n ram).length f2] 28)) hb'); have GW4 := Aside0.mk ((gq GW.out).below hb'); have nn4 : w.heap.size ≠ w4.heap.size := Nat.ne_of_lt (blk_lt K4.out); have ll4 : w.heap.size < w4.heap.size := blk_lt K4.out; have nn5 : w3.heap.size ≠ w4.heap.size := Nat.ne_of_lt (blk_lt KW4.out); have ll5 : w3.heap.size < w4.heap.size := blk_lt KW4.out; clear hG hb' ya0 ya1 ya2; have ya0 := kc K4.out 0 rfl; have ya1 := kc K4.out 1 rfl; have ya2 := kc K4.out 2 rfl; have yw0 := kc KW4.out 0 rfl; have yw1 := kc KW4.out 1 rfl; have yw2 := kc KW4.out 2 rfl) | (go_at_call 13; clear T3; refine (implRS_calls p n x (gq GX.out) (lq B4.out) HC.out.b0 HC.out.b2 HC.out.bb).mono ?_; rintro e w5 ⟨G0, i0, G2, i2, rfl, hG, hb'⟩; have GG := Aside0.mk (hG.wide (lo' := w4.heap.size + 1) (hi' := w5.heap.size) (by simp) (Nat.le_refl _) (Nat.le_refl _) (Nat.le_succ_of_le B4.out.size)); have B5 := Aside0.mk (below_step (lq B4.out) hb'); have K5 := Aside0.mk (blk_below (bq K4.out) hb'); have KW5 := Aside0.mk (blk_below (bq KW4.out) hb'); have KX5 := Aside0.mk (blk_below (at1_0 (w := w4) (o0 := .cells #[.slice X0 r.length h0, .int .u32 p, .slice X2 ram.length h2] 28)) hb'); have GW5 := Aside0.mk ((gq GW4.out).below hb'); have GX5 := Aside0.mk ((gq GX.out).below hb'); have nn6 : w.heap.size ≠ w5.heap.size := Nat.ne_of_lt (blk_lt K5.out); have ll6 : w.heap.size < w5.heap.size := blk_lt K5.out; have nn7 : w3.heap.size ≠ w5.heap.size := Nat.ne_of_lt (blk_lt KW5.out); have ll7 : w3.heap.size < w5.heap.size := blk_lt KW5.out; have nn8 : w4.heap.size ≠ w5.heap.size := Nat.ne_of_lt (blk_lt KX5.out); have ll8 : w4.heap.size < w5.heap.size := blk_lt KX5.out; clear hG hb' ya0 ya1 ya2 yw0 yw1 yw2; have ya0 := kc K5.out 0 rfl; have ya1 := kc K5.out 1 rfl; have ya2 := kc K5.out 2 rfl; have yw0 := kc KW5.out 0 rfl; have yw1 := kc KW5.out 1 rfl; have yw2 := kc KW5.out 2 rfl; have yx0 := kc KX5.out 0 rfl; have yx1 := kc KX5.out 1 rfl; have yx2 := kc KX5.out 2 rfl) | (go_at_call 14; clear T4; have L5 : Law3 w (w5.alloc (.cells #[.slice G0 (regR r n x).length i0, .int .u32 (regP r n p), .slice G2 (regM r n ram).length i2] 28)) #[.slice A0 r.length c0, .int .u32 p, .slice A2 ram.length c2] w3.heap.size w2.heap.size w3.heap.size (.slice U0 (regR r n x).length f0) (.slice U2 (regM r n ram).length f2) (regP r n p) (regR r n x) (regM r n ram) w4.heap.size (w3.heap.size + 1) w4.heap.size (.slice X0 r.length h0) (.slice X2 ram.length h2) p r ram w5.heap.size (w4.heap.size + 1) w5.heap.size (.slice G0 (regR r n x).length i0) (.slice G2 (regM r n ram).length i2) (regP r n p) (regR r n x) (regM r n ram) := law3_mk K5.out KW5.out KX5.out GW5.out GX5.out GG.out B5.out (blk_lt K2.out) S3.out (blk_lt KW4.out) (blk_lt KX5.out); refine (eqG_calls (regP r n p) (gq L5.gg) (gq L5.gw) (Nat.le_trans (AidFH.reg_len r n x) HC.out.b0) (Nat.le_trans (AidFH.reg_ram r n ram).1 HC.out.b2) (reg_bb HC.out.bb)).mono ?_; rintro e w6 ⟨rfl, hb'⟩; have L6 := Aside0.mk ((l3q L5).below hb'); clear hb' L5; (try clear ya0 ya1 ya2); (try clear yw0 yw1 yw2); (try clear yx0 yx1 yx2); (try clear yg0 yg1 yg2); have ya0 := kc L6.out.ka 0 rfl; have ya1 := kc L6.out.ka 1 rfl; have ya2 := kc L6.out.ka 2 rfl; have yw0 := kc L6.out.kw 0 rfl; have yw1 := kc L6.out.kw 1 rfl; have yw2 := kc L6.out.kw 2 rfl; have yx0 := kc L6.out.kx 0 rfl; have yx1 := kc L6.out.kx 1 rfl; have yx2 := kc L6.out.kx 2 rfl; have yg0 := kc L6.out.kg 0 rfl; have yg1 := kc L6.out.kg 1 rfl; have yg2 := kc L6.out.kg 2 rfl))
  go_region_held3 (fun w' => w'.cell? ⟨w4.heap.size, 0, none⟩ = some (.slice X0 r.length h0) ∧ w'.cell? ⟨w4.heap.size, 1, none⟩ = some (.int .u32 p) ∧ w'.cell? ⟨w4.heap.size, 2, none⟩ = some (.slice X2 ram.length h2) ∧ w'.cell? ⟨w.heap.size, 0, none⟩ = some (.slice A0 r.length c0) ∧ w'.cell? ⟨w.heap.size, 1, none⟩ = some (.int .u32 p) ∧ w'.cell? ⟨w.heap.size, 2, none⟩ = some (.slice A2 ram.length c2)) (go_keep)
    ((first | (go_at_call 12; refine (toG_calls p HC.out (lq L6.out.be)).mono ?_; rintro e w7 ⟨Y0, k0, Y2, k2, rfl, hG, hb'⟩; have L7 := Aside0.mk ((l3q L6.out).below hb'); have GY := Aside0.mk hG; clear hG hb'; have z0 := kc L7.out.kx 0 rfl; have z1 := kc L7.out.kx 1 rfl; have z2 := kc L7.out.kx 2 rfl; have z3 := kc L7.out.ka 0 rfl; have z4 := kc L7.out.ka 1 rfl; have z5 := kc L7.out.ka 2 rfl) | (go_at_call 14; refine (eqG_calls p (gq L7.out.gx) (gq GY.out) HC.out.b0 HC.out.b2 HC.out.bb).mono ?_; rintro e w8 ⟨rfl, hb'⟩; have L8 := Aside0.mk ((l3q L7.out).below hb'); clear hb'; have z0 := kc L8.out.kx 0 rfl; have z1 := kc L8.out.kx 1 rfl; have z2 := kc L8.out.kx 2 rfl; have z3 := kc L8.out.ka 0 rfl; have z4 := kc L8.out.ka 1 rfl; have z5 := kc L8.out.ka 2 rfl)))
  (try clear ya0 ya1 ya2)
  (try clear yw0 yw1 yw2)
  (try clear yx0 yx1 yx2)
  (try clear yg0 yg1 yg2)
  have ya0 := kc L8.out.ka 0 rfl
  have ya1 := kc L8.out.ka 1 rfl
  have ya2 := kc L8.out.ka 2 rfl
  have yw0 := kc L8.out.kw 0 rfl
  have yw1 := kc L8.out.kw 1 rfl
  have yw2 := kc L8.out.kw 2 rfl
  have yx0 := kc L8.out.kx 0 rfl
  have yx1 := kc L8.out.kx 1 rfl
  have yx2 := kc L8.out.kx 2 rfl
  have yg0 := kc L8.out.kg 0 rfl
  have yg1 := kc L8.out.kg 1 rfl
  have yg2 := kc L8.out.kg 2 rfl
  go_wp2_with (first | (go_at_call 15; clear T6; refine (markG_calls w _ _ _ _ _ r p ram 1 (lq L8.out.be) (gq L8.out.gx) (by decide) HM.out).mono ?_; rintro e w9 ⟨rfl, hG, hF⟩; have L9 := Aside0.mk ((l3q L8.out).markX hG hF); clear hG hF; (try clear ya0 ya1 ya2); (try clear yw0 yw1 yw2); (try clear yx0 yx1 yx2); (try clear yg0 yg1 yg2); have ya0 := kc L9.out.ka 0 rfl; have ya1 := kc L9.out.ka 1 rfl; have ya2 := kc L9.out.ka 2 rfl; have yw0 := kc L9.out.kw 0 rfl; have yw1 := kc L9.out.kw 1 rfl; have yw2 := kc L9.out.kw 2 rfl; have yx0 := kc L9.out.kx 0 rfl; have yx1 := kc L9.out.kx 1 rfl; have yx2 := kc L9.out.kx 2 rfl; have yg0 := kc L9.out.kg 0 rfl; have yg1 := kc L9.out.kg 1 rfl; have yg2 := kc L9.out.kg 2 rfl) | (go_at_call 14; clear T7; refine (eqG_calls (regP r n p) (gq L9.out.gg) (gq L9.out.gw) (Nat.le_trans (AidFH.reg_len r n x) HC.out.b0) (Nat.le_trans (AidFH.reg_ram r n ram).1 HC.out.b2) (reg_bb HC.out.bb)).mono ?_; rintro e w10 ⟨rfl, hb'⟩; have L10 := Aside0.mk ((l3q L9.out).below hb'); clear hb'; (try clear ya0 ya1 ya2); (try clear yw0 yw1 yw2); (try clear yx0 yx1 yx2); (try clear yg0 yg1 yg2); have ya0 := kc L10.out.ka 0 rfl; have ya1 := kc L10.out.ka 1 rfl; have ya2 := kc L10.out.ka 2 rfl; have yw0 := kc L10.out.kw 0 rfl; have yw1 := kc L10.out.kw 1 rfl; have yw2 := kc L10.out.kw 2 rfl; have yx0 := kc L10.out.kx 0 rfl; have yx1 := kc L10.out.kx 1 rfl; have yx2 := kc L10.out.kx 2 rfl; have yg0 := kc L10.out.kg 0 rfl; have yg1 := kc L10.out.kg 1 rfl; have yg2 := kc L10.out.kg 2 rfl) | (go_at_call 15; clear T8; refine (markG_calls w _ _ _ _ _ (regR r n x) (regP r n p) (regM r n ram) 1 (lq L10.out.be) (gq L10.out.gg) (by decide) HM1.out).mono ?_; rintro e w11 ⟨rfl, hG, hF⟩; have L11 := Aside0.mk ((l3q L10.out).markG hG hF); clear hG hF; (try clear ya0 ya1 ya2); (try clear yw0 yw1 yw2); (try clear yx0 yx1 yx2); (try clear yg0 yg1 yg2); have ya0 := kc L11.out.ka 0 rfl; have ya1 := kc L11.out.ka 1 rfl; have ya2 := kc L11.out.ka 2 rfl; have yw0 := kc L11.out.kw 0 rfl; have yw1 := kc L11.out.kw 1 rfl; have yw2 := kc L11.out.kw 2 rfl; have yx0 := kc L11.out.kx 0 rfl; have yx1 := kc L11.out.kx 1 rfl; have yx2 := kc L11.out.kx 2 rfl; have yg0 := kc L11.out.kg 0 rfl; have yg1 := kc L11.out.kg 1 rfl; have yg2 := kc L11.out.kg 2 rfl) | (go_at_call 16; clear T9; refine (heldG_calls (regP r n p) (gq L11.out.gg) HM1.out).mono ?_; rintro e w12 ⟨rfl, hb'⟩; have L12 := Aside0.mk ((l3q L11.out).below hb'); clear hb'; (try clear ya0 ya1 ya2); (try clear yw0 yw1 yw2); (try clear yx0 yx1 yx2); (try clear yg0 yg1 yg2); have ya0 := kc L12.out.ka 0 rfl; have ya1 := kc L12.out.ka 1 rfl; have ya2 := kc L12.out.ka 2 rfl; have yw0 := kc L12.out.kw 0 rfl; have yw1 := kc L12.out.kw 1 rfl; have yw2 := kc L12.out.kw 2 rfl; have yx0 := kc L12.out.kx 0 rfl; have yx1 := kc L12.out.kx 1 rfl; have yx2 := kc L12.out.kx 2 rfl; have yg0 := kc L12.out.kg 0 rfl; have yg1 := kc L12.out.kg 1 rfl; have yg2 := kc L12.out.kg 2 rfl) | (go_at_call 12; clear T10; refine (toG_calls p HC.out (lq L12.out.be)).mono ?_; rintro e w13 ⟨Z0, n0, Z2, n2, rfl, hG, hb'⟩; have L13 := Aside0.mk ((l3q L12.out).below hb'); have GZ := Aside0.mk hG; clear hG hb'; (try clear ya0 ya1 ya2); (try clear yw0 yw1 yw2); (try clear yx0 yx1 yx2); (try clear yg0 yg1 yg2); have ya0 := kc L13.out.ka 0 rfl; have ya1 := kc L13.out.ka 1 rfl; have ya2 := kc L13.out.ka 2 rfl; have yw0 := kc L13.out.kw 0 rfl; have yw1 := kc L13.out.kw 1 rfl; have yw2 := kc L13.out.kw 2 rfl; have yx0 := kc L13.out.kx 0 rfl; have yx1 := kc L13.out.kx 1 rfl; have yx2 := kc L13.out.kx 2 rfl; have yg0 := kc L13.out.kg 0 rfl; have yg1 := kc L13.out.kg 1 rfl; have yg2 := kc L13.out.kg 2 rfl) | (go_at_call 13; clear T11; refine (implRS_calls p n x (gq GZ.out) (lq L13.out.be) HC.out.b0 HC.out.b2 HC.out.bb).mono ?_; rintro e w14 ⟨H0, o0, H2, o2, rfl, hG, hb'⟩; have L14 := Aside0.mk ((l3q L13.out).below hb'); have GH := Aside0.mk hG; clear hG hb'; have la := blk_lt L14.out.ka; have lw := blk_lt L14.out.kw; have lx := blk_lt L14.out.kx; have lg := blk_lt L14.out.kg; have na := Nat.ne_of_lt la; have nw := Nat.ne_of_lt lw; have nx := Nat.ne_of_lt lx; have ng := Nat.ne_of_lt lg; (try clear ya0 ya1 ya2); (try clear yw0 yw1 yw2); (try clear yx0 yx1 yx2); (try clear yg0 yg1 yg2); have ya0 := kc L14.out.ka 0 rfl; have ya1 := kc L14.out.ka 1 rfl; have ya2 := kc L14.out.ka 2 rfl; have yw0 := kc L14.out.kw 0 rfl; have yw1 := kc L14.out.kw 1 rfl; have yw2 := kc L14.out.kw 2 rfl; have yx0 := kc L14.out.kx 0 rfl; have yx1 := kc L14.out.kx 1 rfl; have yx2 := kc L14.out.kx 2 rfl; have yg0 := kc L14.out.kg 0 rfl; have yg1 := kc L14.out.kg 1 rfl; have yg2 := kc L14.out.kg 2 rfl) | (go_at_call 14; clear T12; refine (eqG_calls (regP r n p) (gq GH.out) (gq L14.out.gw) (Nat.le_trans (AidFH.reg_len r n x) HC.out.b0) (Nat.le_trans (AidFH.reg_ram r n ram).1 HC.out.b2) (reg_bb HC.out.bb)).mono ?_; rintro e w15 ⟨rfl, hb'⟩; have L15 := Aside0.mk ((l3q L14.out).below hb'); clear hb'; (try clear ya0 ya1 ya2); (try clear yw0 yw1 yw2); (try clear yx0 yx1 yx2); (try clear yg0 yg1 yg2); have ya0 := kc L15.out.ka 0 rfl; have ya1 := kc L15.out.ka 1 rfl; have ya2 := kc L15.out.ka 2 rfl; have yw0 := kc L15.out.kw 0 rfl; have yw1 := kc L15.out.kw 1 rfl; have yw2 := kc L15.out.kw 2 rfl; have yx0 := kc L15.out.kx 0 rfl; have yx1 := kc L15.out.kx 1 rfl; have yx2 := kc L15.out.kx 2 rfl; have yg0 := kc L15.out.kg 0 rfl; have yg1 := kc L15.out.kg 1 rfl; have yg2 := kc L15.out.kg 2 rfl) | (go_at_call 16; refine (heldG_calls (regP r n p) (gq L15.out.gg) HM1.out).mono ?_; rintro e w16 ⟨rfl, hb'⟩; have L16 := Aside0.mk ((l3q L15.out).below hb'); clear hb'; (try clear ya0 ya1 ya2); (try clear yw0 yw1 yw2); (try clear yx0 yx1 yx2); (try clear yg0 yg1 yg2); have ya0 := kc L16.out.ka 0 rfl; have ya1 := kc L16.out.ka 1 rfl; have ya2 := kc L16.out.ka 2 rfl; have yw0 := kc L16.out.kw 0 rfl; have yw1 := kc L16.out.kw 1 rfl; have yw2 := kc L16.out.kw 2 rfl; have yx0 := kc L16.out.kx 0 rfl; have yx1 := kc L16.out.kx 1 rfl; have yx2 := kc L16.out.kx 2 rfl; have yg0 := kc L16.out.kg 0 rfl; have yg1 := kc L16.out.kg 1 rfl; have yg2 := kc L16.out.kg 2 rfl))
  go_ret
  exact ⟨rfl, lq L16.out.be⟩
set_option maxHeartbeats 8000000 in
set_option maxRecDepth 100000 in
theorem lawRS_short (A0 : Option Addr) (c0 : Nat) (r : List Int) (p : Int) (A2 : Option Addr) (c2 : Nat) (ram : List (List Int)) (n x q : Int) (w : World) (r0 : Kd.C (Kd.int .u32) w A0 r.length r) (l0 : r.length ≤ c0) (r2 : Kd.C (Kd.slice 5 (Kd.int .u8)) w A2 ram.length ram) (l2 : ram.length ≤ c2) (hq : laws_szGuest.f 30000000 r p ram 1048576 = some q) (h0 : q < 0) :
    Calls Try.prog 3 #[.agg #[.slice A0 r.length c0, .int .u32 p, .slice A2 ram.length c2], .int .i64 n, .int .u32 x] w fun e w' => e = .returned (.bool true) ∧ Below w.heap.size w w' := by
  have hu26 := Try.underlying26
  have R0 := Aside0.mk r0
  have R2 := Aside0.mk r2
  have HQ := Aside0.mk hq
  have C0 := Aside0.mk l0
  have C2 := Aside0.mk l2
  have q0 : decide (q < 0) = true := decide_eq_true h0
  clear r0 r2 hq l0 l2
  go_enter Try.func3, Try.ntmps3
  go_wp2_with (go_at_call 10; refine (laws_szGuest.calls 30000000 A0 c0 r p A2 c2 ram 1048576 q _ (cq R0.out) C0.out (cq R2.out) C2.out HQ.out).mono ?_; rintro e w1 ⟨rfl, hb'⟩; have B1 := Aside0.mk (below_step (below_alloc (Below.refl _ w) _) hb'); clear hb')
  go_ret
  exact ⟨rfl, lq B1.out⟩
/-- What came in is plain data. -/
def GoodRS (l0_0 : List Int) (l0_2 : List (List Int)) : Prop := l0_0.length ≤ maxLen ∧ l0_2.length ≤ maxLen ∧ ∀ x ∈ l0_2, x.length ≤ maxLen
open Classical in
noncomputable def laws_FnExactRegSet.f (k : Nat) (l0_0 : List Int) (a0_1 : Int) (l0_2 : List (List Int)) (a1 a2 : Int) : Option Bool := if GoodRS l0_0 l0_2 then some true else none
theorem laws_FnExactRegSet.calls (k : Nat) (A0_0 : Option Addr) (c0_0 : Nat) (l0_0 : List Int) (a0_1 : Int) (A0_2 : Option Addr) (c0_2 : Nat) (l0_2 : List (List Int)) (a1 : Int) (a2 : Int) (w : World) (hr0_0 : Kd.C (Kd.int .u32) w A0_0 l0_0.length l0_0) (hc0_0 : l0_0.length ≤ c0_0) (hr0_2 : Kd.C (Kd.slice 5 (Kd.int .u8)) w A0_2 l0_2.length l0_2) (hc0_2 : l0_2.length ≤ c0_2) (h : laws_FnExactRegSet.f k l0_0 a0_1 l0_2 a1 a2 = some true) :
  Calls Try.prog 3 #[.agg #[.slice A0_0 l0_0.length c0_0, .int .u32 a0_1, .slice A0_2 l0_2.length c0_2], .int .i64 a1, .int .u32 a2] w fun e w' => e = .returned (.bool true) ∧ Below w.heap.size w w' := by
  have hG : GoodRS l0_0 l0_2 := by
    unfold laws_FnExactRegSet.f at h
    by_cases c : GoodRS l0_0 l0_2
    · exact c
    · rw [if_neg c] at h; cases h
  obtain ⟨g0, g2, gb⟩ := hG
  obtain ⟨q, hq, hq2⟩ := AidFG.sz_g l0_0 a0_1 l0_2 g0 g2 gb 1048576 (by decide) (by decide) 30000000 (by decide)
  by_cases c : q < 0
  · exact lawRS_short A0_0 c0_0 l0_0 a0_1 A0_2 c0_2 l0_2 a1 a2 q w hr0_0 hc0_0 hr0_2 hc0_2 hq c
  · have hb := hq2.resolve_left c
    rw [AidFH.tot_eq] at hb
    exact lawRS_long A0_0 c0_0 l0_0 a0_1 A0_2 c0_2 l0_2 a1 a2 q w ⟨hr0_0, hc0_0, hr0_2, hc0_2, by omega, by omega, fun x hx => by have := AidFH.tot_mem hx; omega⟩ hq (by omega) (by omega)
end Go.Proofs.Ytbcpkigeginmnaa.GF
