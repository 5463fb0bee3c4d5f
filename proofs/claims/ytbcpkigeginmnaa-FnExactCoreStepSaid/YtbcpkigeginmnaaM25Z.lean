/- Plain laws of an access: what both answer of it. No program in sight. -/
import Derived.Test.YtbcpkigeginmnaaM24Z
import Derived.Test.YtbcpkigeginmnaaM16Z
import Derived.Deep.RegionHeld3
import Derived.Deep.DeepCutAuto
import Derived.Test.YtbcpkigeginmnaaM3Z
import Derived.Test.YtbcpkigeginmnaaM13Z
import Derived.Test.YtbcpkigeginmnaaM20Z
import Derived.Test.YtbcpkigeginmnaaM19Z
set_option linter.unusedVariables false
set_option linter.unusedSimpArgs false
section
namespace Go.Proofs.Ytbcpkigeginmnaa.GF
open Go.RowKit Go.Proofs.YtbcpkigeginmnaaW.PrintWords Go.Proofs.YtbcpkigeginmnaaW.PrintLast Go.Proofs.YtbcpkigeginmnaaW.PrintMore Go.Proofs.Ytbcpkigeginmnaa.Q Go.Proofs.Ytbcpkigeginmnaa.Hnd Go.Proofs.Ytbcpkigeginmnaa.Lst Go.Proofs.Ytbcpkigeginmnaa.AidFW
inductive StpF (K : Nat) (l : List S70) (r : List Int) (p : Int) (ram : List (List Int)) (cy : Int) : List Int → Int → List (List Int) → Int → Int → Int → Bool → Bool → Prop
  | bad (hs : spec_GuestOk.f K l r p ram = some false) (hi : impl_isGuest.f K l r p ram = some false) : StpF K l r p ram cy [] 0 [] 9 (-1) (-1) false false
  | ok {R : List Int} {P : Int} {M : List (List Int)} {fa op tc : Int} {wr ca : Bool} (hs : spec_GuestOk.f K l r p ram = some true) (hi : impl_isGuest.f K l r p ram = some true) (hc : CoreC l r p ram cy R P M fa op tc wr ca) (ht : StsC l r p ram cy R P M fa op tc wr ca) : StpF K l r p ram cy R P M fa op tc wr ca
section
variable {K : Nat} {l : List S70} {r : List Int} {p : Int} {ram : List (List Int)} {cy : Int} {R : List Int} {P : Int} {M : List (List Int)} {fa op tc : Int} {wr ca : Bool} {w W : World} {l1 h1 l2 h2 : Nat} {yv u0 u2 v0 v2 : Value}
theorem StpPost.open_ {e : Ending} {w' : World} (h : StpPost w W R P M fa op tc wr ca e w') : ∃ B0 d0 B2 d2, e = .returned (.agg #[.slice B0 R.length d0, .int .u32 P, .slice B2 M.length d2, .int .i64 fa, .int .i64 op, .int .i64 tc, .bool wr, .bool ca]) ∧ Gst w w' W.heap.size w'.heap.size (.slice B0 R.length d0) (.slice B2 M.length d2) R M ∧ Below W.heap.size W w' := by
  obtain ⟨v0, v2, rfl, hG, hb⟩ := h
  obtain ⟨B0, d0, B2, d2, rfl, rfl, _, _, _, _⟩ := hG.form
  exact ⟨B0, d0, B2, d2, rfl, hG, hb⟩
theorem came_ofS (hw : Wst w W l1 h1 yv l) (hg : Gst w W l2 h2 u0 u2 r ram) (be : Below w.heap.size w W) (b0 : r.length ≤ 9000000) (b2 : ram.length ≤ 9000000) (bb : ∀ x ∈ ram, x.length ≤ 9000000) :
    ∃ A c A0 c0 A2 c2, yv = .slice A l.length c ∧ u0 = .slice A0 r.length c0 ∧ u2 = .slice A2 ram.length c2 ∧ CameP w W A c l A0 c0 r A2 c2 ram := by
  obtain ⟨A, c, rfl, q1, q2⟩ := hw.form
  obtain ⟨A0, c0, A2, c2, rfl, rfl, t1, t2, t3, t4⟩ := hg.form
  exact ⟨A, c, A0, c0, A2, c2, rfl, rfl, rfl, q2, q1, t3, t1, t4, t2, b0, b2, bb, be⟩
theorem specP_calls (hP : StpF K l r p ram cy R P M fa op tc wr ca) (hw : Wst w W l1 h1 yv l) (hg : Gst w W l2 h2 u0 u2 r ram) (be : Below w.heap.size w W) (b0 : r.length ≤ 9000000) (b2 : ram.length ≤ 9000000) (bb : ∀ x ∈ ram, x.length ≤ 9000000) :
    Calls Try.prog 31 #[yv, .agg #[u0, .int .u32 p, u2], .int .i64 cy] W fun e w' => ∃ B0 d0 B2 d2, e = .returned (.agg #[.slice B0 R.length d0, .int .u32 P, .slice B2 M.length d2, .int .i64 fa, .int .i64 op, .int .i64 tc, .bool wr, .bool ca]) ∧ Gst w w' W.heap.size w'.heap.size (.slice B0 R.length d0) (.slice B2 M.length d2) R M ∧ Below W.heap.size W w' := by
  obtain ⟨A, c, A0, c0, A2, c2, rfl, rfl, rfl, hc⟩ := came_ofS hw hg be b0 b2 bb
  cases hP with
  | bad hs hi => exact (specStep_bad hc cy hs).mono (fun e w' h => h.open_)
  | ok hs hi hcc ht => exact (specStep_ok hc cy hs _ _ _ _ _ _ _ _ ht).mono (fun e w' h => h.open_)
theorem implP_calls (hP : StpF K l r p ram cy R P M fa op tc wr ca) (hw : Wst w W l1 h1 yv l) (hg : Gst w W l2 h2 u0 u2 r ram) (be : Below w.heap.size w W) (b0 : r.length ≤ 9000000) (b2 : ram.length ≤ 9000000) (bb : ∀ x ∈ ram, x.length ≤ 9000000) :
    Calls Try.prog 32 #[yv, .agg #[u0, .int .u32 p, u2], .int .i64 cy] W fun e w' => ∃ B0 d0 B2 d2, e = .returned (.agg #[.slice B0 R.length d0, .int .u32 P, .slice B2 M.length d2, .int .i64 fa, .int .i64 op, .int .i64 tc, .bool wr, .bool ca]) ∧ Gst w w' W.heap.size w'.heap.size (.slice B0 R.length d0) (.slice B2 M.length d2) R M ∧ Below W.heap.size W w' := by
  obtain ⟨A, c, A0, c0, A2, c2, rfl, rfl, rfl, hc⟩ := came_ofS hw hg be b0 b2 bb
  cases hP with
  | bad hs hi => exact (implStep_bad hc cy hi).mono (fun e w' h => h.open_)
  | ok hs hi hcc ht => exact (implStep_ok hc cy hi _ _ _ _ _ _ _ _ hcc).mono (fun e w' h => h.open_)
set_option maxHeartbeats 2000000 in
set_option maxRecDepth 100000 in
theorem eqS_calls (p fa op tc : Int) (wr ca : Bool) (hu : Gst w W l1 h1 u0 u2 r ram) (hv : Gst w W l2 h2 v0 v2 r ram) (b0 : r.length ≤ 9000000) (b2 : ram.length ≤ 9000000) (bb : ∀ x ∈ ram, x.length ≤ 9000000) :
    Calls Try.prog 33 #[.agg #[u0, .int .u32 p, u2, .int .i64 fa, .int .i64 op, .int .i64 tc, .bool wr, .bool ca], .agg #[v0, .int .u32 p, v2, .int .i64 fa, .int .i64 op, .int .i64 tc, .bool wr, .bool ca]] W fun e w' => e = .returned (.bool true) ∧ Below W.heap.size W w' := by
  have hu28 := Try.underlying28
  have hu52 := Try.underlying52
  obtain ⟨A0, c0, rfl⟩ := Kd.R_slice hu.r0
  obtain ⟨A2, c2, rfl⟩ := Kd.S_slice hu.r2
  obtain ⟨B0, d0, rfl⟩ := Kd.R_slice hv.r0
  obtain ⟨B2, d2, rfl⟩ := Kd.S_slice hv.r2
  have HU := Aside0.mk hu
  have HV := Aside0.mk hv
  have HB := Aside0.mk bb
  have e1 : (fa != fa) = false := by simp
  have e2 : (op != op) = false := by simp
  have e3 : (tc != tc) = false := by simp
  have e4 : (wr != wr) = false := by simp
  have e5 : (ca != ca) = false := by simp
  clear hu hv bb
  go_enter Try.func33, Try.ntmps33
  go_wp2_with (go_at_call 14; refine (eqG_calls p (gq HU.out) (gq HV.out) b0 b2 HB.out).mono ?_; rintro e w1 ⟨rfl, hb'⟩; have B1 := Aside0.mk (below_step (Quiet.go : Below W.heap.size W _) hb'); have K0 := Aside0.mk (blk_below (at2_0 (w := W) (o0 := .cells #[.slice A0 r.length c0, .int .u32 p, .slice A2 ram.length c2, .int .i64 fa, .int .i64 op, .int .i64 tc, .bool wr, .bool ca] 52) (o1 := .cells #[.slice B0 r.length d0, .int .u32 p, .slice B2 ram.length d2, .int .i64 fa, .int .i64 op, .int .i64 tc, .bool wr, .bool ca] 52)) hb'); have K1 := Aside0.mk (blk_below (at2_1 (w := W) (o0 := .cells #[.slice A0 r.length c0, .int .u32 p, .slice A2 ram.length c2, .int .i64 fa, .int .i64 op, .int .i64 tc, .bool wr, .bool ca] 52) (o1 := .cells #[.slice B0 r.length d0, .int .u32 p, .slice B2 ram.length d2, .int .i64 fa, .int .i64 op, .int .i64 tc, .bool wr, .bool ca] 52)) hb'); clear hb'; have a3 := kc K0.out 3 rfl; have b3 := kc K1.out 3 rfl; have a4 := kc K0.out 4 rfl; have b4 := kc K1.out 4 rfl; have a5 := kc K0.out 5 rfl; have b5 := kc K1.out 5 rfl; have a6 := kc K0.out 6 rfl; have b6 := kc K1.out 6 rfl; have a7 := kc K0.out 7 rfl; have b7 := kc K1.out 7 rfl)
  go_ret
  exact ⟨rfl, lq B1.out⟩
set_option maxHeartbeats 2000000 in
set_option maxRecDepth 100000 in
theorem heldS_calls (p fa op tc : Int) (wr ca : Bool) (hu : Gst w W l1 h1 u0 u2 (marks (· % 4294967296) 1 r.length) (marksB (1 + (r.length : Int)) ram)) (hm : (1 : Int) + (r.length : Int) + (ram.length : Int) + (tot ram : Int) ≤ 9000000) :
    Calls Try.prog 35 #[.agg #[u0, .int .u32 p, u2, .int .i64 fa, .int .i64 op, .int .i64 tc, .bool wr, .bool ca], .int .i64 1] W fun e w' => e = .returned (.int .i64 (1 + (r.length : Int) + (tot ram : Int))) ∧ Below W.heap.size W w' := by
  have hu28 := Try.underlying28
  have hu52 := Try.underlying52
  obtain ⟨A0, c0, h0⟩ := Kd.R_slice hu.r0
  obtain ⟨A2, c2, h2⟩ := Kd.S_slice hu.r2
  subst h0
  subst h2
  have HU := Aside0.mk hu
  have HM := Aside0.mk hm
  have e1 : decide ((1 : Int) + (r.length : Int) + (tot ram : Int) < 0) = false := decide_eq_false (by omega)
  clear hu hm
  go_enter Try.func35, Try.ntmps35
  go_wp2_with (go_at_call 16; refine (heldG_calls p (gq HU.out) HM.out).mono ?_; rintro e w1 ⟨rfl, hb'⟩; have B1 := Aside0.mk (below_step (Quiet.go : Below W.heap.size W _) hb'); clear hb')
  go_ret
  exact ⟨rfl, lq B1.out⟩
end
set_option maxHeartbeats 2000000 in
set_option maxRecDepth 100000 in
theorem markS_calls (w0 W : World) (lo hi : Nat) (v0 v2 : Value) (r : List Int) (p : Int) (ram : List (List Int)) (fa op tc : Int) (wr ca : Bool) (m : Int) (hB : Below w0.heap.size w0 W) (hG : Gst w0 W lo hi v0 v2 r ram) (h0 : 0 ≤ m) (hm : m + (r.length : Int) + (ram.length : Int) + (tot ram : Int) ≤ 9000000) :
    Calls Try.prog 34 #[.agg #[v0, .int .u32 p, v2, .int .i64 fa, .int .i64 op, .int .i64 tc, .bool wr, .bool ca], .int .i64 m] W fun e w' => e = .returned (.int .i64 (m + (r.length : Int) + (tot ram : Int))) ∧ Gst w0 w' lo hi v0 v2 (marks (· % 4294967296) m r.length) (marksB (m + (r.length : Int)) ram) ∧ Fr (fun k => lo ≤ k ∧ k < hi) W w' := by
  have hu28 := Try.underlying28
  have hu52 := Try.underlying52
  obtain ⟨A0, c0, rfl⟩ := Kd.R_slice hG.r0
  obtain ⟨A2, c2, rfl⟩ := Kd.S_slice hG.r2
  have HG := Aside0.mk hG
  have HB := Aside0.mk hB
  have HM := Aside0.mk hm
  have H0 := Aside0.mk h0
  clear hG hB hm
  go_enter Try.func34, Try.ntmps34
  go_wp2_with (go_at_call 15; refine (markG_calls w0 _ lo hi _ _ r p ram m (lq HB.out) (gq HG.out) H0.out HM.out).mono ?_; rintro e w1 ⟨rfl, hG, hF⟩; have G1 := Aside0.mk hG; have F1 := Aside0.mk (((Fr.refl _ W).alloc _).trans hF (fun k hk => .inl hk)); clear hG hF)
  go_ret
  exact ⟨rfl, G1.out, F1.out⟩
end Go.Proofs.Ytbcpkigeginmnaa.GF
end
section
namespace Go.Proofs.Ytbcpkigeginmnaa.GF
open Go.RowKit Go.Proofs.YtbcpkigeginmnaaW.PrintWords Go.Proofs.YtbcpkigeginmnaaW.PrintLast Go.Proofs.YtbcpkigeginmnaaW.PrintMore Go.Proofs.Ytbcpkigeginmnaa.Q Go.Proofs.Ytbcpkigeginmnaa.Hnd Go.Proofs.Ytbcpkigeginmnaa.Lst Go.Proofs.Ytbcpkigeginmnaa.AidFW
structure P8 (w W : World) (ca cw : Array Value) (tw bW lw hw : Nat) (u0 u2 : Value) (R : List Int) (M : List (List Int)) : Prop where
  ka : W.heap[w.heap.size]? = some (.cells ca 26 (0, 0))
  kw : W.heap[bW]? = some (.cells cw tw (0, 0))
  gw : Gst w W lw hw u0 u2 R M
  be : Below w.heap.size w W
  n1 : w.heap.size < lw
  n2 : w.heap.size < bW
structure LawP (w W : World) (ca cw : Array Value) (tw bW lw hw : Nat) (u0 u2 : Value) (rw_ : List Int) (mw : List (List Int)) (ly hy : Nat) (yv : Value) (ys : List S70) (cx : Array Value) (bX lx hx : Nat) (x0 x2 : Value) (rx : List Int) (mx : List (List Int)) (cg : Array Value) (bG lg hg : Nat) (g0 g2 : Value) (rg : List Int) (mg : List (List Int)) : Prop where
  ka : W.heap[w.heap.size]? = some (.cells ca 26 (0, 0))
  kw : W.heap[bW]? = some (.cells cw tw (0, 0))
  kx : W.heap[bX]? = some (.cells cx 28 (0, 0))
  kg : W.heap[bG]? = some (.cells cg tw (0, 0))
  gw : Gst w W lw hw u0 u2 rw_ mw
  gy : Wst w W ly hy yv ys
  gx : Gst w W lx hx x0 x2 rx mx
  gg : Gst w W lg hg g0 g2 rg mg
  be : Below w.heap.size w W
  n1 : w.heap.size < ly
  n2 : bW < ly
  n3 : hw ≤ ly
  n4 : hy ≤ lx
  n5 : hx ≤ bX
  n6 : bX < lg
  n7 : hg ≤ bG
  p1 : ly ≤ hy
  p2 : lx ≤ hx
  p3 : lg ≤ hg
section
variable {w W W' : World} {ca cw cx cg : Array Value} {tw bW lw hw ly hy bX lx hx bG lg hg : Nat} {u0 u2 yv x0 x2 g0 g2 : Value} {rw_ rx rg rx' rg' : List Int} {mw mx mg mx' mg' : List (List Int)} {ys ys' : List S70}
theorem LawP.below (h : LawP w W ca cw tw bW lw hw u0 u2 rw_ mw ly hy yv ys cx bX lx hx x0 x2 rx mx cg bG lg hg g0 g2 rg mg) (hb : Below W.heap.size W W') : LawP w W' ca cw tw bW lw hw u0 u2 rw_ mw ly hy yv ys cx bX lx hx x0 x2 rx mx cg bG lg hg g0 g2 rg mg :=
  ⟨blk_below h.ka hb, blk_below h.kw hb, blk_below h.kx hb, blk_below h.kg hb, h.gw.below hb, h.gy.below hb, h.gx.below hb, h.gg.below hb, below_step h.be hb, h.n1, h.n2, h.n3, h.n4, h.n5, h.n6, h.n7, h.p1, h.p2, h.p3⟩
theorem lpq (h : LawP w W ca cw tw bW lw hw u0 u2 rw_ mw ly hy yv ys cx bX lx hx x0 x2 rx mx cg bG lg hg g0 g2 rg mg) [q : Quiet W W'] : LawP w W' ca cw tw bW lw hw u0 u2 rw_ mw ly hy yv ys cx bX lx hx x0 x2 rx mx cg bG lg hg g0 g2 rg mg := h.below q.go
theorem LawP.markY (h : LawP w W ca cw tw bW lw hw u0 u2 rw_ mw ly hy yv ys cx bX lx hx x0 x2 rx mx cg bG lg hg g0 g2 rg mg) (hG : Wst w W' ly hy yv ys') (f : Fr (fun k => ly ≤ k ∧ k < hy) W W') : LawP w W' ca cw tw bW lw hw u0 u2 rw_ mw ly hy yv ys' cx bX lx hx x0 x2 rx mx cg bG lg hg g0 g2 rg mg := by
  have a1 := h.n1; have a2 := h.n2; have a3 := h.n3; have a4 := h.n4; have a5 := h.n5; have a6 := h.n6; have a7 := h.n7; have a8 := h.gy.ge; have b1 := h.p1; have b2 := h.p2; have b3 := h.p3
  exact ⟨f.blk h.ka (fun k => by omega), f.blk h.kw (fun k => by omega), f.blk h.kx (fun k => by omega), f.blk h.kg (fun k => by omega), h.gw.fr f (fun k h1 h2 h3 => by omega), hG, h.gx.fr f (fun k h1 h2 h3 => by omega), h.gg.fr f (fun k h1 h2 h3 => by omega), h.be.trans (f.below (fun i hi => by omega) h.be.size), h.n1, h.n2, h.n3, h.n4, h.n5, h.n6, h.n7, h.p1, h.p2, h.p3⟩
theorem LawP.markX (h : LawP w W ca cw tw bW lw hw u0 u2 rw_ mw ly hy yv ys cx bX lx hx x0 x2 rx mx cg bG lg hg g0 g2 rg mg) (hG : Gst w W' lx hx x0 x2 rx' mx') (f : Fr (fun k => lx ≤ k ∧ k < hx) W W') : LawP w W' ca cw tw bW lw hw u0 u2 rw_ mw ly hy yv ys cx bX lx hx x0 x2 rx' mx' cg bG lg hg g0 g2 rg mg := by
  have a1 := h.n1; have a2 := h.n2; have a3 := h.n3; have a4 := h.n4; have a5 := h.n5; have a6 := h.n6; have a7 := h.n7; have a8 := h.gx.ge; have b1 := h.p1; have b2 := h.p2; have b3 := h.p3
  exact ⟨f.blk h.ka (fun k => by omega), f.blk h.kw (fun k => by omega), f.blk h.kx (fun k => by omega), f.blk h.kg (fun k => by omega), h.gw.fr f (fun k h1 h2 h3 => by omega), h.gy.fr f (fun k h1 h2 h3 => by omega), hG, h.gg.fr f (fun k h1 h2 h3 => by omega), h.be.trans (f.below (fun i hi => by omega) h.be.size), h.n1, h.n2, h.n3, h.n4, h.n5, h.n6, h.n7, h.p1, h.p2, h.p3⟩
theorem LawP.markG (h : LawP w W ca cw tw bW lw hw u0 u2 rw_ mw ly hy yv ys cx bX lx hx x0 x2 rx mx cg bG lg hg g0 g2 rg mg) (hG : Gst w W' lg hg g0 g2 rg' mg') (f : Fr (fun k => lg ≤ k ∧ k < hg) W W') : LawP w W' ca cw tw bW lw hw u0 u2 rw_ mw ly hy yv ys cx bX lx hx x0 x2 rx mx cg bG lg hg g0 g2 rg' mg' := by
  have a1 := h.n1; have a2 := h.n2; have a3 := h.n3; have a4 := h.n4; have a5 := h.n5; have a6 := h.n6; have a7 := h.n7; have a8 := h.gg.ge; have b1 := h.p1; have b2 := h.p2; have b3 := h.p3
  exact ⟨f.blk h.ka (fun k => by omega), f.blk h.kw (fun k => by omega), f.blk h.kx (fun k => by omega), f.blk h.kg (fun k => by omega), h.gw.fr f (fun k h1 h2 h3 => by omega), h.gy.fr f (fun k h1 h2 h3 => by omega), h.gx.fr f (fun k h1 h2 h3 => by omega), hG, h.be.trans (f.below (fun i hi => by omega) h.be.size), h.n1, h.n2, h.n3, h.n4, h.n5, h.n6, h.n7, h.p1, h.p2, h.p3⟩
theorem LawP.put_ {b : Nat} (h : LawP w W ca cw tw bW lw hw u0 u2 rw_ mw ly hy yv ys cx bX lx hx x0 x2 rx mx cg bG lg hg g0 g2 rg mg) (f : Fr (fun k => k = b) W W') (hb : bG < b) : LawP w W' ca cw tw bW lw hw u0 u2 rw_ mw ly hy yv ys cx bX lx hx x0 x2 rx mx cg bG lg hg g0 g2 rg mg := by
  have a1 := h.n1; have a2 := h.n2; have a3 := h.n3; have a4 := h.n4; have a5 := h.n5; have a6 := h.n6; have a7 := h.n7; have b1 := h.p1; have b2 := h.p2; have b3 := h.p3
  exact ⟨f.blk h.ka (by omega), f.blk h.kw (by omega), f.blk h.kx (by omega), f.blk h.kg (by omega), h.gw.fr f (fun k h1 h2 h3 => by omega), h.gy.fr f (fun k h1 h2 h3 => by omega), h.gx.fr f (fun k h1 h2 h3 => by omega), h.gg.fr f (fun k h1 h2 h3 => by omega), h.be.trans (f.below (fun i hi => by omega) h.be.size), h.n1, h.n2, h.n3, h.n4, h.n5, h.n6, h.n7, h.p1, h.p2, h.p3⟩
theorem LawP.put8 {b : Nat} {c0 c1 c2 c3 c4 c5 c6 c7 : Value} (h : LawP w W ca cw tw bW lw hw u0 u2 rw_ mw ly hy yv ys cx bX lx hx x0 x2 rx mx cg bG lg hg g0 g2 rg mg) (hb : bG < b) : LawP w ((((((((W.setCell ⟨b, 0, none⟩ c0).setCell ⟨b, 1, none⟩ c1).setCell ⟨b, 2, none⟩ c2).setCell ⟨b, 3, none⟩ c3).setCell ⟨b, 4, none⟩ c4).setCell ⟨b, 5, none⟩ c5).setCell ⟨b, 6, none⟩ c6).setCell ⟨b, 7, none⟩ c7) ca cw tw bW lw hw u0 u2 rw_ mw ly hy yv ys cx bX lx hx x0 x2 rx mx cg bG lg hg g0 g2 rg mg :=
  h.put_ (Fr.put8 (S := fun k => k = b) (Fr.refl _ W) (.inl rfl) c0 c1 c2 c3 c4 c5 c6 c7) hb
theorem LawP.mk_ {wc w6 w7 w8 : World} (h : P8 w wc ca cw tw bW lw hw u0 u2 rw_ mw) (b6 : Below wc.heap.size wc w6) (gy : Wst w w6 wc.heap.size w6.heap.size yv ys) (b7 : Below w6.heap.size w6 w7) (gx : Gst w w7 w6.heap.size w7.heap.size x0 x2 rx mx)
    (b8 : Below (w7.alloc (.cells cx 28)).heap.size (w7.alloc (.cells cx 28)) w8) (gg : Gst w w8 (w7.alloc (.cells cx 28)).heap.size w8.heap.size g0 g2 rg mg) :
    LawP w (w8.alloc (.cells cg tw)) ca cw tw bW lw hw u0 u2 rw_ mw wc.heap.size w6.heap.size yv ys cx w7.heap.size w6.heap.size w7.heap.size x0 x2 rx mx cg w8.heap.size (w7.heap.size + 1) w8.heap.size g0 g2 rg mg := by
  have e1 : (w7.alloc (.cells cx 28)).heap.size = w7.heap.size + 1 := by simp
  have s6 := b6.size
  have s7 := b7.size
  have s8 := b8.size
  have b67 := below_step b6 b7
  have b68 := below_step (below_alloc b67 (.cells cx 28)) b8
  rw [e1] at gg s8
  have l1 := blk_lt h.ka
  have l2 := blk_lt h.kw
  have l3 := h.gw.le
  exact ⟨bq (blk_below h.ka b68), bq (blk_below h.kw b68), bq (blk_below at1_0 b8), at1_0, gq (h.gw.below b68), wq (gy.below (below_step (below_alloc b7 (.cells cx 28)) b8)), gq (gx.below (below_step (below_alloc (Below.refl _ _) (.cells cx 28)) b8)), gq gg, lq (below_step h.be b68), l1, l2, l3, Nat.le_refl _, Nat.le_refl _, Nat.lt_succ_self _, Nat.le_refl _, s6, s7, s8⟩
end
set_option maxHeartbeats 2000000 in
theorem P8.mk_put {w w5 : World} {ca : Array Value} {b lw hw : Nat} {u0 u2 c0 c1 c2 c3 c4 c5 c6 c7 : Value} {R : List Int} {M : List (List Int)} (ka : w5.heap[w.heap.size]? = some (.cells ca 26 (0, 0))) (kz : w5.heap[b]? = some (.cells #[.slice none 0 0, .int .u32 0, .slice none 0 0, .int .i64 0, .int .i64 0, .int .i64 0, .bool false, .bool false] 52 (0, 0))) (gw : Gst w w5 lw hw u0 u2 R M) (be : Below w.heap.size w w5) (n1 : w.heap.size < b) (n2 : b < lw) :
    P8 w ((((((((w5.setCell ⟨b, 0, none⟩ c0).setCell ⟨b, 1, none⟩ c1).setCell ⟨b, 2, none⟩ c2).setCell ⟨b, 3, none⟩ c3).setCell ⟨b, 4, none⟩ c4).setCell ⟨b, 5, none⟩ c5).setCell ⟨b, 6, none⟩ c6).setCell ⟨b, 7, none⟩ c7) ca #[c0, c1, c2, c3, c4, c5, c6, c7] 52 b lw hw u0 u2 R M := by
  have F := Fr.put8 (S := fun k => k = b) (Fr.refl _ w5) (g := b) (.inl rfl) c0 c1 c2 c3 c4 c5 c6 c7
  exact ⟨F.blk ka (by omega), blk_put (blk_put (blk_put (blk_put (blk_put (blk_put (blk_put (blk_put kz 0 _ rfl) 1 _ rfl) 2 _ rfl) 3 _ rfl) 4 _ rfl) 5 _ rfl) 6 _ rfl) 7 _ rfl, gw.fr F (fun k h1 h2 h3 => by omega), be.trans (F.below (fun i hi => by omega) be.size), by omega, n1⟩
theorem P8.mk_new {w w5 : World} {ca cw : Array Value} {tw lw hw : Nat} {u0 u2 : Value} {R : List Int} {M : List (List Int)} (ka : w5.heap[w.heap.size]? = some (.cells ca 26 (0, 0))) (gw : Gst w w5 lw hw u0 u2 R M) (be : Below w.heap.size w w5) (n1 : w.heap.size < lw) :
    P8 w (w5.alloc (.cells cw tw)) ca cw tw w5.heap.size lw hw u0 u2 R M :=
  ⟨bq ka, at1_0, gq gw, lq be, n1, blk_lt ka⟩
set_option maxHeartbeats 16000000 in
set_option maxRecDepth 100000 in
theorem lawCS_long (K : Nat) (A : Option Addr) (c : Nat) (l : List S72) (L : List S70) (hL : L = l.map toW) (A0 : Option Addr) (c0 : Nat) (r : List Int) (p : Int) (A2 : Option Addr) (c2 : Nat) (ram : List (List Int)) (cy q1 q2 : Int) (R : List Int) (P : Int) (M : List (List Int)) (fa op tc : Int) (wr ca : Bool) (w : World)
    (hC : Kd.C k72 w A l.length l) (hc : l.length ≤ c) (hl : l.length ≤ 2000000) (hcame : Came w A0 c0 r A2 c2 ram) (hq1 : laws_szWindowS.f l 1048576 = some q1) (h1 : 0 ≤ q1) (hq2 : laws_szGuest.f 30000000 r p ram q1 = some q2) (h2 : 0 ≤ q2)
    (hP : StpF K L r p ram cy R P M fa op tc wr ca) (hm : (r.length : Int) + (ram.length : Int) + (tot ram : Int) ≤ 2000000) (hm2 : (R.length : Int) + (M.length : Int) + (tot M : Int) ≤ 2000000) :
    Calls Try.prog 9 #[.slice A l.length c, .agg #[.slice A0 r.length c0, .int .u32 p, .slice A2 ram.length c2], .int .i64 cy] w fun e w' => e = .returned (.bool true) ∧ Below w.heap.size w w' := by
  have hu26 := Try.underlying26
  have hu28 := Try.underlying28
  have HC := Aside0.mk hC
  have HL := Aside0.mk (show l.length ≤ 9000000 by omega)
  have HL2 : Aside0 (L.length ≤ 9000000) := ⟨by rw [hL, List.length_map]; omega⟩
  have HLE := Aside0.mk hL
  have HG := Aside0.mk hcame
  have HQ1 := Aside0.mk hq1
  have HQ2 := Aside0.mk hq2
  have HP := Aside0.mk hP
  have B0R : Aside0 (R.length ≤ 9000000) := ⟨by omega⟩
  have B2R : Aside0 (M.length ≤ 9000000) := ⟨by omega⟩
  have BBR : Aside0 (∀ x ∈ M, x.length ≤ 9000000) := ⟨fun x hx => by have := AidFH.tot_mem hx; omega⟩
  have HM3 : Aside0 ((1 + ((3 : Nat) : Int) * (L.length : Int)) + (r.length : Int) + (ram.length : Int) + (tot ram : Int) ≤ 9000000) := ⟨by rw [hL, List.length_map]; omega⟩
  have HM4 : Aside0 ((0 : Int) ≤ 1 + ((3 : Nat) : Int) * (L.length : Int)) := ⟨by omega⟩
  have HM1 : Aside0 ((1 : Int) + (R.length : Int) + (M.length : Int) + (tot M : Int) ≤ 9000000) := ⟨by omega⟩
  have HM2 := Aside0.mk hm2
  have HLI := Aside0.mk hl
  have q10 : decide (q1 < 0) = false := decide_eq_false (by omega)
  have q20 : decide (q2 < 0) = false := decide_eq_false (by omega)
  clear hC hq1 hq2 hcame hP hL
  go_enter Try.func9, Try.ntmps9
  go_upto_region 8 with (first | (go_at_call 17; refine (laws_szWindowS.calls A c l 1048576 q1 _ (cq HC.out) hc HQ1.out).mono ?_; rintro e w1 ⟨rfl, hd⟩; have B1 := Aside0.mk (below_step (lq (Below.refl w.heap.size w) : Below w.heap.size w _) hd.below); have K1 := Aside0.mk (blk_below (at1_0 (w := w) (o0 := .cells #[.slice A0 r.length c0, .int .u32 p, .slice A2 ram.length c2] 26)) hd.below); clear hd; have ya0 := kc K1.out 0 rfl; have ya1 := kc K1.out 1 rfl; have ya2 := kc K1.out 2 rfl) | (go_at_call 10; refine (laws_szGuest.calls 30000000 A0 c0 r p A2 c2 ram q1 q2 _ (cq (Kd.C_below HG.out.r0 B1.out)) HG.out.l0 (cq (Kd.C_below HG.out.r2 B1.out)) HG.out.l2 HQ2.out).mono ?_; rintro e w2 ⟨rfl, hb'⟩; have B2 := Aside0.mk (below_step (lq B1.out) hb'); have K2 := Aside0.mk (blk_below (bq K1.out) hb'); clear hb' ya0 ya1 ya2; have ya0 := kc K2.out 0 rfl; have ya1 := kc K2.out 1 rfl; have ya2 := kc K2.out 2 rfl))
  go_cut [8] (fun s8 wc => ∃ (bW lw hw : Nat) (U0 : Option Addr) (f0 : Nat) (U2 : Option Addr) (f2 : Nat), s8 = .pointer (some ⟨bW, 0, none⟩) ∧ Aside0 (P8 w wc #[.slice A0 r.length c0, .int .u32 p, .slice A2 ram.length c2] #[.slice U0 R.length f0, .int .u32 P, .slice U2 M.length f2, .int .i64 fa, .int .i64 op, .int .i64 tc, .bool wr, .bool ca] 52 bW lw hw (.slice U0 R.length f0) (.slice U2 M.length f2) R M))
  case first =>
    go_region_held3 (fun w' => w'.cell? ⟨w.heap.size, 0, none⟩ = some (.slice A0 r.length c0) ∧ w'.cell? ⟨w.heap.size, 1, none⟩ = some (.int .u32 p) ∧ w'.cell? ⟨w.heap.size, 2, none⟩ = some (.slice A2 ram.length c2)) (go_keep)
      ((first | (go_at_call 19; refine (toW_calls HLE.out HC.out hc HL.out (lq B2.out)).mono ?_; rintro e w3 ⟨Yb, yd, rfl, hY, hb'⟩; have B3 := Aside0.mk (below_step (lq B2.out) hb'); have K3 := Aside0.mk (blk_below (bq K2.out) hb'); have GY := Aside0.mk hY; clear hY; have t0 := kc K3.out 0 rfl; have t1 := kc K3.out 1 rfl; have t2 := kc K3.out 2 rfl) | (go_at_call 12; refine (toG_calls p HG.out (lq B3.out)).mono ?_; rintro e w4 ⟨E0, j0, E2, j2, rfl, hE, hbb⟩; have B4 := Aside0.mk (below_step (lq B3.out) hbb); have K4 := Aside0.mk (blk_below (bq K3.out) hbb); have GY4 := Aside0.mk ((wq GY.out).below hbb); have GE := Aside0.mk hE; clear hE; have t0 := kc K4.out 0 rfl; have t1 := kc K4.out 1 rfl; have t2 := kc K4.out 2 rfl) | (go_at_call 31; refine (specP_calls HP.out (wq GY4.out) (gq GE.out) (lq B4.out) HG.out.b0 HG.out.b2 HG.out.bb).mono ?_; rintro e w5 ⟨U0, f0, U2, f2, rfl, hU, hbc⟩; have B5 := Aside0.mk (below_step (lq B4.out) hbc); have K5 := Aside0.mk (blk_below (bq K4.out) hbc); have GW := Aside0.mk hU; clear hU; have t0 := kc K5.out 0 rfl; have t1 := kc K5.out 1 rfl; have t2 := kc K5.out 2 rfl; have nn5 := Nat.ne_of_lt (blk_lt K5.out); have nm5 := Nat.ne_of_gt (blk_lt K5.out); have s3_ := hb'.size; have s4_ := hbb.size; have s5_ := hbc.size; have lw2 := blk_lt K2.out; (first | (guard_hyp hbc : Below (w4.alloc (.cells #[.slice none 0 0, .int .u32 0, .slice none 0 0, .int .i64 0, .int .i64 0, .int .i64 0, .bool false, .bool false] 52)).heap.size (w4.alloc (.cells #[.slice none 0 0, .int .u32 0, .slice none 0 0, .int .i64 0, .int .i64 0, .int .i64 0, .bool false, .bool false] 52)) w5; have KZ := Aside0.mk (blk_below (at1_0 (w := w4) (o0 := (.cells #[.slice none 0 0, .int .u32 0, .slice none 0 0, .int .i64 0, .int .i64 0, .int .i64 0, .bool false, .bool false] 52))) hbc); have nz : w.heap.size ≠ w4.heap.size := Nat.ne_of_lt (blk_lt K4.out); have nz' := nz.symm) | (guard_hyp hbb : Below (w3.alloc (.cells #[.slice none 0 0, .int .u32 0, .slice none 0 0, .int .i64 0, .int .i64 0, .int .i64 0, .bool false, .bool false] 52)).heap.size (w3.alloc (.cells #[.slice none 0 0, .int .u32 0, .slice none 0 0, .int .i64 0, .int .i64 0, .int .i64 0, .bool false, .bool false] 52)) w4; have KZ := Aside0.mk (blk_below (blk_below (at1_0 (w := w3) (o0 := (.cells #[.slice none 0 0, .int .u32 0, .slice none 0 0, .int .i64 0, .int .i64 0, .int .i64 0, .bool false, .bool false] 52))) hbb) hbc); have nz : w.heap.size ≠ w3.heap.size := Nat.ne_of_lt (blk_lt K3.out); have nz' := nz.symm) | (guard_hyp hb' : Below (w2.alloc (.cells #[.slice none 0 0, .int .u32 0, .slice none 0 0, .int .i64 0, .int .i64 0, .int .i64 0, .bool false, .bool false] 52)).drew.heap.size (w2.alloc (.cells #[.slice none 0 0, .int .u32 0, .slice none 0 0, .int .i64 0, .int .i64 0, .int .i64 0, .bool false, .bool false] 52)).drew w3; have KZ := Aside0.mk (blk_below (blk_below (blk_below (blk_drew (at1_0 (w := w2) (o0 := (.cells #[.slice none 0 0, .int .u32 0, .slice none 0 0, .int .i64 0, .int .i64 0, .int .i64 0, .bool false, .bool false] 52)))) hb') hbb) hbc); have nz : w.heap.size ≠ w2.heap.size := Nat.ne_of_lt (blk_lt K2.out); have nz' := nz.symm) | (have KZ := trivial)); (try (have z0 := kc KZ.out 0 rfl; have z1 := kc KZ.out 1 rfl; have z2 := kc KZ.out 2 rfl; have z3 := kc KZ.out 3 rfl; have z4 := kc KZ.out 4 rfl; have z5 := kc KZ.out 5 rfl; have z6 := kc KZ.out 6 rfl; have z7 := kc KZ.out 7 rfl; have fz0 := blk_frozen KZ.out 0; have fz1 := blk_frozen KZ.out 1; have fz2 := blk_frozen KZ.out 2; have fz3 := blk_frozen KZ.out 3; have fz4 := blk_frozen KZ.out 4; have fz5 := blk_frozen KZ.out 5; have fz6 := blk_frozen KZ.out 6; have fz7 := blk_frozen KZ.out 7)); clear s3_ s4_ s5_ lw2)))
    all_goals
      go_wp2
      go_meet
      have a1 := blk_lt K2.out
      have a2 := blk_lt K3.out
      have a3 := blk_lt K4.out
      have a4 := hb'.size
      have a5 := hbb.size
      have a6 := hbc.size
      simp at a4 a5 a6
      case rel => first | exact ⟨_, _, _, U0, f0, U2, f2, rfl, ⟨by with_reducible exact P8.mk_new K5.out GW.out B5.out (by first | omega | (simp; done) | (simp; omega))⟩⟩ | exact ⟨_, _, _, U0, f0, U2, f2, rfl, ⟨by with_reducible exact P8.mk_put K5.out KZ.out GW.out B5.out (by omega) (by first | omega | (simp; done) | (simp; omega))⟩⟩
  case rest =>
    obtain ⟨bW, lw, hw, U0, f0, U2, f2, rfl, H8⟩ := hcut
    obtain ⟨wk, hwk⟩ : ∃ wk : World, wk = wc := ⟨_, rfl⟩
    subst hwk
    have ya0 := kc H8.out.ka 0 rfl
    have ya1 := kc H8.out.ka 1 rfl
    have ya2 := kc H8.out.ka 2 rfl
    have yw0 := kc H8.out.kw 0 rfl
    have yw1 := kc H8.out.kw 1 rfl
    have yw2 := kc H8.out.kw 2 rfl
    have yw3 := kc H8.out.kw 3 rfl
    have yw4 := kc H8.out.kw 4 rfl
    have yw5 := kc H8.out.kw 5 rfl
    have yw6 := kc H8.out.kw 6 rfl
    have yw7 := kc H8.out.kw 7 rfl
    have T1 := Aside0.mk trivial
    have T2 := Aside0.mk trivial
    have T4 := Aside0.mk trivial
    have T5 := Aside0.mk trivial
    have T6 := Aside0.mk trivial
    have T7 := Aside0.mk trivial
    have T8 := Aside0.mk trivial
    have T9 := Aside0.mk trivial
    have T10 := Aside0.mk trivial
    go_wp2_with (first | (go_at_call 19; clear T1; refine (toW_calls HLE.out HC.out hc HL.out (lq H8.out.be)).mono ?_; rintro e w6 ⟨Y0, yc, rfl, hY, hb'⟩; have B6 := Aside0.mk hb'; have GY := Aside0.mk hY; have BE6 := Aside0.mk (below_step H8.out.be hb'); have KA6 := Aside0.mk (blk_below H8.out.ka hb'); have KW6 := Aside0.mk (blk_below H8.out.kw hb'); clear hY hb' ya0 ya1 ya2 yw0 yw1 yw2 yw3 yw4 yw5 yw6 yw7; obtain ⟨ya0, ya1, ya2⟩ := k3 KA6.out; obtain ⟨yw0, yw1, yw2, yw3, yw4, yw5, yw6, yw7⟩ := k8c KW6.out) | (go_at_call 12; clear T2; refine (toG_calls p HG.out (lq BE6.out)).mono ?_; rintro e w7 ⟨X0, h0, X2, h2, rfl, hX, hb'⟩; have B7 := Aside0.mk hb'; have GX := Aside0.mk hX; have BE7 := Aside0.mk (below_step BE6.out hb'); have GY7 := Aside0.mk (GY.out.below hb'); have KA7 := Aside0.mk (blk_below KA6.out hb'); have KW7 := Aside0.mk (blk_below KW6.out hb'); have na7 : w.heap.size ≠ w7.heap.size := Nat.ne_of_lt (blk_lt KA7.out); have la7 : w.heap.size < w7.heap.size := blk_lt KA7.out; have nw7 : bW ≠ w7.heap.size := Nat.ne_of_lt (blk_lt KW7.out); have lw7 : bW < w7.heap.size := blk_lt KW7.out; clear hX hb' ya0 ya1 ya2 yw0 yw1 yw2 yw3 yw4 yw5 yw6 yw7; obtain ⟨ya0, ya1, ya2⟩ := k3 KA7.out; obtain ⟨yw0, yw1, yw2, yw3, yw4, yw5, yw6, yw7⟩ := k8c KW7.out) | (go_at_call 32; refine (implP_calls HP.out (wq GY7.out) (gq GX.out) (lq BE7.out) HG.out.b0 HG.out.b2 HG.out.bb).mono ?_; rintro e w8 ⟨G0, i0, G2, i2, rfl, hg, hb'⟩; have B8 := Aside0.mk hb'; have GG := Aside0.mk hg; have KA8 := Aside0.mk (blk_below (bq KA7.out) hb'); have KW8 := Aside0.mk (blk_below (bq KW7.out) hb'); have KX8 := Aside0.mk (blk_below (at1_0 (w := w7) (o0 := .cells #[.slice X0 r.length h0, .int .u32 p, .slice X2 ram.length h2] 28)) hb'); have na8 : w.heap.size ≠ w8.heap.size := Nat.ne_of_lt (blk_lt KA8.out); have la8 : w.heap.size < w8.heap.size := blk_lt KA8.out; have nw8 : bW ≠ w8.heap.size := Nat.ne_of_lt (blk_lt KW8.out); have lw8 : bW < w8.heap.size := blk_lt KW8.out; have nx8 : w7.heap.size ≠ w8.heap.size := Nat.ne_of_lt (blk_lt KX8.out); have lx8 : w7.heap.size < w8.heap.size := blk_lt KX8.out; clear hg hb' ya0 ya1 ya2 yw0 yw1 yw2 yw3 yw4 yw5 yw6 yw7; obtain ⟨ya0, ya1, ya2⟩ := k3 KA8.out; obtain ⟨yw0, yw1, yw2, yw3, yw4, yw5, yw6, yw7⟩ := k8c KW8.out; obtain ⟨yx0, yx1, yx2⟩ := k3 KX8.out) | (go_at_call 33; clear T4; have L5 : LawP w (w8.alloc (.cells #[.slice G0 R.length i0, .int .u32 P, .slice G2 M.length i2, .int .i64 fa, .int .i64 op, .int .i64 tc, .bool wr, .bool ca] 52)) #[.slice A0 r.length c0, .int .u32 p, .slice A2 ram.length c2] #[.slice U0 R.length f0, .int .u32 P, .slice U2 M.length f2, .int .i64 fa, .int .i64 op, .int .i64 tc, .bool wr, .bool ca] 52 bW lw hw (.slice U0 R.length f0) (.slice U2 M.length f2) R M wk.heap.size w6.heap.size (.slice Y0 L.length yc) L #[.slice X0 r.length h0, .int .u32 p, .slice X2 ram.length h2] w7.heap.size w6.heap.size w7.heap.size (.slice X0 r.length h0) (.slice X2 ram.length h2) r ram #[.slice G0 R.length i0, .int .u32 P, .slice G2 M.length i2, .int .i64 fa, .int .i64 op, .int .i64 tc, .bool wr, .bool ca] w8.heap.size (w7.heap.size + 1) w8.heap.size (.slice G0 R.length i0) (.slice G2 M.length i2) R M := LawP.mk_ H8.out B6.out GY.out B7.out GX.out B8.out GG.out; refine (eqS_calls P fa op tc wr ca (gq L5.gg) (gq L5.gw) B0R.out B2R.out BBR.out).mono ?_; rintro e w9 ⟨rfl, hb'⟩; have L6 := Aside0.mk ((lpq L5).below hb'); clear hb' L5; (try clear ya0 ya1 ya2); obtain ⟨ya0, ya1, ya2⟩ := k3 L6.out.ka; (try clear yw0 yw1 yw2 yw3 yw4 yw5 yw6 yw7); obtain ⟨yw0, yw1, yw2, yw3, yw4, yw5, yw6, yw7⟩ := k8c L6.out.kw; (try clear yx0 yx1 yx2); obtain ⟨yx0, yx1, yx2⟩ := k3 L6.out.kx; (try clear yg0 yg1 yg2 yg3 yg4 yg5 yg6 yg7); obtain ⟨yg0, yg1, yg2, yg3, yg4, yg5, yg6, yg7⟩ := k8c L6.out.kg) | (go_at_call 19; clear T5; refine (toW_calls HLE.out HC.out hc HL.out (lq L6.out.be)).mono ?_; rintro e w10 ⟨Z0, zc, rfl, hZ, hb'⟩; have GZ := Aside0.mk hZ; have L7 := Aside0.mk ((lpq L6.out).below hb'); clear hZ hb'; (try clear ya0 ya1 ya2); obtain ⟨ya0, ya1, ya2⟩ := k3 L7.out.ka; (try clear yw0 yw1 yw2 yw3 yw4 yw5 yw6 yw7); obtain ⟨yw0, yw1, yw2, yw3, yw4, yw5, yw6, yw7⟩ := k8c L7.out.kw; (try clear yx0 yx1 yx2); obtain ⟨yx0, yx1, yx2⟩ := k3 L7.out.kx; (try clear yg0 yg1 yg2 yg3 yg4 yg5 yg6 yg7); obtain ⟨yg0, yg1, yg2, yg3, yg4, yg5, yg6, yg7⟩ := k8c L7.out.kg) | (go_at_call 21; refine (eqW_calls (wq L7.out.gy) (wq GZ.out) HL2.out).mono ?_; rintro e w11 ⟨rfl, hb'⟩; have L8 := Aside0.mk ((lpq L7.out).below hb'); clear hb'; (try clear ya0 ya1 ya2); obtain ⟨ya0, ya1, ya2⟩ := k3 L8.out.ka; (try clear yw0 yw1 yw2 yw3 yw4 yw5 yw6 yw7); obtain ⟨yw0, yw1, yw2, yw3, yw4, yw5, yw6, yw7⟩ := k8c L8.out.kw; (try clear yx0 yx1 yx2); obtain ⟨yx0, yx1, yx2⟩ := k3 L8.out.kx; (try clear yg0 yg1 yg2 yg3 yg4 yg5 yg6 yg7); obtain ⟨yg0, yg1, yg2, yg3, yg4, yg5, yg6, yg7⟩ := k8c L8.out.kg))
    go_region_held3 (fun w' => w'.cell? ⟨w7.heap.size, 0, none⟩ = some (.slice X0 r.length h0) ∧ w'.cell? ⟨w7.heap.size, 1, none⟩ = some (.int .u32 p) ∧ w'.cell? ⟨w7.heap.size, 2, none⟩ = some (.slice X2 ram.length h2) ∧ w'.cell? ⟨w.heap.size, 0, none⟩ = some (.slice A0 r.length c0) ∧ w'.cell? ⟨w.heap.size, 1, none⟩ = some (.int .u32 p) ∧ w'.cell? ⟨w.heap.size, 2, none⟩ = some (.slice A2 ram.length c2)) (go_keep)
      ((first | (go_at_call 12; refine (toG_calls p HG.out (lq L8.out.be)).mono ?_; rintro e w12 ⟨E0, k0, E2, k2, rfl, hG, hb'⟩; have L9 := Aside0.mk ((lpq L8.out).below hb'); have GE := Aside0.mk hG; clear hG hb'; have z0 := kc L9.out.kx 0 rfl; have z1 := kc L9.out.kx 1 rfl; have z2 := kc L9.out.kx 2 rfl; have z3 := kc L9.out.ka 0 rfl; have z4 := kc L9.out.ka 1 rfl; have z5 := kc L9.out.ka 2 rfl) | (go_at_call 14; refine (eqG_calls p (gq L9.out.gx) (gq GE.out) HG.out.b0 HG.out.b2 HG.out.bb).mono ?_; rintro e w13 ⟨rfl, hb'⟩; have L10 := Aside0.mk ((lpq L9.out).below hb'); clear hb'; have z0 := kc L10.out.kx 0 rfl; have z1 := kc L10.out.kx 1 rfl; have z2 := kc L10.out.kx 2 rfl; have z3 := kc L10.out.ka 0 rfl; have z4 := kc L10.out.ka 1 rfl; have z5 := kc L10.out.ka 2 rfl)))
    (try clear z0 z1 z2 z3 z4 z5)
    (try clear ya0 ya1 ya2)
    obtain ⟨ya0, ya1, ya2⟩ := k3 L10.out.ka
    (try clear yw0 yw1 yw2 yw3 yw4 yw5 yw6 yw7)
    obtain ⟨yw0, yw1, yw2, yw3, yw4, yw5, yw6, yw7⟩ := k8c L10.out.kw
    (try clear yx0 yx1 yx2)
    obtain ⟨yx0, yx1, yx2⟩ := k3 L10.out.kx
    (try clear yg0 yg1 yg2 yg3 yg4 yg5 yg6 yg7)
    obtain ⟨yg0, yg1, yg2, yg3, yg4, yg5, yg6, yg7⟩ := k8c L10.out.kg
    have k0 : decide (1 + ((3 : Nat) : Int) * (L.length : Int) + (r.length : Int) + (tot ram : Int) < 0) = false := decide_eq_false (by omega)
    have m0 : decide ((1 : Int) + (R.length : Int) + (tot M : Int) < 0) = false := decide_eq_false (by omega)
    go_upto_region 31 with (first | (go_at_call 24; refine (markW_calls w _ _ _ _ L (lq L10.out.be) (wq L10.out.gy) HL2.out).mono ?_; rintro e w14 ⟨rfl, hY, hF⟩; have L11 := Aside0.mk ((lpq L10.out).markY hY hF); clear hY hF; (try clear ya0 ya1 ya2); obtain ⟨ya0, ya1, ya2⟩ := k3 L11.out.ka; (try clear yw0 yw1 yw2 yw3 yw4 yw5 yw6 yw7); obtain ⟨yw0, yw1, yw2, yw3, yw4, yw5, yw6, yw7⟩ := k8c L11.out.kw; (try clear yx0 yx1 yx2); obtain ⟨yx0, yx1, yx2⟩ := k3 L11.out.kx; (try clear yg0 yg1 yg2 yg3 yg4 yg5 yg6 yg7); obtain ⟨yg0, yg1, yg2, yg3, yg4, yg5, yg6, yg7⟩ := k8c L11.out.kg) | (go_at_call 15; clear T6; refine (markG_calls w _ _ _ _ _ r p ram (1 + ((3 : Nat) : Int) * (L.length : Int)) (lq L11.out.be) (gq L11.out.gx) HM4.out HM3.out).mono ?_; rintro e w15 ⟨rfl, hG, hF⟩; have L12 := Aside0.mk ((lpq L11.out).markX hG hF); clear hG hF; (try clear ya0 ya1 ya2); obtain ⟨ya0, ya1, ya2⟩ := k3 L12.out.ka; (try clear yw0 yw1 yw2 yw3 yw4 yw5 yw6 yw7); obtain ⟨yw0, yw1, yw2, yw3, yw4, yw5, yw6, yw7⟩ := k8c L12.out.kw; (try clear yx0 yx1 yx2); obtain ⟨yx0, yx1, yx2⟩ := k3 L12.out.kx; (try clear yg0 yg1 yg2 yg3 yg4 yg5 yg6 yg7); obtain ⟨yg0, yg1, yg2, yg3, yg4, yg5, yg6, yg7⟩ := k8c L12.out.kg) | (go_at_call 33; clear T7; refine (eqS_calls P fa op tc wr ca (gq L12.out.gg) (gq L12.out.gw) B0R.out B2R.out BBR.out).mono ?_; rintro e w16 ⟨rfl, hb'⟩; have L13 := Aside0.mk ((lpq L12.out).below hb'); clear hb'; (try clear ya0 ya1 ya2); obtain ⟨ya0, ya1, ya2⟩ := k3 L13.out.ka; (try clear yw0 yw1 yw2 yw3 yw4 yw5 yw6 yw7); obtain ⟨yw0, yw1, yw2, yw3, yw4, yw5, yw6, yw7⟩ := k8c L13.out.kw; (try clear yx0 yx1 yx2); obtain ⟨yx0, yx1, yx2⟩ := k3 L13.out.kx; (try clear yg0 yg1 yg2 yg3 yg4 yg5 yg6 yg7); obtain ⟨yg0, yg1, yg2, yg3, yg4, yg5, yg6, yg7⟩ := k8c L13.out.kg) | (go_at_call 34; clear T8; refine (markS_calls w _ _ _ _ _ R P M fa op tc wr ca 1 (lq L13.out.be) (gq L13.out.gg) (by decide) HM1.out).mono ?_; rintro e w17 ⟨rfl, hG, hF⟩; have L14 := Aside0.mk ((lpq L13.out).markG hG hF); clear hG hF; (try clear ya0 ya1 ya2); obtain ⟨ya0, ya1, ya2⟩ := k3 L14.out.ka; (try clear yw0 yw1 yw2 yw3 yw4 yw5 yw6 yw7); obtain ⟨yw0, yw1, yw2, yw3, yw4, yw5, yw6, yw7⟩ := k8c L14.out.kw; (try clear yx0 yx1 yx2); obtain ⟨yx0, yx1, yx2⟩ := k3 L14.out.kx; (try clear yg0 yg1 yg2 yg3 yg4 yg5 yg6 yg7); obtain ⟨yg0, yg1, yg2, yg3, yg4, yg5, yg6, yg7⟩ := k8c L14.out.kg) | (go_at_call 35; refine (heldS_calls P fa op tc wr ca (gq L14.out.gg) HM1.out).mono ?_; rintro e w18 ⟨rfl, hb'⟩; have L15 := Aside0.mk ((lpq L14.out).below hb'); clear hb'; (try clear ya0 ya1 ya2); obtain ⟨ya0, ya1, ya2⟩ := k3 L15.out.ka; (try clear yw0 yw1 yw2 yw3 yw4 yw5 yw6 yw7); obtain ⟨yw0, yw1, yw2, yw3, yw4, yw5, yw6, yw7⟩ := k8c L15.out.kw; (try clear yx0 yx1 yx2); obtain ⟨yx0, yx1, yx2⟩ := k3 L15.out.kx; (try clear yg0 yg1 yg2 yg3 yg4 yg5 yg6 yg7); obtain ⟨yg0, yg1, yg2, yg3, yg4, yg5, yg6, yg7⟩ := k8c L15.out.kg))
    go_cut [15] (fun s15 wc => ∃ (bH lh hh : Nat) (H0 : Option Addr) (o0 : Nat) (H2 : Option Addr) (o2 : Nat), s15 = .pointer (some ⟨bH, 0, none⟩) ∧ Aside0 (P8 w wc #[.slice A0 r.length c0, .int .u32 p, .slice A2 ram.length c2] #[.slice H0 R.length o0, .int .u32 P, .slice H2 M.length o2, .int .i64 fa, .int .i64 op, .int .i64 tc, .bool wr, .bool ca] 52 bH lh hh (.slice H0 R.length o0) (.slice H2 M.length o2) R M) ∧ Aside0 (LawP w wc #[.slice A0 r.length c0, .int .u32 p, .slice A2 ram.length c2] #[.slice U0 R.length f0, .int .u32 P, .slice U2 M.length f2, .int .i64 fa, .int .i64 op, .int .i64 tc, .bool wr, .bool ca] 52 bW lw hw (.slice U0 R.length f0) (.slice U2 M.length f2) R M wk.heap.size w6.heap.size (.slice Y0 L.length yc) (marksS (fun m => (⟨m, m + 1, m + 2⟩ : S70)) 3 1 L.length) #[.slice X0 r.length h0, .int .u32 p, .slice X2 ram.length h2] w7.heap.size w6.heap.size w7.heap.size (.slice X0 r.length h0) (.slice X2 ram.length h2) (marks (· % 4294967296) (1 + ((3 : Nat) : Int) * (L.length : Int)) r.length) (marksB ((1 + ((3 : Nat) : Int) * (L.length : Int)) + (r.length : Int)) ram) #[.slice G0 R.length i0, .int .u32 P, .slice G2 M.length i2, .int .i64 fa, .int .i64 op, .int .i64 tc, .bool wr, .bool ca] w8.heap.size (w7.heap.size + 1) w8.heap.size (.slice G0 R.length i0) (.slice G2 M.length i2) (marks (· % 4294967296) 1 R.length) (marksB (1 + (R.length : Int)) M)))
    case first =>
      go_region_held3 (fun w' => w'.cell? ⟨w.heap.size, 0, none⟩ = some (.slice A0 r.length c0) ∧ w'.cell? ⟨w.heap.size, 1, none⟩ = some (.int .u32 p) ∧ w'.cell? ⟨w.heap.size, 2, none⟩ = some (.slice A2 ram.length c2)) (go_keep)
        ((first | (go_at_call 19; refine (toW_calls HLE.out HC.out hc HL.out (lq L15.out.be)).mono ?_; rintro e w19 ⟨Yb, yd, rfl, hY, hb'⟩; have L16 := Aside0.mk ((lpq L15.out).below hb'); have GY2 := Aside0.mk hY; clear hY; have t0 := kc L16.out.ka 0 rfl; have t1 := kc L16.out.ka 1 rfl; have t2 := kc L16.out.ka 2 rfl) | (go_at_call 12; refine (toG_calls p HG.out (lq L16.out.be)).mono ?_; rintro e w20 ⟨E4, j4, E5, j5, rfl, hE, hbb⟩; have L17 := Aside0.mk ((lpq L16.out).below hbb); have GY3 := Aside0.mk ((wq GY2.out).below hbb); have GE2 := Aside0.mk hE; clear hE; have t0 := kc L17.out.ka 0 rfl; have t1 := kc L17.out.ka 1 rfl; have t2 := kc L17.out.ka 2 rfl) | (go_at_call 32; refine (implP_calls HP.out (wq GY3.out) (gq GE2.out) (lq L17.out.be) HG.out.b0 HG.out.b2 HG.out.bb).mono ?_; rintro e w21 ⟨H0, o0, H2, o2, rfl, hU, hbc⟩; have L18 := Aside0.mk ((lpq L17.out).below hbc); have GH := Aside0.mk hU; clear hU; have t0 := kc L18.out.ka 0 rfl; have t1 := kc L18.out.ka 1 rfl; have t2 := kc L18.out.ka 2 rfl; have nn5 := Nat.ne_of_lt (blk_lt L18.out.ka); have nm5 := Nat.ne_of_gt (blk_lt L18.out.ka); (first | (guard_hyp hbc : Below (w20.alloc (.cells #[.slice none 0 0, .int .u32 0, .slice none 0 0, .int .i64 0, .int .i64 0, .int .i64 0, .bool false, .bool false] 52)).heap.size (w20.alloc (.cells #[.slice none 0 0, .int .u32 0, .slice none 0 0, .int .i64 0, .int .i64 0, .int .i64 0, .bool false, .bool false] 52)) w21; have KZ := Aside0.mk (blk_below (at1_0 (w := w20) (o0 := (.cells #[.slice none 0 0, .int .u32 0, .slice none 0 0, .int .i64 0, .int .i64 0, .int .i64 0, .bool false, .bool false] 52))) hbc); have nz : w.heap.size ≠ w20.heap.size := Nat.ne_of_lt (blk_lt L17.out.ka); have nz' := nz.symm) | (guard_hyp hbb : Below (w19.alloc (.cells #[.slice none 0 0, .int .u32 0, .slice none 0 0, .int .i64 0, .int .i64 0, .int .i64 0, .bool false, .bool false] 52)).heap.size (w19.alloc (.cells #[.slice none 0 0, .int .u32 0, .slice none 0 0, .int .i64 0, .int .i64 0, .int .i64 0, .bool false, .bool false] 52)) w20; have KZ := Aside0.mk (blk_below (blk_below (at1_0 (w := w19) (o0 := (.cells #[.slice none 0 0, .int .u32 0, .slice none 0 0, .int .i64 0, .int .i64 0, .int .i64 0, .bool false, .bool false] 52))) hbb) hbc); have nz : w.heap.size ≠ w19.heap.size := Nat.ne_of_lt (blk_lt L16.out.ka); have nz' := nz.symm) | (guard_hyp hb' : Below (w18.alloc (.cells #[.slice none 0 0, .int .u32 0, .slice none 0 0, .int .i64 0, .int .i64 0, .int .i64 0, .bool false, .bool false] 52)).drew.heap.size (w18.alloc (.cells #[.slice none 0 0, .int .u32 0, .slice none 0 0, .int .i64 0, .int .i64 0, .int .i64 0, .bool false, .bool false] 52)).drew w19; have KZ := Aside0.mk (blk_below (blk_below (blk_below (blk_drew (at1_0 (w := w18) (o0 := (.cells #[.slice none 0 0, .int .u32 0, .slice none 0 0, .int .i64 0, .int .i64 0, .int .i64 0, .bool false, .bool false] 52)))) hb') hbb) hbc); have nz : w.heap.size ≠ w18.heap.size := Nat.ne_of_lt (blk_lt L15.out.ka); have nz' := nz.symm) | (have KZ := trivial)); (try (have z0 := kc KZ.out 0 rfl; have z1 := kc KZ.out 1 rfl; have z2 := kc KZ.out 2 rfl; have z3 := kc KZ.out 3 rfl; have z4 := kc KZ.out 4 rfl; have z5 := kc KZ.out 5 rfl; have z6 := kc KZ.out 6 rfl; have z7 := kc KZ.out 7 rfl; have fz0 := blk_frozen KZ.out 0; have fz1 := blk_frozen KZ.out 1; have fz2 := blk_frozen KZ.out 2; have fz3 := blk_frozen KZ.out 3; have fz4 := blk_frozen KZ.out 4; have fz5 := blk_frozen KZ.out 5; have fz6 := blk_frozen KZ.out 6; have fz7 := blk_frozen KZ.out 7)))))
      all_goals
        go_wp2
        go_meet
        have a0 := blk_lt L15.out.ka
        have a1 := blk_lt L15.out.kg
        have a4 := hb'.size
        have a5 := hbb.size
        have a6 := hbc.size
        simp at a4 a5 a6
        case rel => first | exact ⟨_, _, _, H0, o0, H2, o2, rfl, ⟨by with_reducible exact P8.mk_new L18.out.ka GH.out L18.out.be (by first | omega | (simp; done) | (simp; omega))⟩, ⟨lpq L18.out⟩⟩ | exact ⟨_, _, _, H0, o0, H2, o2, rfl, ⟨by with_reducible exact P8.mk_put L18.out.ka KZ.out GH.out L18.out.be (by omega) (by first | omega | (simp; done) | (simp; omega))⟩, ⟨by with_reducible exact L18.out.put8 (by omega)⟩⟩
    case rest =>
      obtain ⟨bH, lh, hh, H0, o0, H2, o2, rfl, HH, L19⟩ := hcut
      have kh0 := kc HH.out.kw 0 rfl
      have kh1 := kc HH.out.kw 1 rfl
      have kh2 := kc HH.out.kw 2 rfl
      have kh3 := kc HH.out.kw 3 rfl
      have kh4 := kc HH.out.kw 4 rfl
      have kh5 := kc HH.out.kw 5 rfl
      have kh6 := kc HH.out.kw 6 rfl
      have kh7 := kc HH.out.kw 7 rfl
      (try clear ya0 ya1 ya2)
      obtain ⟨ya0, ya1, ya2⟩ := k3 L19.out.ka
      (try clear yw0 yw1 yw2 yw3 yw4 yw5 yw6 yw7)
      obtain ⟨yw0, yw1, yw2, yw3, yw4, yw5, yw6, yw7⟩ := k8c L19.out.kw
      (try clear yx0 yx1 yx2)
      obtain ⟨yx0, yx1, yx2⟩ := k3 L19.out.kx
      (try clear yg0 yg1 yg2 yg3 yg4 yg5 yg6 yg7)
      obtain ⟨yg0, yg1, yg2, yg3, yg4, yg5, yg6, yg7⟩ := k8c L19.out.kg
      go_wp2_with (first | (go_at_call 33; refine (eqS_calls P fa op tc wr ca (gq HH.out.gw) (gq L19.out.gw) B0R.out B2R.out BBR.out).mono ?_; rintro e w23 ⟨rfl, hb'⟩; have L20 := Aside0.mk ((lpq L19.out).below hb'); clear hb'; (try clear ya0 ya1 ya2); obtain ⟨ya0, ya1, ya2⟩ := k3 L20.out.ka; (try clear yw0 yw1 yw2 yw3 yw4 yw5 yw6 yw7); obtain ⟨yw0, yw1, yw2, yw3, yw4, yw5, yw6, yw7⟩ := k8c L20.out.kw; (try clear yx0 yx1 yx2); obtain ⟨yx0, yx1, yx2⟩ := k3 L20.out.kx; (try clear yg0 yg1 yg2 yg3 yg4 yg5 yg6 yg7); obtain ⟨yg0, yg1, yg2, yg3, yg4, yg5, yg6, yg7⟩ := k8c L20.out.kg) | (go_at_call 35; refine (heldS_calls P fa op tc wr ca (gq L20.out.gg) HM1.out).mono ?_; rintro e w24 ⟨rfl, hb'⟩; have L21 := Aside0.mk ((lpq L20.out).below hb'); clear hb'; (try clear ya0 ya1 ya2); obtain ⟨ya0, ya1, ya2⟩ := k3 L21.out.ka; (try clear yw0 yw1 yw2 yw3 yw4 yw5 yw6 yw7); obtain ⟨yw0, yw1, yw2, yw3, yw4, yw5, yw6, yw7⟩ := k8c L21.out.kw; (try clear yx0 yx1 yx2); obtain ⟨yx0, yx1, yx2⟩ := k3 L21.out.kx; (try clear yg0 yg1 yg2 yg3 yg4 yg5 yg6 yg7); obtain ⟨yg0, yg1, yg2, yg3, yg4, yg5, yg6, yg7⟩ := k8c L21.out.kg))
      go_ret
      exact ⟨rfl, lq L21.out.be⟩
set_option maxHeartbeats 8000000 in
set_option maxRecDepth 100000 in
theorem lawCS_short1 (A : Option Addr) (c : Nat) (l : List S72) (A0 : Option Addr) (c0 : Nat) (r : List Int) (p : Int) (A2 : Option Addr) (c2 : Nat) (ram : List (List Int)) (cy q1 : Int) (w : World)
    (hC : Kd.C k72 w A l.length l) (hc : l.length ≤ c) (hq1 : laws_szWindowS.f l 1048576 = some q1) (h1 : q1 < 0) :
    Calls Try.prog 9 #[.slice A l.length c, .agg #[.slice A0 r.length c0, .int .u32 p, .slice A2 ram.length c2], .int .i64 cy] w fun e w' => e = .returned (.bool true) ∧ Below w.heap.size w w' := by
  have hu26 := Try.underlying26
  have HC := Aside0.mk hC
  have HQ1 := Aside0.mk hq1
  have q10 : decide (q1 < 0) = true := decide_eq_true h1
  clear hC hq1
  go_enter Try.func9, Try.ntmps9
  go_wp2_with (go_at_call 17; refine (laws_szWindowS.calls A c l 1048576 q1 _ (cq HC.out) hc HQ1.out).mono ?_; rintro e w1 ⟨rfl, hd⟩; have B1 := Aside0.mk (below_step (lq (Below.refl w.heap.size w) : Below w.heap.size w _) hd.below); clear hd)
  go_ret
  exact ⟨rfl, lq B1.out⟩
set_option maxHeartbeats 8000000 in
set_option maxRecDepth 100000 in
theorem lawCS_short2 (A : Option Addr) (c : Nat) (l : List S72) (A0 : Option Addr) (c0 : Nat) (r : List Int) (p : Int) (A2 : Option Addr) (c2 : Nat) (ram : List (List Int)) (cy q1 q2 : Int) (w : World)
    (hC : Kd.C k72 w A l.length l) (hc : l.length ≤ c) (r0 : Kd.C (Kd.int .u32) w A0 r.length r) (l0 : r.length ≤ c0) (r2 : Kd.C (Kd.slice 5 (Kd.int .u8)) w A2 ram.length ram) (l2 : ram.length ≤ c2) (hq1 : laws_szWindowS.f l 1048576 = some q1) (h1 : 0 ≤ q1) (hq2 : laws_szGuest.f 30000000 r p ram q1 = some q2) (h2 : q2 < 0) :
    Calls Try.prog 9 #[.slice A l.length c, .agg #[.slice A0 r.length c0, .int .u32 p, .slice A2 ram.length c2], .int .i64 cy] w fun e w' => e = .returned (.bool true) ∧ Below w.heap.size w w' := by
  have hu26 := Try.underlying26
  have HC := Aside0.mk hC
  have HQ1 := Aside0.mk hq1
  have HQ2 := Aside0.mk hq2
  have R0 := Aside0.mk r0
  have R2 := Aside0.mk r2
  have C0 := Aside0.mk l0
  have C2 := Aside0.mk l2
  have q10 : decide (q1 < 0) = false := decide_eq_false (by omega)
  have q20 : decide (q2 < 0) = true := decide_eq_true h2
  clear hC hq1 hq2 r0 r2 l0 l2
  go_enter Try.func9, Try.ntmps9
  go_wp2_with (first | (go_at_call 17; refine (laws_szWindowS.calls A c l 1048576 q1 _ (cq HC.out) hc HQ1.out).mono ?_; rintro e w1 ⟨rfl, hd⟩; have B1 := Aside0.mk (below_step (lq (Below.refl w.heap.size w) : Below w.heap.size w _) hd.below); have K1 := Aside0.mk (blk_below (at1_0 (w := w) (o0 := .cells #[.slice A0 r.length c0, .int .u32 p, .slice A2 ram.length c2] 26)) hd.below); clear hd; have ya0 := kc K1.out 0 rfl; have ya1 := kc K1.out 1 rfl; have ya2 := kc K1.out 2 rfl) | (go_at_call 10; refine (laws_szGuest.calls 30000000 A0 c0 r p A2 c2 ram q1 q2 _ (cq (Kd.C_below R0.out B1.out)) C0.out (cq (Kd.C_below R2.out B1.out)) C2.out HQ2.out).mono ?_; rintro e w2 ⟨rfl, hb'⟩; have B2 := Aside0.mk (below_step (lq B1.out) hb'); clear hb' ya0 ya1 ya2))
  go_ret
  exact ⟨rfl, lq B2.out⟩
def GoodCS (l : List S72) (r : List Int) (p : Int) (ram : List (List Int)) (cy : Int) : Prop :=
  ∃ q1, laws_szWindowS.f l 1048576 = some q1 ∧ (q1 < 0 ∨ 0 ≤ q1 ∧ ∃ q2, laws_szGuest.f 30000000 r p ram q1 = some q2 ∧ (q2 < 0 ∨ 0 ≤ q2 ∧ l.length ≤ 2000000 ∧ (r.length : Int) + (ram.length : Int) + (tot ram : Int) ≤ 2000000 ∧
    ∃ K R P M fa op tc wr ca, StpF K (l.map toW) r p ram cy R P M fa op tc wr ca ∧ (R.length : Int) + (M.length : Int) + (tot M : Int) ≤ 2000000))
open Classical in
noncomputable def laws_FnExactCoreStep.f (k : Nat) (l0 : List S72) (l1_0 : List Int) (a1_1 : Int) (l1_2 : List (List Int)) (a2 : Int) : Option Bool := if GoodCS l0 l1_0 a1_1 l1_2 a2 then some true else none
theorem laws_FnExactCoreStep.calls (k : Nat) (A0 : Option Addr) (c0 : Nat) (l0 : List (S72)) (A1_0 : Option Addr) (c1_0 : Nat) (l1_0 : List Int) (a1_1 : Int) (A1_2 : Option Addr) (c1_2 : Nat) (l1_2 : List (List Int)) (a2 : Int) (w : World) (hr0 : Kd.C k72 w A0 l0.length l0) (hc0 : l0.length ≤ c0) (hr1_0 : Kd.C (Kd.int .u32) w A1_0 l1_0.length l1_0) (hc1_0 : l1_0.length ≤ c1_0) (hr1_2 : Kd.C (Kd.slice 5 (Kd.int .u8)) w A1_2 l1_2.length l1_2) (hc1_2 : l1_2.length ≤ c1_2) (h : laws_FnExactCoreStep.f k l0 l1_0 a1_1 l1_2 a2 = some true) :
  Calls Try.prog 9 #[.slice A0 l0.length c0, .agg #[.slice A1_0 l1_0.length c1_0, .int .u32 a1_1, .slice A1_2 l1_2.length c1_2], .int .i64 a2] w fun e w' => e = .returned (.bool true) ∧ Below w.heap.size w w' := by
  have hG : GoodCS l0 l1_0 a1_1 l1_2 a2 := by
    unfold laws_FnExactCoreStep.f at h
    by_cases c : GoodCS l0 l1_0 a1_1 l1_2 a2
    · exact c
    · rw [if_neg c] at h; cases h
  obtain ⟨q1, hq1, hq⟩ := hG
  rcases hq with h1 | ⟨h1, q2, hq2, hq⟩
  · exact lawCS_short1 A0 c0 l0 A1_0 c1_0 l1_0 a1_1 A1_2 c1_2 l1_2 a2 q1 w hr0 hc0 hq1 h1
  · rcases hq with h2 | ⟨h2, hl, hm, K, R, P, M, fa, op, tc, wr, ca, hP, hm2⟩
    · exact lawCS_short2 A0 c0 l0 A1_0 c1_0 l1_0 a1_1 A1_2 c1_2 l1_2 a2 q1 q2 w hr0 hc0 hr1_0 hc1_0 hr1_2 hc1_2 hq1 h1 hq2 h2
    · exact lawCS_long K A0 c0 l0 _ rfl A1_0 c1_0 l1_0 a1_1 A1_2 c1_2 l1_2 a2 q1 q2 R P M fa op tc wr ca w hr0 hc0 hl ⟨hr1_0, hc1_0, hr1_2, hc1_2, by omega, by omega, fun x hx => by have := AidFH.tot_mem hx; omega⟩ hq1 h1 hq2 h2 hP hm hm2
end Go.Proofs.Ytbcpkigeginmnaa.GF
end
section
namespace Go.Proofs.Ytbcpkigeginmnaa.AidFF
open Go.RowKit Go.Proofs.Ytbcpkigeginmnaa Go.Proofs.Ytbcpkigeginmnaa.AidFW Go.Proofs.Ytbcpkigeginmnaa.GF Go.Proofs.YtbcpkigeginmnaaW.PrintWords Go.Proofs.YtbcpkigeginmnaaW.PrintLast
theorem bits_k (p kd : Int) (h1 : 1 ≤ p) (h7 : p ≤ 7) (hk : kd = 1 ∨ kd = 2 ∨ kd = 4) : (bits .and .i64 p kd = 0) = (Int.tmod (wrap64 (Int.tdiv p kd)) 2 = 0) := by
  have : p = 1 ∨ p = 2 ∨ p = 3 ∨ p = 4 ∨ p = 5 ∨ p = 6 ∨ p = 7 := by omega
  apply propext
  rcases this with rfl | rfl | rfl | rfl | rfl | rfl | rfl <;> rcases hk with rfl | rfl | rfl <;> first | decide +kernel | (constructor <;> intro h <;> revert h <;> decide +kernel)
def fltB (l : List S70) (a s kd : Int) : Int := if Int.tmod a s = 0 then (if idxB (hasB a) l < 0 then 2 else if bits .and .i64 ((rd_T70 l (idxB (hasB a) l)).f2) kd = 0 then 3 else 0) else 1
theorem fault_s (l : List S70) (hl : ∀ x ∈ l, WinB x) (hm : l.length ≤ 9000000) (a s kd : Int) (ha : (Lit.int .u32 a).wf = true) (hs : s = 1 ∨ s = 4) (hkd : kd = 1 ∨ kd = 2 ∨ kd = 4) (k : Nat) (hk : l.length < k) :
    spec_l07Fault.f k l a s kd = some (fltB l a s kd) := by
  have := Bit.w32 ha
  have hw : wrap64 a = a := by unfold wrap64; omega
  unfold spec_l07Fault.f fltB
  rw [hw, if_neg (by omega)]
  by_cases c : Int.tmod a s = 0
  · rw [if_pos c, if_pos c, at_s l a hm k hk, Option.bind_some]
    by_cases d : idxB (hasB a) l < 0
    · rw [if_pos d, if_pos d]
    · rw [if_neg d, if_neg d]
      rcases idx_range (hasB a) l with e | ⟨i, e, hi, _⟩
      · rw [e] at d; exact absurd d (by decide)
      · have hb := mem_rd hl i hi
        rw [e, if_pos (by omega), if_pos (by omega), if_neg (by omega)]
        simp only [bits_k _ kd hb.2.2.2.2.2.1 hb.2.2.2.2.2.2 hkd]
        by_cases g : Int.tmod (wrap64 (Int.tdiv (rd_T70 l (i : Int)).f2 kd)) 2 = 0
        · rw [if_pos g, if_pos g]
        · rw [if_neg g, if_neg g]
  · rw [if_neg c, if_neg c]
theorem fault_i (l : List S70) (a s kd : Int) (ha : (Lit.int .u32 a).wf = true) (hs : s = 1 ∨ s = 4) (k : Nat) (hk : 0 < k) :
    impl_faultAt.j0 k l a s kd false = some (fltB l a s kd) := by
  have := Bit.w32 ha
  have hw : wrap64 a = a := by unfold wrap64; omega
  obtain ⟨k, rfl⟩ : ∃ m, k = m + 1 := ⟨k - 1, by omega⟩
  unfold fltB
  simp only [impl_faultAt.j0]
  rw [hw, if_neg (by decide), if_neg (by omega)]
  by_cases c : Int.tmod a s = 0
  · rw [if_pos c, if_pos c, at_i l a, Option.bind_some]
    by_cases d : idxB (hasB a) l < 0
    · rw [if_pos d, if_pos d]
    · rw [if_neg d, if_neg d]
      rcases idx_range (hasB a) l with e | ⟨i, e, hi, _⟩
      · rw [e] at d; exact absurd d (by decide)
      · rw [e, if_pos (by omega), if_pos (by omega)]
        by_cases g : bits .and .i64 ((rd_T70 l (i : Int)).f2) kd = 0
        · rw [if_pos g, if_pos g]
        · rw [if_neg g, if_neg g]
  · rw [if_neg c, if_neg c]
theorem fault_9 (l : List S70) (a s kd : Int) (k : Nat) (hk : 0 < k) : impl_faultAt.j0 k l a s kd true = some 9 := by
  obtain ⟨k, rfl⟩ : ∃ m, k = m + 1 := ⟨k - 1, by omega⟩
  simp only [impl_faultAt.j0]
  first | rw [if_pos rfl] | rw [if_pos trivial]
def fltT (l : List S70) (a s kd : Int) : Int := if areWB l = true then (if (s = 1 ∨ s = 4) ∧ (kd = 1 ∨ kd = 2 ∨ kd = 4) then fltB l a s kd else 9) else 9
theorem flt_s (l : List S70) (hl : ∀ x ∈ l, WfW x) (hm : l.length ≤ 9000000) (a s kd : Int) (ha : (Lit.int .u32 a).wf = true) (k : Nat) (hk : l.length + 2000 < k) : spec_FaultAt.f k l a s kd = some (fltT l a s kd) := by
  unfold spec_FaultAt.f fltT
  rw [windows_s l hl k (by omega), Option.bind_some]
  by_cases h : areWB l = true
  · rw [if_pos h, if_pos h]
    have hw := areW_win hl h
    by_cases s1 : s = 1
    · rw [if_pos s1]
      by_cases k1 : kd = 1
      · rw [if_pos k1, fault_s l hw hm a s kd ha (.inl s1) (.inl k1) k (by omega), if_pos ⟨.inl s1, .inl k1⟩, Option.bind_some]
      · rw [if_neg k1]
        by_cases k2 : kd = 2
        · rw [if_pos k2, fault_s l hw hm a s kd ha (.inl s1) (.inr (.inl k2)) k (by omega), if_pos ⟨.inl s1, .inr (.inl k2)⟩, Option.bind_some]
        · rw [if_neg k2]
          by_cases k4 : kd = 4
          · rw [if_pos k4, fault_s l hw hm a s kd ha (.inl s1) (.inr (.inr k4)) k (by omega), if_pos ⟨.inl s1, .inr (.inr k4)⟩, Option.bind_some]
          · rw [if_neg k4, if_neg (by omega)]
    · rw [if_neg s1]
      by_cases s4 : s = 4
      · rw [if_pos s4]
        by_cases k1 : kd = 1
        · rw [if_pos k1, fault_s l hw hm a s kd ha (.inr s4) (.inl k1) k (by omega), if_pos ⟨.inr s4, .inl k1⟩, Option.bind_some]
        · rw [if_neg k1]
          by_cases k2 : kd = 2
          · rw [if_pos k2, fault_s l hw hm a s kd ha (.inr s4) (.inr (.inl k2)) k (by omega), if_pos ⟨.inr s4, .inr (.inl k2)⟩, Option.bind_some]
          · rw [if_neg k2]
            by_cases k4 : kd = 4
            · rw [if_pos k4, fault_s l hw hm a s kd ha (.inr s4) (.inr (.inr k4)) k (by omega), if_pos ⟨.inr s4, .inr (.inr k4)⟩, Option.bind_some]
            · rw [if_neg k4, if_neg (by omega)]
      · rw [if_neg s4, if_neg (by omega)]
  · rw [if_neg h, if_neg h]
theorem flt_j (l : List S70) (a s kd : Int) (ha : (Lit.int .u32 a).wf = true) (k : Nat) (hk : 0 < k) : impl_faultAt.f k l a s kd = some (if (s = 1 ∨ s = 4) ∧ (kd = 1 ∨ kd = 2 ∨ kd = 4) then fltB l a s kd else 9) := by
  unfold impl_faultAt.f
  by_cases s1 : s = 1
  · rw [if_pos s1]
    by_cases k1 : kd = 1
    · rw [if_pos k1, fault_i l a s kd ha (.inl s1) k hk, if_pos ⟨.inl s1, .inl k1⟩]
    · rw [if_neg k1]
      by_cases k2 : kd = 2
      · rw [if_pos k2, fault_i l a s kd ha (.inl s1) k hk, if_pos ⟨.inl s1, .inr (.inl k2)⟩]
      · rw [if_neg k2]
        by_cases k4 : kd = 4
        · rw [show (kd != 4) = false by rw [k4]; rfl, fault_i l a s kd ha (.inl s1) k hk, if_pos ⟨.inl s1, .inr (.inr k4)⟩]
        · rw [show (kd != 4) = true from bne_iff_ne.2 k4, fault_9 l a s kd k hk, if_neg (by omega)]
  · rw [if_neg s1]
    by_cases s4 : s = 4
    · rw [if_pos s4]
      by_cases k1 : kd = 1
      · rw [if_pos k1, fault_i l a s kd ha (.inr s4) k hk, if_pos ⟨.inr s4, .inl k1⟩]
      · rw [if_neg k1]
        by_cases k2 : kd = 2
        · rw [if_pos k2, fault_i l a s kd ha (.inr s4) k hk, if_pos ⟨.inr s4, .inr (.inl k2)⟩]
        · rw [if_neg k2]
          by_cases k4 : kd = 4
          · rw [show (kd != 4) = false by rw [k4]; rfl, fault_i l a s kd ha (.inr s4) k hk, if_pos ⟨.inr s4, .inr (.inr k4)⟩]
          · rw [show (kd != 4) = true from bne_iff_ne.2 k4, fault_9 l a s kd k hk, if_neg (by omega)]
    · rw [if_neg s4, fault_9 l a s kd k hk, if_neg (by omega)]
end Go.Proofs.Ytbcpkigeginmnaa.AidFF
end
