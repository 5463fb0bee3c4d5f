/- The law FnExactCacheUse, walked by hand on its one path: the pure facts say what each call answers. -/
import Derived.Test.YtglehilfemfiiaaMkcU
import Derived.Test.YtglehilfemfiiaaCcuU
import Derived.Test.YtglehilfemfiiaaGUx7
import Derived.Test.YtglehilfemfiiaaGUx11
import Derived.Test.YtglehilfemfiiaaGUx12
import Derived.Test.YtglehilfemfiiaaGUx15
import Derived.Test.YtglehilfemfiiaaGUx16
namespace Go.Proofs.Ytglehilfemfiiaa.GU
open Go.RowKit Go.Proofs.YtglehilfemfiiaaW.PrintWords Go.Proofs.YtglehilfemfiiaaW.PrintLast Go.Proofs.YtglehilfemfiiaaW.PrintMore Go.Proofs.Ytglehilfemfiiaa.Q Go.Proofs.Ytglehilfemfiiaa.Hnd Go.Proofs.Ytglehilfemfiiaa.Lst
set_option linter.unusedVariables false
set_option linter.unusedSimpArgs false
/-- What the law's calls answer. -/
structure CuF (K : Nat) (s0 s1 s2 : Int) (l : List (List S140)) (L : List (List S118)) (a : Int) (wr : Bool) (p0 p1 p2 : Int) (R : List (List S118)) (b1 b2 : Bool) : Prop where
  tol : laws_toCache.f K s0 s1 s2 l = some (s0, s1, s2, L)
  spec : spec_CacheUse.f K s0 s1 s2 L a wr = some (p0, p1, p2, R, b1, b2)
  impl : impl_CacheUse.f K s0 s1 s2 L a wr = some (p0, p1, p2, R, b1, b2)
  eqR : laws_eqCache.f K p0 p1 p2 R p0 p1 p2 R = some true
  eqL : laws_eqCache.f K s0 s1 s2 L s0 s1 s2 L = some true
  held : laws_heldCache.f K p0 p1 p2 (marksB 1 R) 1 = some (1 + ((2 : Nat) : Int) * (tot R : Int))
  mL : 1 + ((2 : Nat) : Int) * (tot L : Int) ≤ 9000000
  nL : L.length ≤ 9000000
  mR : 1 + ((2 : Nat) : Int) * (tot R : Int) ≤ 9000000
  nR : R.length ≤ 9000000
section
variable {K : Nat} {s0 s1 s2 : Int} {l : List (List S140)} {L : List (List S118)} {a : Int} {wr : Bool} {p0 p1 p2 : Int} {R : List (List S118)} {b1 b2 : Bool}
theorem toC_calls (hF : CuF K s0 s1 s2 l L a wr p0 p1 p2 R b1 b2) {w W : World} {A : Option Addr} {c : Nat} (h : Kd.C (Kd.slice 140 k140) w A l.length l) (hc : l.length ≤ c) (hB : Below w.heap.size w W) :
    Calls Try.prog 38 #[.agg #[.int .i64 s0, .int .i64 s1, .int .i64 s2, .slice A l.length c]] W fun e w' => ∃ B d, e = .returned (.agg #[.int .i64 s0, .int .i64 s1, .int .i64 s2, .slice B L.length d]) ∧ Cst w w' W.heap.size w'.heap.size (.slice B L.length d) L ∧ Below W.heap.size W w' :=
  (laws_toCache.calls K s0 s1 s2 A c l s0 s1 s2 L W (Kd.C_below h hB) hc hF.tol).mono (fun e w' hh => by
    obtain ⟨v, rfl, hS, hb⟩ := hh
    obtain ⟨B, d, rfl⟩ := Kd.S_slice hS
    exact ⟨_, _, rfl, Cst.new hS hB, hb⟩)
theorem eqR_calls (hF : CuF K s0 s1 s2 l L a wr p0 p1 p2 R b1 b2) {w W : World} {l1 h1 l2 h2 : Nat} {u v : Value} (hu : Cst w W l1 h1 u R) (hv : Cst w W l2 h2 v R) :
    Calls Try.prog 40 #[.agg #[.int .i64 p0, .int .i64 p1, .int .i64 p2, u], .agg #[.int .i64 p0, .int .i64 p1, .int .i64 p2, v]] W fun e w' => e = .returned (.bool true) ∧ Below W.heap.size W w' := by
  obtain ⟨A, c, rfl, q1, q2⟩ := hu.form
  obtain ⟨B, d, rfl, t1, t2⟩ := hv.form
  exact laws_eqCache.calls K p0 p1 p2 A c R p0 p1 p2 B d R true W q2 q1 t2 t1 hF.eqR
theorem eqL_calls (hF : CuF K s0 s1 s2 l L a wr p0 p1 p2 R b1 b2) {w W : World} {l1 h1 l2 h2 : Nat} {u v : Value} (hu : Cst w W l1 h1 u L) (hv : Cst w W l2 h2 v L) :
    Calls Try.prog 40 #[.agg #[.int .i64 s0, .int .i64 s1, .int .i64 s2, u], .agg #[.int .i64 s0, .int .i64 s1, .int .i64 s2, v]] W fun e w' => e = .returned (.bool true) ∧ Below W.heap.size W w' := by
  obtain ⟨A, c, rfl, q1, q2⟩ := hu.form
  obtain ⟨B, d, rfl, t1, t2⟩ := hv.form
  exact laws_eqCache.calls K s0 s1 s2 A c L s0 s1 s2 B d L true W q2 q1 t2 t1 hF.eqL
theorem heldC_calls (hF : CuF K s0 s1 s2 l L a wr p0 p1 p2 R b1 b2) {w W : World} {l1 h1 : Nat} {u : Value} (hu : Cst w W l1 h1 u (marksB 1 R)) :
    Calls Try.prog 42 #[.agg #[.int .i64 p0, .int .i64 p1, .int .i64 p2, u], .int .i64 1] W fun e w' => e = .returned (.int .i64 (1 + ((2 : Nat) : Int) * (tot R : Int))) ∧ Below W.heap.size W w' := by
  obtain ⟨A, c, rfl, q1, q2⟩ := hu.form
  exact (laws_heldCache.calls K p0 p1 p2 A c _ 1 _ W q2 q1 hF.held).mono (fun e w' hh => ⟨hh.1, hh.2⟩)
theorem specC_calls (hF : CuF K s0 s1 s2 l L a wr p0 p1 p2 R b1 b2) {w W : World} {l1 h1 : Nat} {u : Value} (hu : Cst w W l1 h1 u L) (hB : Below w.heap.size w W) :
    Calls Try.prog 37 #[.agg #[.int .i64 s0, .int .i64 s1, .int .i64 s2, u], .int .i64 a, .bool wr] W fun e w' => ∃ B d, e = .returned (.tuple #[.agg #[.int .i64 p0, .int .i64 p1, .int .i64 p2, .slice B R.length d], .bool b1, .bool b2]) ∧ Cst w w' W.heap.size w'.heap.size (.slice B R.length d) R ∧ Below W.heap.size W w' := by
  obtain ⟨A, c, rfl, q1, q2⟩ := hu.form
  refine (spec_CacheUse.calls K s0 s1 s2 A c L a wr _ _ _ _ _ _ W q2 q1 hF.spec).mono (fun e w' hh => ?_)
  obtain ⟨v, rfl, hS, hb⟩ := hh
  obtain ⟨B, d, rfl⟩ := Kd.S_slice hS
  exact ⟨_, _, rfl, Cst.new hS hB, hb⟩
theorem implC_calls (hF : CuF K s0 s1 s2 l L a wr p0 p1 p2 R b1 b2) {w W : World} {l1 h1 : Nat} {u : Value} (hu : Cst w W l1 h1 u L) (hB : Below w.heap.size w W) :
    Calls Try.prog 39 #[.agg #[.int .i64 s0, .int .i64 s1, .int .i64 s2, u], .int .i64 a, .bool wr] W fun e w' => ∃ B d, e = .returned (.tuple #[.agg #[.int .i64 p0, .int .i64 p1, .int .i64 p2, .slice B R.length d], .bool b1, .bool b2]) ∧ Cst w w' W.heap.size w'.heap.size (.slice B R.length d) R ∧ Below W.heap.size W w' := by
  obtain ⟨A, c, rfl, q1, q2⟩ := hu.form
  refine (impl_CacheUse.calls K s0 s1 s2 A c L a wr _ _ _ _ _ _ W q2 q1 hF.impl).mono (fun e w' hh => ?_)
  obtain ⟨v, rfl, hS, hb⟩ := hh
  obtain ⟨B, d, rfl⟩ := Kd.S_slice hS
  exact ⟨_, _, rfl, Cst.new hS hB, hb⟩
end
abbrev box4v (p0 p1 p2 : Int) (v : Value) : Array Value := #[.int .i64 p0, .int .i64 p1, .int .i64 p2, v]
/-- What the law holds: its argument's box, and the boxes and rows of the reference's answer (w), of what was handed in (x), of the program's answer (g). -/
structure Law3 (w W : World) (ca : Array Value) (p0 p1 p2 s0 s1 s2 : Int) (bW lw hw : Nat) (u : Value) (mw : List (List S118)) (bX lx hx : Nat) (x : Value) (mx : List (List S118)) (bG lg hg : Nat) (g : Value) (mg : List (List S118)) : Prop where
  ka : W.heap[w.heap.size]? = some (.cells ca 66 (0, 0))
  kw : W.heap[bW]? = some (.cells #[.int .i64 p0, .int .i64 p1, .int .i64 p2, u] 70 (0, 0))
  kx : W.heap[bX]? = some (.cells #[.int .i64 s0, .int .i64 s1, .int .i64 s2, x] 70 (0, 0))
  kg : W.heap[bG]? = some (.cells #[.int .i64 p0, .int .i64 p1, .int .i64 p2, g] 70 (0, 0))
  gw : Cst w W lw hw u mw
  gx : Cst w W lx hx x mx
  gg : Cst w W lg hg g mg
  be : Below w.heap.size w W
  o1 : w.heap.size < lw
  o2 : hw ≤ bW
  o3 : bW < lx
  o4 : hx ≤ bX
  o5 : bX < lg
  o6 : hg ≤ bG
  p1' : lw ≤ hw
  p2' : lx ≤ hx
  p3' : lg ≤ hg
section
variable {w W W' : World} {ca : Array Value} {p0 p1 p2 s0 s1 s2 : Int} {bW lw hw bX lx hx bG lg hg : Nat} {u x g : Value} {mw mx mg mx' mg' : List (List S118)}
theorem Law3.below (h : Law3 w W ca p0 p1 p2 s0 s1 s2 bW lw hw u mw bX lx hx x mx bG lg hg g mg) (hb : Below W.heap.size W W') : Law3 w W' ca p0 p1 p2 s0 s1 s2 bW lw hw u mw bX lx hx x mx bG lg hg g mg :=
  ⟨blk_below h.ka hb, blk_below h.kw hb, blk_below h.kx hb, blk_below h.kg hb, h.gw.below hb, h.gx.below hb, h.gg.below hb, below_step h.be hb, h.o1, h.o2, h.o3, h.o4, h.o5, h.o6, h.p1', h.p2', h.p3'⟩
theorem l3q (h : Law3 w W ca p0 p1 p2 s0 s1 s2 bW lw hw u mw bX lx hx x mx bG lg hg g mg) [q : Quiet W W'] : Law3 w W' ca p0 p1 p2 s0 s1 s2 bW lw hw u mw bX lx hx x mx bG lg hg g mg := h.below q.go
theorem Law3.markX (h : Law3 w W ca p0 p1 p2 s0 s1 s2 bW lw hw u mw bX lx hx x mx bG lg hg g mg) (hG : Cst w W' lx hx x mx') (f : Fr (fun k => lx ≤ k ∧ k < hx) W W') : Law3 w W' ca p0 p1 p2 s0 s1 s2 bW lw hw u mw bX lx hx x mx' bG lg hg g mg := by
  have a1 := h.o1; have a2 := h.o2; have a3 := h.o3; have a4 := h.o4; have a5 := h.o5; have a6 := h.o6; have a7 := h.gx.ge; have a8 := h.gw.ge; have b1 := h.p1'; have b2 := h.p2'; have b3 := h.p3'
  exact ⟨f.blk h.ka (fun k => by omega), f.blk h.kw (fun k => by omega), f.blk h.kx (fun k => by omega), f.blk h.kg (fun k => by omega), h.gw.fr f (fun k h1 h2 h3 => by omega), hG, h.gg.fr f (fun k h1 h2 h3 => by omega),
    h.be.trans (f.below (fun i hi => by omega) h.be.size), h.o1, h.o2, h.o3, h.o4, h.o5, h.o6, h.p1', h.p2', h.p3'⟩
theorem Law3.markG (h : Law3 w W ca p0 p1 p2 s0 s1 s2 bW lw hw u mw bX lx hx x mx bG lg hg g mg) (hG : Cst w W' lg hg g mg') (f : Fr (fun k => lg ≤ k ∧ k < hg) W W') : Law3 w W' ca p0 p1 p2 s0 s1 s2 bW lw hw u mw bX lx hx x mx bG lg hg g mg' := by
  have a1 := h.o1; have a2 := h.o2; have a3 := h.o3; have a4 := h.o4; have a5 := h.o5; have a6 := h.o6; have a7 := h.gx.ge; have a8 := h.gw.ge; have b1 := h.p1'; have b2 := h.p2'; have b3 := h.p3'
  exact ⟨f.blk h.ka (fun k => by omega), f.blk h.kw (fun k => by omega), f.blk h.kx (fun k => by omega), f.blk h.kg (fun k => by omega), h.gw.fr f (fun k h1 h2 h3 => by omega), h.gx.fr f (fun k h1 h2 h3 => by omega), hG,
    h.be.trans (f.below (fun i hi => by omega) h.be.size), h.o1, h.o2, h.o3, h.o4, h.o5, h.o6, h.p1', h.p2', h.p3'⟩
end
theorem law3_mk {w w2 w3 w4 w5 : World} {ca : Array Value} {p0 p1 p2 s0 s1 s2 : Int} {u x g : Value} {mw mx mg : List (List S118)}
    (ka : w5.heap[w.heap.size]? = some (.cells ca 66 (0, 0))) (kw : w5.heap[w3.heap.size]? = some (.cells #[.int .i64 p0, .int .i64 p1, .int .i64 p2, u] 70 (0, 0))) (kx : w5.heap[w4.heap.size]? = some (.cells #[.int .i64 s0, .int .i64 s1, .int .i64 s2, x] 70 (0, 0)))
    (gw : Cst w w5 w2.heap.size w3.heap.size u mw) (gx : Cst w w5 (w3.heap.size + 1) w4.heap.size x mx) (gg : Cst w w5 (w4.heap.size + 1) w5.heap.size g mg) (be : Below w.heap.size w w5)
    (s2_ : w.heap.size < w2.heap.size) (s3_ : w2.heap.size ≤ w3.heap.size) (s4_ : w3.heap.size < w4.heap.size) (s5_ : w4.heap.size < w5.heap.size) :
    Law3 w (w5.alloc (.cells #[.int .i64 p0, .int .i64 p1, .int .i64 p2, g] 70)) ca p0 p1 p2 s0 s1 s2 w3.heap.size w2.heap.size w3.heap.size u mw w4.heap.size (w3.heap.size + 1) w4.heap.size x mx w5.heap.size (w4.heap.size + 1) w5.heap.size g mg :=
  ⟨bq ka, bq kw, bq kx, at1_0, gq gw, gq gx, gq gg, lq be, s2_, Nat.le_refl _, Nat.lt_succ_self _, Nat.le_refl _, Nat.lt_succ_self _, Nat.le_refl _, s3_, s4_, s5_⟩
set_option maxHeartbeats 16000000 in
set_option maxRecDepth 100000 in
theorem lawCU_long (K : Nat) (s0 s1 s2 : Int) (A : Option Addr) (c : Nat) (l : List (List S140)) (L : List (List S118)) (a : Int) (wr : Bool) (q : Int) (p0 p1 p2 : Int) (R : List (List S118)) (b1 b2 : Bool) (w : World) (hC : Kd.C (Kd.slice 140 k140) w A l.length l) (hc : l.length ≤ c) (hq : laws_szCache.f K s0 s1 s2 l 1048576 = some q) (h0 : 0 ≤ q) (hF : CuF K s0 s1 s2 l L a wr p0 p1 p2 R b1 b2) :
    Calls Try.prog 8 #[.agg #[.int .i64 s0, .int .i64 s1, .int .i64 s2, .slice A l.length c], .int .i64 a, .bool wr] w fun e w' => e = .returned (.bool true) ∧ Below w.heap.size w w' := by
  have hu66 := Try.underlying66
  have hu70 := Try.underlying70
  have HC := Aside0.mk hC
  have HQ := Aside0.mk hq
  have HF := Aside0.mk hF
  have q0 : decide (q < 0) = false := decide_eq_false (by omega)
  have k0 : decide (1 + ((2 : Nat) : Int) * (tot L : Int) < 0) = false := decide_eq_false (by omega)
  have m0 : decide (1 + ((2 : Nat) : Int) * (tot R : Int) < 0) = false := decide_eq_false (by omega)
  have d1 : (b1 != b1) = false := by simp
  have d2 : (b2 != b2) = false := by simp
  clear hC hq hF
  have T1 := Aside0.mk trivial
  have T2 := Aside0.mk trivial
  have T3 := Aside0.mk trivial
  have T4 := Aside0.mk trivial
  have T6 := Aside0.mk trivial
  have T7 := Aside0.mk trivial
  have T8 := Aside0.mk trivial
  have T9 := Aside0.mk trivial
  have T10 := Aside0.mk trivial
  have T11 := Aside0.mk trivial
  have T12 := Aside0.mk trivial
  go_enter Try.func8, Try.ntmps8
  go_wp2_with (first | (go_at_call 36; refine (laws_szCache.calls K s0 s1 s2 A c l 1048576 q _ (cq HC.out) hc HQ.out).mono ?_; rintro e w1 ⟨rfl, hb'⟩; have B1 := Aside0.mk (below_step (below_alloc (Below.refl _ w) _) hb'); have K1 := Aside0.mk (blk_below (at1_0 (w := w) (o0 := .cells #[.int .i64 s0, .int .i64 s1, .int .i64 s2, .slice A l.length c] 66)) hb'); clear hb'; have ya0 := kc K1.out 0 rfl; have ya1 := kc K1.out 1 rfl; have ya2 := kc K1.out 2 rfl; have ya3 := kc K1.out 3 rfl) | (go_at_call 38; clear T1; refine (toC_calls HF.out HC.out hc (lq B1.out)).mono ?_; rintro e w2 ⟨E0, j0, rfl, hG, hb'⟩; have GA := Aside0.mk hG; have B2 := Aside0.mk (below_step (lq B1.out) hb'); have K2 := Aside0.mk (blk_below (bq K1.out) hb'); clear hG hb'; (try clear ya0 ya1 ya2 ya3); have ya0 := kc K2.out 0 rfl; have ya1 := kc K2.out 1 rfl; have ya2 := kc K2.out 2 rfl; have ya3 := kc K2.out 3 rfl) | (go_at_call 37; refine (specC_calls HF.out (gq GA.out) (lq B2.out)).mono ?_; rintro e w3 ⟨U0, f0, rfl, hG, hb'⟩; have GW := Aside0.mk (hG.wide (lo' := w2.heap.size) (hi' := w3.heap.size) (by simp) (Nat.le_refl _) (Nat.le_refl _) B2.out.size); have S3 := Aside0.mk (Nat.le_trans (by simp : w2.heap.size ≤ _) hb'.size); have B3 := Aside0.mk (below_step (lq B2.out) hb'); have K3 := Aside0.mk (blk_below (bq K2.out) hb'); have nn3 : w.heap.size ≠ w3.heap.size := Nat.ne_of_lt (blk_lt K3.out); have ll3 : w.heap.size < w3.heap.size := blk_lt K3.out; clear hG hb'; (try clear ya0 ya1 ya2 ya3); have ya0 := kc K3.out 0 rfl; have ya1 := kc K3.out 1 rfl; have ya2 := kc K3.out 2 rfl; have ya3 := kc K3.out 3 rfl) | (go_at_call 38; clear T2; refine (toC_calls HF.out HC.out hc (lq B3.out)).mono ?_; rintro e w4 ⟨X0, h0, rfl, hG, hb'⟩; have GX := Aside0.mk (hG.wide (lo' := w3.heap.size + 1) (hi' := w4.heap.size) (by simp) (Nat.le_refl _) (Nat.le_refl _) (Nat.le_succ_of_le B3.out.size)); have B4 := Aside0.mk (below_step (lq B3.out) hb'); have K4 := Aside0.mk (blk_below (bq K3.out) hb'); have KW4 := Aside0.mk (blk_below (at1_0 (w := w3) (o0 := .cells #[.int .i64 p0, .int .i64 p1, .int .i64 p2, .slice U0 R.length f0] 70)) hb'); have GW4 := Aside0.mk ((gq GW.out).below hb'); have nn4 : w.heap.size ≠ w4.heap.size := Nat.ne_of_lt (blk_lt K4.out); have ll4 : w.heap.size < w4.heap.size := blk_lt K4.out; have nn5 : w3.heap.size ≠ w4.heap.size := Nat.ne_of_lt (blk_lt KW4.out); have ll5 : w3.heap.size < w4.heap.size := blk_lt KW4.out; clear hG hb'; (try clear ya0 ya1 ya2 ya3); have ya0 := kc K4.out 0 rfl; have ya1 := kc K4.out 1 rfl; have ya2 := kc K4.out 2 rfl; have ya3 := kc K4.out 3 rfl; have yw0 := kc KW4.out 0 rfl; have yw1 := kc KW4.out 1 rfl; have yw2 := kc KW4.out 2 rfl; have yw3 := kc KW4.out 3 rfl) | (go_at_call 39; clear T3; refine (implC_calls HF.out (gq GX.out) (lq B4.out)).mono ?_; rintro e w5 ⟨G0, i0, rfl, hG, hb'⟩; have GG := Aside0.mk (hG.wide (lo' := w4.heap.size + 1) (hi' := w5.heap.size) (by simp) (Nat.le_refl _) (Nat.le_refl _) (Nat.le_succ_of_le B4.out.size)); have B5 := Aside0.mk (below_step (lq B4.out) hb'); have K5 := Aside0.mk (blk_below (bq K4.out) hb'); have KW5 := Aside0.mk (blk_below (bq KW4.out) hb'); have KX5 := Aside0.mk (blk_below (at1_0 (w := w4) (o0 := .cells #[.int .i64 s0, .int .i64 s1, .int .i64 s2, .slice X0 L.length h0] 70)) hb'); have GW5 := Aside0.mk ((gq GW4.out).below hb'); have GX5 := Aside0.mk ((gq GX.out).below hb'); have nn6 : w.heap.size ≠ w5.heap.size := Nat.ne_of_lt (blk_lt K5.out); have ll6 : w.heap.size < w5.heap.size := blk_lt K5.out; have nn7 : w3.heap.size ≠ w5.heap.size := Nat.ne_of_lt (blk_lt KW5.out); have ll7 : w3.heap.size < w5.heap.size := blk_lt KW5.out; have nn8 : w4.heap.size ≠ w5.heap.size := Nat.ne_of_lt (blk_lt KX5.out); have ll8 : w4.heap.size < w5.heap.size := blk_lt KX5.out; clear hG hb'; (try clear ya0 ya1 ya2 ya3); (try clear yw0 yw1 yw2 yw3); have ya0 := kc K5.out 0 rfl; have ya1 := kc K5.out 1 rfl; have ya2 := kc K5.out 2 rfl; have ya3 := kc K5.out 3 rfl; have yw0 := kc KW5.out 0 rfl; have yw1 := kc KW5.out 1 rfl; have yw2 := kc KW5.out 2 rfl; have yw3 := kc KW5.out 3 rfl; have yx0 := kc KX5.out 0 rfl; have yx1 := kc KX5.out 1 rfl; have yx2 := kc KX5.out 2 rfl; have yx3 := kc KX5.out 3 rfl) | (go_at_call 40; clear T4; have L5 : Law3 w (w5.alloc (.cells #[.int .i64 p0, .int .i64 p1, .int .i64 p2, .slice G0 R.length i0] 70)) #[.int .i64 s0, .int .i64 s1, .int .i64 s2, .slice A l.length c] p0 p1 p2 s0 s1 s2 w3.heap.size w2.heap.size w3.heap.size (.slice U0 R.length f0) R w4.heap.size (w3.heap.size + 1) w4.heap.size (.slice X0 L.length h0) L w5.heap.size (w4.heap.size + 1) w5.heap.size (.slice G0 R.length i0) R := law3_mk K5.out KW5.out KX5.out GW5.out GX5.out GG.out B5.out (blk_lt K2.out) S3.out (blk_lt KW4.out) (blk_lt KX5.out); refine (eqR_calls HF.out (gq L5.gg) (gq L5.gw)).mono ?_; rintro e w6 ⟨rfl, hb'⟩; have L6 := Aside0.mk ((l3q L5).below hb'); clear hb' L5; (try clear ya0 ya1 ya2 ya3); (try clear yw0 yw1 yw2 yw3); (try clear yx0 yx1 yx2 yx3); (try clear yg0 yg1 yg2 yg3); have ya0 := kc L6.out.ka 0 rfl; have ya1 := kc L6.out.ka 1 rfl; have ya2 := kc L6.out.ka 2 rfl; have ya3 := kc L6.out.ka 3 rfl; have yw0 := kc L6.out.kw 0 rfl; have yw1 := kc L6.out.kw 1 rfl; have yw2 := kc L6.out.kw 2 rfl; have yw3 := kc L6.out.kw 3 rfl; have yx0 := kc L6.out.kx 0 rfl; have yx1 := kc L6.out.kx 1 rfl; have yx2 := kc L6.out.kx 2 rfl; have yx3 := kc L6.out.kx 3 rfl; have yg0 := kc L6.out.kg 0 rfl; have yg1 := kc L6.out.kg 1 rfl; have yg2 := kc L6.out.kg 2 rfl; have yg3 := kc L6.out.kg 3 rfl))
  go_region_held3 (fun w' => w'.cell? ⟨w4.heap.size, 0, none⟩ = some (.int .i64 s0) ∧ w'.cell? ⟨w4.heap.size, 1, none⟩ = some (.int .i64 s1) ∧ w'.cell? ⟨w4.heap.size, 2, none⟩ = some (.int .i64 s2) ∧ w'.cell? ⟨w4.heap.size, 3, none⟩ = some (.slice X0 L.length h0) ∧ w'.cell? ⟨w.heap.size, 0, none⟩ = some (.int .i64 s0) ∧ w'.cell? ⟨w.heap.size, 1, none⟩ = some (.int .i64 s1) ∧ w'.cell? ⟨w.heap.size, 2, none⟩ = some (.int .i64 s2) ∧ w'.cell? ⟨w.heap.size, 3, none⟩ = some (.slice A l.length c)) (go_keep)
    ((first | (go_at_call 38; refine (toC_calls HF.out HC.out hc (lq L6.out.be)).mono ?_; rintro e w7 ⟨Y0, k0, rfl, hG, hb'⟩; have L7 := Aside0.mk ((l3q L6.out).below hb'); have GY := Aside0.mk hG; clear hG hb'; have z0 := kc L7.out.kx 0 rfl; have z1 := kc L7.out.kx 1 rfl; have z2 := kc L7.out.kx 2 rfl; have z3 := kc L7.out.kx 3 rfl; have z4 := kc L7.out.ka 0 rfl; have z5 := kc L7.out.ka 1 rfl; have z6 := kc L7.out.ka 2 rfl; have z7 := kc L7.out.ka 3 rfl) | (go_at_call 40; refine (eqL_calls HF.out (gq L7.out.gx) (gq GY.out)).mono ?_; rintro e w8 ⟨rfl, hb'⟩; have L8 := Aside0.mk ((l3q L7.out).below hb'); clear hb'; have z0 := kc L8.out.kx 0 rfl; have z1 := kc L8.out.kx 1 rfl; have z2 := kc L8.out.kx 2 rfl; have z3 := kc L8.out.kx 3 rfl; have z4 := kc L8.out.ka 0 rfl; have z5 := kc L8.out.ka 1 rfl; have z6 := kc L8.out.ka 2 rfl; have z7 := kc L8.out.ka 3 rfl)))
  (try clear ya0 ya1 ya2 ya3)
  (try clear yw0 yw1 yw2 yw3)
  (try clear yx0 yx1 yx2 yx3)
  (try clear yg0 yg1 yg2 yg3)
  have ya0 := kc L8.out.ka 0 rfl
  have ya1 := kc L8.out.ka 1 rfl
  have ya2 := kc L8.out.ka 2 rfl
  have ya3 := kc L8.out.ka 3 rfl
  have yw0 := kc L8.out.kw 0 rfl
  have yw1 := kc L8.out.kw 1 rfl
  have yw2 := kc L8.out.kw 2 rfl
  have yw3 := kc L8.out.kw 3 rfl
  have yx0 := kc L8.out.kx 0 rfl
  have yx1 := kc L8.out.kx 1 rfl
  have yx2 := kc L8.out.kx 2 rfl
  have yx3 := kc L8.out.kx 3 rfl
  have yg0 := kc L8.out.kg 0 rfl
  have yg1 := kc L8.out.kg 1 rfl
  have yg2 := kc L8.out.kg 2 rfl
  have yg3 := kc L8.out.kg 3 rfl
  go_wp2_with (first | (go_at_call 41; clear T6; refine (markC_calls w _ _ _ s0 s1 s2 _ L 1 (lq L8.out.be) (gq L8.out.gx) (by decide) HF.out.mL HF.out.nL).mono ?_; rintro e w9 ⟨rfl, hG, hF⟩; have L9 := Aside0.mk ((l3q L8.out).markX hG hF); clear hG hF; (try clear ya0 ya1 ya2 ya3); (try clear yw0 yw1 yw2 yw3); (try clear yx0 yx1 yx2 yx3); (try clear yg0 yg1 yg2 yg3); have ya0 := kc L9.out.ka 0 rfl; have ya1 := kc L9.out.ka 1 rfl; have ya2 := kc L9.out.ka 2 rfl; have ya3 := kc L9.out.ka 3 rfl; have yw0 := kc L9.out.kw 0 rfl; have yw1 := kc L9.out.kw 1 rfl; have yw2 := kc L9.out.kw 2 rfl; have yw3 := kc L9.out.kw 3 rfl; have yx0 := kc L9.out.kx 0 rfl; have yx1 := kc L9.out.kx 1 rfl; have yx2 := kc L9.out.kx 2 rfl; have yx3 := kc L9.out.kx 3 rfl; have yg0 := kc L9.out.kg 0 rfl; have yg1 := kc L9.out.kg 1 rfl; have yg2 := kc L9.out.kg 2 rfl; have yg3 := kc L9.out.kg 3 rfl) | (go_at_call 40; clear T7; refine (eqR_calls HF.out (gq L9.out.gg) (gq L9.out.gw)).mono ?_; rintro e w10 ⟨rfl, hb'⟩; have L10 := Aside0.mk ((l3q L9.out).below hb'); clear hb'; (try clear ya0 ya1 ya2 ya3); (try clear yw0 yw1 yw2 yw3); (try clear yx0 yx1 yx2 yx3); (try clear yg0 yg1 yg2 yg3); have ya0 := kc L10.out.ka 0 rfl; have ya1 := kc L10.out.ka 1 rfl; have ya2 := kc L10.out.ka 2 rfl; have ya3 := kc L10.out.ka 3 rfl; have yw0 := kc L10.out.kw 0 rfl; have yw1 := kc L10.out.kw 1 rfl; have yw2 := kc L10.out.kw 2 rfl; have yw3 := kc L10.out.kw 3 rfl; have yx0 := kc L10.out.kx 0 rfl; have yx1 := kc L10.out.kx 1 rfl; have yx2 := kc L10.out.kx 2 rfl; have yx3 := kc L10.out.kx 3 rfl; have yg0 := kc L10.out.kg 0 rfl; have yg1 := kc L10.out.kg 1 rfl; have yg2 := kc L10.out.kg 2 rfl; have yg3 := kc L10.out.kg 3 rfl) | (go_at_call 41; clear T8; refine (markC_calls w _ _ _ p0 p1 p2 _ R 1 (lq L10.out.be) (gq L10.out.gg) (by decide) HF.out.mR HF.out.nR).mono ?_; rintro e w11 ⟨rfl, hG, hF⟩; have L11 := Aside0.mk ((l3q L10.out).markG hG hF); clear hG hF; (try clear ya0 ya1 ya2 ya3); (try clear yw0 yw1 yw2 yw3); (try clear yx0 yx1 yx2 yx3); (try clear yg0 yg1 yg2 yg3); have ya0 := kc L11.out.ka 0 rfl; have ya1 := kc L11.out.ka 1 rfl; have ya2 := kc L11.out.ka 2 rfl; have ya3 := kc L11.out.ka 3 rfl; have yw0 := kc L11.out.kw 0 rfl; have yw1 := kc L11.out.kw 1 rfl; have yw2 := kc L11.out.kw 2 rfl; have yw3 := kc L11.out.kw 3 rfl; have yx0 := kc L11.out.kx 0 rfl; have yx1 := kc L11.out.kx 1 rfl; have yx2 := kc L11.out.kx 2 rfl; have yx3 := kc L11.out.kx 3 rfl; have yg0 := kc L11.out.kg 0 rfl; have yg1 := kc L11.out.kg 1 rfl; have yg2 := kc L11.out.kg 2 rfl; have yg3 := kc L11.out.kg 3 rfl) | (go_at_call 42; clear T9; refine (heldC_calls HF.out (gq L11.out.gg)).mono ?_; rintro e w12 ⟨rfl, hb'⟩; have L12 := Aside0.mk ((l3q L11.out).below hb'); clear hb'; (try clear ya0 ya1 ya2 ya3); (try clear yw0 yw1 yw2 yw3); (try clear yx0 yx1 yx2 yx3); (try clear yg0 yg1 yg2 yg3); have ya0 := kc L12.out.ka 0 rfl; have ya1 := kc L12.out.ka 1 rfl; have ya2 := kc L12.out.ka 2 rfl; have ya3 := kc L12.out.ka 3 rfl; have yw0 := kc L12.out.kw 0 rfl; have yw1 := kc L12.out.kw 1 rfl; have yw2 := kc L12.out.kw 2 rfl; have yw3 := kc L12.out.kw 3 rfl; have yx0 := kc L12.out.kx 0 rfl; have yx1 := kc L12.out.kx 1 rfl; have yx2 := kc L12.out.kx 2 rfl; have yx3 := kc L12.out.kx 3 rfl; have yg0 := kc L12.out.kg 0 rfl; have yg1 := kc L12.out.kg 1 rfl; have yg2 := kc L12.out.kg 2 rfl; have yg3 := kc L12.out.kg 3 rfl) | (go_at_call 38; clear T10; refine (toC_calls HF.out HC.out hc (lq L12.out.be)).mono ?_; rintro e w13 ⟨Z0, n0, rfl, hG, hb'⟩; have L13 := Aside0.mk ((l3q L12.out).below hb'); have GZ := Aside0.mk hG; clear hG hb'; (try clear ya0 ya1 ya2 ya3); (try clear yw0 yw1 yw2 yw3); (try clear yx0 yx1 yx2 yx3); (try clear yg0 yg1 yg2 yg3); have ya0 := kc L13.out.ka 0 rfl; have ya1 := kc L13.out.ka 1 rfl; have ya2 := kc L13.out.ka 2 rfl; have ya3 := kc L13.out.ka 3 rfl; have yw0 := kc L13.out.kw 0 rfl; have yw1 := kc L13.out.kw 1 rfl; have yw2 := kc L13.out.kw 2 rfl; have yw3 := kc L13.out.kw 3 rfl; have yx0 := kc L13.out.kx 0 rfl; have yx1 := kc L13.out.kx 1 rfl; have yx2 := kc L13.out.kx 2 rfl; have yx3 := kc L13.out.kx 3 rfl; have yg0 := kc L13.out.kg 0 rfl; have yg1 := kc L13.out.kg 1 rfl; have yg2 := kc L13.out.kg 2 rfl; have yg3 := kc L13.out.kg 3 rfl) | (go_at_call 39; clear T11; refine (implC_calls HF.out (gq GZ.out) (lq L13.out.be)).mono ?_; rintro e w14 ⟨H0, o0, rfl, hG, hb'⟩; have L14 := Aside0.mk ((l3q L13.out).below hb'); have GH := Aside0.mk hG; clear hG hb'; have la := blk_lt L14.out.ka; have lw := blk_lt L14.out.kw; have lx := blk_lt L14.out.kx; have lg := blk_lt L14.out.kg; have na := Nat.ne_of_lt la; have nw := Nat.ne_of_lt lw; have nx := Nat.ne_of_lt lx; have ng := Nat.ne_of_lt lg; (try clear ya0 ya1 ya2 ya3); (try clear yw0 yw1 yw2 yw3); (try clear yx0 yx1 yx2 yx3); (try clear yg0 yg1 yg2 yg3); have ya0 := kc L14.out.ka 0 rfl; have ya1 := kc L14.out.ka 1 rfl; have ya2 := kc L14.out.ka 2 rfl; have ya3 := kc L14.out.ka 3 rfl; have yw0 := kc L14.out.kw 0 rfl; have yw1 := kc L14.out.kw 1 rfl; have yw2 := kc L14.out.kw 2 rfl; have yw3 := kc L14.out.kw 3 rfl; have yx0 := kc L14.out.kx 0 rfl; have yx1 := kc L14.out.kx 1 rfl; have yx2 := kc L14.out.kx 2 rfl; have yx3 := kc L14.out.kx 3 rfl; have yg0 := kc L14.out.kg 0 rfl; have yg1 := kc L14.out.kg 1 rfl; have yg2 := kc L14.out.kg 2 rfl; have yg3 := kc L14.out.kg 3 rfl) | (go_at_call 40; clear T12; refine (eqR_calls HF.out (gq GH.out) (gq L14.out.gw)).mono ?_; rintro e w15 ⟨rfl, hb'⟩; have L15 := Aside0.mk ((l3q L14.out).below hb'); clear hb'; (try clear ya0 ya1 ya2 ya3); (try clear yw0 yw1 yw2 yw3); (try clear yx0 yx1 yx2 yx3); (try clear yg0 yg1 yg2 yg3); have ya0 := kc L15.out.ka 0 rfl; have ya1 := kc L15.out.ka 1 rfl; have ya2 := kc L15.out.ka 2 rfl; have ya3 := kc L15.out.ka 3 rfl; have yw0 := kc L15.out.kw 0 rfl; have yw1 := kc L15.out.kw 1 rfl; have yw2 := kc L15.out.kw 2 rfl; have yw3 := kc L15.out.kw 3 rfl; have yx0 := kc L15.out.kx 0 rfl; have yx1 := kc L15.out.kx 1 rfl; have yx2 := kc L15.out.kx 2 rfl; have yx3 := kc L15.out.kx 3 rfl; have yg0 := kc L15.out.kg 0 rfl; have yg1 := kc L15.out.kg 1 rfl; have yg2 := kc L15.out.kg 2 rfl; have yg3 := kc L15.out.kg 3 rfl) | (go_at_call 42; refine (heldC_calls HF.out (gq L15.out.gg)).mono ?_; rintro e w16 ⟨rfl, hb'⟩; have L16 := Aside0.mk ((l3q L15.out).below hb'); clear hb'; (try clear ya0 ya1 ya2 ya3); (try clear yw0 yw1 yw2 yw3); (try clear yx0 yx1 yx2 yx3); (try clear yg0 yg1 yg2 yg3); have ya0 := kc L16.out.ka 0 rfl; have ya1 := kc L16.out.ka 1 rfl; have ya2 := kc L16.out.ka 2 rfl; have ya3 := kc L16.out.ka 3 rfl; have yw0 := kc L16.out.kw 0 rfl; have yw1 := kc L16.out.kw 1 rfl; have yw2 := kc L16.out.kw 2 rfl; have yw3 := kc L16.out.kw 3 rfl; have yx0 := kc L16.out.kx 0 rfl; have yx1 := kc L16.out.kx 1 rfl; have yx2 := kc L16.out.kx 2 rfl; have yx3 := kc L16.out.kx 3 rfl; have yg0 := kc L16.out.kg 0 rfl; have yg1 := kc L16.out.kg 1 rfl; have yg2 := kc L16.out.kg 2 rfl; have yg3 := kc L16.out.kg 3 rfl))
  go_ret
  exact ⟨rfl, lq L16.out.be⟩
set_option maxHeartbeats 8000000 in
set_option maxRecDepth 100000 in
theorem lawCU_short (K : Nat) (s0 s1 s2 : Int) (A : Option Addr) (c : Nat) (l : List (List S140)) (a : Int) (wr : Bool) (q : Int) (w : World) (hC : Kd.C (Kd.slice 140 k140) w A l.length l) (hc : l.length ≤ c) (hq : laws_szCache.f K s0 s1 s2 l 1048576 = some q) (h0 : q < 0) :
    Calls Try.prog 8 #[.agg #[.int .i64 s0, .int .i64 s1, .int .i64 s2, .slice A l.length c], .int .i64 a, .bool wr] w fun e w' => e = .returned (.bool true) ∧ Below w.heap.size w w' := by
  have hu66 := Try.underlying66
  have HC := Aside0.mk hC
  have HQ := Aside0.mk hq
  have q0 : decide (q < 0) = true := decide_eq_true h0
  clear hC hq
  go_enter Try.func8, Try.ntmps8
  go_wp2_with (go_at_call 36; refine (laws_szCache.calls K s0 s1 s2 A c l 1048576 q _ (cq HC.out) hc HQ.out).mono ?_; rintro e w1 ⟨rfl, hb'⟩; have B1 := Aside0.mk (below_step (below_alloc (Below.refl _ w) _) hb'); clear hb')
  go_ret
  exact ⟨rfl, lq B1.out⟩
/-- What the law's calls answer, or there is too much. -/
def GoodCU (s0 s1 s2 : Int) (l : List (List S140)) (a : Int) (wr : Bool) : Prop :=
  ∃ K q, laws_szCache.f K s0 s1 s2 l 1048576 = some q ∧ (q < 0 ∨ ∃ L p0 p1 p2 R b1 b2, CuF K s0 s1 s2 l L a wr p0 p1 p2 R b1 b2)
open Classical in
noncomputable def laws_FnExactCacheUse.f (k : Nat) (a0_0 a0_1 a0_2 : Int) (l0_3 : List (List S140)) (a1 : Int) (a2 : Bool) : Option Bool := if GoodCU a0_0 a0_1 a0_2 l0_3 a1 a2 then some true else none
theorem laws_FnExactCacheUse.calls (k : Nat) (a0_0 : Int) (a0_1 : Int) (a0_2 : Int) (A0_3 : Option Addr) (c0_3 : Nat) (l0_3 : List (List S140)) (a1 : Int) (a2 : Bool) (w : World) (hr0_3 : Kd.C (Kd.slice 140 k140) w A0_3 l0_3.length l0_3) (hc0_3 : l0_3.length ≤ c0_3) (h : laws_FnExactCacheUse.f k a0_0 a0_1 a0_2 l0_3 a1 a2 = some true) :
    Calls Try.prog 8 #[.agg #[.int .i64 a0_0, .int .i64 a0_1, .int .i64 a0_2, .slice A0_3 l0_3.length c0_3], .int .i64 a1, .bool a2] w fun e w' => e = .returned (.bool true) ∧ Below w.heap.size w w' := by
  have hG : GoodCU a0_0 a0_1 a0_2 l0_3 a1 a2 := by
    unfold laws_FnExactCacheUse.f at h
    by_cases c : GoodCU a0_0 a0_1 a0_2 l0_3 a1 a2
    · exact c
    · rw [if_neg c] at h; cases h
  obtain ⟨K, q, hq, hcase⟩ := hG
  by_cases c : q < 0
  · exact lawCU_short K a0_0 a0_1 a0_2 A0_3 c0_3 l0_3 a1 a2 q w hr0_3 hc0_3 hq c
  · obtain ⟨L, p0, p1, p2, R, b1, b2, hF⟩ := hcase.resolve_left c
    exact lawCU_long K a0_0 a0_1 a0_2 A0_3 c0_3 l0_3 L a1 a2 q p0 p1 p2 R b1 b2 w hr0_3 hc0_3 hq (by omega) hF
end Go.Proofs.Ytglehilfemfiiaa.GU
