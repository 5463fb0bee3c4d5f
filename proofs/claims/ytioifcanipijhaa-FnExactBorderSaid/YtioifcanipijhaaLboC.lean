/- The law FnExactBorder, walked by hand on its one path: the pure facts say what each call answers. -/
import Derived.Test.YtioifcanipijhaaBrgC
import Derived.Deep.RegionHeld3
import Derived.Deep.DeepCutAuto
namespace Go.Proofs.Ytioifcanipijhaa.GC
open Go.RowKit Go.Proofs.YtioifcanipijhaaW.PrintWords Go.Proofs.YtioifcanipijhaaW.PrintLast Go.Proofs.YtioifcanipijhaaW.PrintMore Go.Proofs.Ytioifcanipijhaa.Q Go.Proofs.Ytioifcanipijhaa.Hnd Go.Proofs.Ytioifcanipijhaa.Chn
set_option linter.unusedVariables false
set_option linter.unusedSimpArgs false
/-- What the law's calls answer. -/
structure GoodB (K : Nat) (a0 a1 a2 a3 b0 : Int) (l m : List Int) (r : Int) (V1 V2 V3 l' m' G1 G2 G3 : List Int) (k1 k2 m1 m2 m3 : Int) : Prop where
  co : laws_toOutEnd.f K b0 l = some (b0, l)
  ci : laws_toInEnd.f K m = some m
  sp : spec_Border.f K a0 a1 a2 a3 b0 l m = some (r, V1, V2, V3)
  im : impl_Border.f a0 a1 a2 a3 b0 l m = some (r, V1, V2, V3)
  e1 : laws_eqOutEnd.f K r V1 r V1 = some true
  e2 : laws_eqInEnd.f K V2 V2 = some true
  e3 : laws_eqUint32S.f K V3 V3 = some true
  e4 : laws_eqOutEnd.f K b0 l b0 l = some true
  e5 : laws_eqInEnd.f K m m = some true
  x1 : laws_markOutEnd.f K b0 l 1 = some (k1, l')
  x2 : laws_markInEnd.f K m k1 = some (k2, m')
  x3 : laws_markOutEnd.f K r V1 1 = some (m1, G1)
  x4 : laws_markInEnd.f K V2 m1 = some (m2, G2)
  x5 : laws_markUint32S.f K V3 m2 = some (m3, G3)
  h1 : laws_heldOutEnd.f K r G1 1 = some m1
  h2 : laws_heldInEnd.f K G2 m1 = some m2
  h3 : laws_heldUint32S.f K G3 m2 = some m3
  p0 : 0 ≤ k2
  p1 : 0 ≤ m1
  p2 : 0 ≤ m2
  p3 : 0 ≤ m3
set_option maxHeartbeats 64000000 in
set_option maxRecDepth 100000 in
theorem lawB_long (K : Nat) (a0 a1 a2 a3 b0 : Int) (A : Option Addr) (c : Nat) (l : List Int) (A' : Option Addr) (c' : Nat) (m : List Int) (q1 q2 r : Int) (V1 V2 V3 l' m' G1 G2 G3 : List Int) (k1 k2 m1 m2 m3 : Int) (w : World)
    (hC : Kd.C (Kd.int .u32) w A l.length l) (hc : l.length ≤ c) (hC' : Kd.C (Kd.int .u32) w A' m.length m) (hc' : m.length ≤ c') (hq1 : laws_szOutEnd.f b0 l 1048576 = some q1) (h1 : 0 ≤ q1) (hq2 : laws_szInEnd.f m q1 = some q2) (h2 : 0 ≤ q2)
    (hg : GoodB K a0 a1 a2 a3 b0 l m r V1 V2 V3 l' m' G1 G2 G3 k1 k2 m1 m2 m3) :
    Calls Try.prog 9 #[.agg #[.int .i64 a0, .int .i64 a1, .int .i64 a2, .int .i64 a3], .agg #[.int .i64 b0, .slice A l.length c], .agg #[.slice A' m.length c']] w fun e w' => e = .returned (.bool true) ∧ Below w.heap.size w w' := by
  have hu23 := Try.underlying23
  have hu26 := Try.underlying26
  have hu29 := Try.underlying29
  have hu31 := Try.underlying31
  have hu36 := Try.underlying36
  have hu39 := Try.underlying39
  have HC := Aside0.mk hC
  have HC' := Aside0.mk hC'
  have HQ1 := Aside0.mk hq1
  have HQ2 := Aside0.mk hq2
  have HTO := Aside0.mk hg.co
  have HTI := Aside0.mk hg.ci
  have HS := Aside0.mk hg.sp
  have HI := Aside0.mk hg.im
  have HG := Aside0.mk hg
  have q10 : decide (q1 < 0) = false := decide_eq_false (by omega)
  have q20 : decide (q2 < 0) = false := decide_eq_false (by omega)
  have k20 : decide (k2 < 0) = false := decide_eq_false (by have := hg.p0; omega)
  have m10 : decide (m1 < 0) = false := decide_eq_false (by have := hg.p1; omega)
  have m20 : decide (m2 < 0) = false := decide_eq_false (by have := hg.p2; omega)
  have m30 : decide (m3 < 0) = false := decide_eq_false (by have := hg.p3; omega)
  have D3 : (m3 != m3) = false := by simp
  clear hC hC' hq1 hq2 hg
  go_enter Try.func9, Try.ntmps9
  go_upto_region 8 with (first | (go_at_call 20; refine (laws_szOutEnd.calls b0 A c l 1048576 q1 _ (cq HC.out) hc HQ1.out).mono ?_; rintro e w1 ⟨rfl, hb⟩; have LA : Aside0 (LB w w1 #[.int .i64 a0, .int .i64 a1, .int .i64 a2, .int .i64 a3] #[.int .i64 b0, .slice A l.length c] #[.slice A' m.length c']) := ⟨⟨blk_below at3_0 hb, blk_below at3_1 hb, blk_below at3_2 hb, below_step (lq (Below.refl w.heap.size w)) hb⟩⟩; clear hb; (try clear ya0 ya1 ya2 ya3 yb0 yb1 yc0); have ya0 := kc LA.out.k0 0 rfl; have ya1 := kc LA.out.k0 1 rfl; have ya2 := kc LA.out.k0 2 rfl; have ya3 := kc LA.out.k0 3 rfl; have yb0 := kc LA.out.k1 0 rfl; have yb1 := kc LA.out.k1 1 rfl; have yc0 := kc LA.out.k2 0 rfl) | (go_at_call 14; refine (laws_szInEnd.calls A' c' m q1 q2 _ (cq (Kd.C_below HC'.out LA.out.be)) hc' HQ2.out).mono ?_; rintro e w2 ⟨rfl, hb⟩; have LW := Aside0.mk ((lbq LA.out).below hb); clear hb LA; (try clear ya0 ya1 ya2 ya3 yb0 yb1 yc0); have ya0 := kc LW.out.k0 0 rfl; have ya1 := kc LW.out.k0 1 rfl; have ya2 := kc LW.out.k0 2 rfl; have ya3 := kc LW.out.k0 3 rfl; have yb0 := kc LW.out.k1 0 rfl; have yb1 := kc LW.out.k1 1 rfl; have yc0 := kc LW.out.k2 0 rfl; (try clear z00 z01 z02 z03 z04 z05 z10 z11 z12 z13 z14 z15 z20 z21 z22 z23 z24 z25); have zz := LB.nes LW.out; have z00 := zz.1.1; have z01 := zz.1.2.1; have z02 := zz.1.2.2.1; have z03 := zz.1.2.2.2.1; have z04 := zz.1.2.2.2.2.1; have z05 := zz.1.2.2.2.2.2; have z10 := zz.2.1.1; have z11 := zz.2.1.2.1; have z12 := zz.2.1.2.2.1; have z13 := zz.2.1.2.2.2.1; have z14 := zz.2.1.2.2.2.2.1; have z15 := zz.2.1.2.2.2.2.2; have z20 := zz.2.2.1; have z21 := zz.2.2.2.1; have z22 := zz.2.2.2.2.1; have z23 := zz.2.2.2.2.2.1; have z24 := zz.2.2.2.2.2.2.1; have z25 := zz.2.2.2.2.2.2.2; clear zz))
  go_cut [8, 9, 10] (fun s8 s9 s10 wc => ∃ (b8 b9 : Nat) (B1 : Option Addr) (d1 : Nat) (B2 : Option Addr) (d2 : Nat) (B3 : Option Addr) (d3 : Nat), s8 = .pointer (some ⟨b8, 0, none⟩) ∧ s9 = .pointer (some ⟨b9, 0, none⟩) ∧ s10 = .slice B3 V3.length d3 ∧ Aside0 (L8 w w2 wc b8 b9 r (.slice B1 V1.length d1) (.slice B2 V2.length d2) (.slice B3 V3.length d3) V1 V2 V3))
  case first =>
    refine wp_region_noPanic ?_
    refine reg4x (ops := opsOf Try.f9 8) (s := 32) (dA := 8) (f := 37) (fn := Try.f37) (K := K) ops8 (by decide) (by decide) (by decide) (by kernel_rfl) rfl rfl rfl (fun W lo hi lo' hi' A1 A2 c1 c2 be g1 g2 => specB_calls K a0 a1 a2 a3 b0 r V1 V2 V3 be g1 g2 HS.out) Try.func37 rfl rfl HC.out hc HC'.out hc' HTO.out HTI.out (by kernel_rfl) (fun _ _ _ _ _ h => h) LW.out ?_
    intro X b8 b9 O1 o1 I1 i1 B1 d1 B2 d2 B3 d3 H8
    refine NoPanic.normal ?_
    simp only [two, putO, Act.put, List.setIfInBounds_toArray, List.set_cons_zero, List.set_cons_succ]
    go_wp2
    go_meet
    case rel => exact ⟨b8, b9, B1, d1, B2, d2, B3, d3, rfl, rfl, rfl, ⟨H8⟩⟩
  case rest =>
    obtain ⟨b8, b9, B1, d1, B2, d2, B3, d3, rfl, rfl, rfl, H8⟩ := hcut
    obtain ⟨wk, hwk⟩ : ∃ wk : World, wk = wc := ⟨_, rfl⟩
    subst hwk
    have L8_ := Aside0.mk (LW.out.below H8.out.be)
    have K8 := Aside0.mk (below_step LW.out.be H8.out.be)
    (try clear ya0 ya1 ya2 ya3 yb0 yb1 yc0)
    have ya0 := kc L8_.out.k0 0 rfl
    have ya1 := kc L8_.out.k0 1 rfl
    have ya2 := kc L8_.out.k0 2 rfl
    have ya3 := kc L8_.out.k0 3 rfl
    have yb0 := kc L8_.out.k1 0 rfl
    have yb1 := kc L8_.out.k1 1 rfl
    have yc0 := kc L8_.out.k2 0 rfl
    have yd0 := kc H8.out.p.p 0 rfl
    have yd1 := kc H8.out.p.p 1 rfl
    have ye0 := kc H8.out.p.q 0 rfl
    go_upto_region 10 with (first | (go_at_call 22; refine (toOut_calls K b0 A c l l (lq L8_.out.be) (cq (Kd.C_below HC.out L8_.out.be)) hc HTO.out).mono ?_; rintro e w6 ⟨O1, o1, rfl, hO, hb6⟩; have RX := Aside0.mk hO; have B6 := Aside0.mk hb6; have L6 := Aside0.mk ((lbq L8_.out).below hb6); clear hO hb6; (try clear ya0 ya1 ya2 ya3 yb0 yb1 yc0); have ya0 := kc L6.out.k0 0 rfl; have ya1 := kc L6.out.k0 1 rfl; have ya2 := kc L6.out.k0 2 rfl; have ya3 := kc L6.out.k0 3 rfl; have yb0 := kc L6.out.k1 0 rfl; have yb1 := kc L6.out.k1 1 rfl; have yc0 := kc L6.out.k2 0 rfl; (try clear z00 z01 z02 z03 z04 z05 z10 z11 z12 z13 z14 z15 z20 z21 z22 z23 z24 z25); have zz := LB.nes L6.out; have z00 := zz.1.1; have z01 := zz.1.2.1; have z02 := zz.1.2.2.1; have z03 := zz.1.2.2.2.1; have z04 := zz.1.2.2.2.2.1; have z05 := zz.1.2.2.2.2.2; have z10 := zz.2.1.1; have z11 := zz.2.1.2.1; have z12 := zz.2.1.2.2.1; have z13 := zz.2.1.2.2.2.1; have z14 := zz.2.1.2.2.2.2.1; have z15 := zz.2.1.2.2.2.2.2; have z20 := zz.2.2.1; have z21 := zz.2.2.2.1; have z22 := zz.2.2.2.2.1; have z23 := zz.2.2.2.2.2.1; have z24 := zz.2.2.2.2.2.2.1; have z25 := zz.2.2.2.2.2.2.2; clear zz))
    go_cut [12] (fun s12 wc => ∃ (bY n3 : Nat) (I1 : Option Addr) (i1 : Nat), s12 = .pointer (some ⟨bY, 0, none⟩) ∧ wk.heap.size ≤ w6.heap.size ∧ w6.heap.size ≤ n3 ∧ Aside0 (LX w wc #[.int .i64 a0, .int .i64 a1, .int .i64 a2, .int .i64 a3] #[.int .i64 b0, .slice A l.length c] #[.slice A' m.length c'] b8 b9 w6.heap.size bY wk.heap.size w6.heap.size n3 r b0 (.slice B1 V1.length d1) (.slice B2 V2.length d2) (.slice B3 V3.length d3) (.slice O1 l.length o1) (.slice I1 m.length i1) V1 V2 V3 l m))
    case first =>
      go_wp2_with (first | (go_at_call 17; refine (toIn_calls K A' c' m m (lq L6.out.be) (cq (Kd.C_below HC'.out L6.out.be)) hc' HTI.out).mono ?_; rintro e w7 ⟨I1, i1, rfl, hI, hb7⟩; have RY := Aside0.mk hI; have B7 := Aside0.mk hb7; have n6 := Nat.ne_of_lt (blk_lt (blk_below (at1_0 (w := w6) (o0 := .cells #[.int .i64 b0, .slice O1 l.length o1] 39)) hb7)); clear hI hb7))
      go_meet
      case rel => exact ⟨_, _, I1, i1, rfl, B6.out.size, Nat.le_trans (by simp) B7.out.size, ⟨LX.mk_ LW.out H8.out B6.out RX.out B7.out RY.out⟩⟩
    case rest =>
      obtain ⟨bY, n3, I1, i1, rfl, nn1, nn2, LY⟩ := hcut
      obtain ⟨u0, hu0⟩ : ∃ u0 : World, u0 = wc := ⟨_, rfl⟩
      subst hu0
      (try clear ya0 ya1 ya2 ya3 yb0 yb1 yc0 yd0 yd1 ye0 yf0 yf1 yg0 yh0 yh1 yi0)
      have ya0 := kc LY.out.l.k0 0 rfl
      have ya1 := kc LY.out.l.k0 1 rfl
      have ya2 := kc LY.out.l.k0 2 rfl
      have ya3 := kc LY.out.l.k0 3 rfl
      have yb0 := kc LY.out.l.k1 0 rfl
      have yb1 := kc LY.out.l.k1 1 rfl
      have yc0 := kc LY.out.l.k2 0 rfl
      have yd0 := kc LY.out.pv.p 0 rfl
      have yd1 := kc LY.out.pv.p 1 rfl
      have ye0 := kc LY.out.pv.q 0 rfl
      have yf0 := kc LY.out.px.p 0 rfl
      have yf1 := kc LY.out.px.p 1 rfl
      have yg0 := kc LY.out.px.q 0 rfl
      (try clear z00 z01 z02 z03 z04 z05 z10 z11 z12 z13 z14 z15 z20 z21 z22 z23 z24 z25)
      have zz := LB.nes LY.out.l
      have z00 := zz.1.1
      have z01 := zz.1.2.1
      have z02 := zz.1.2.2.1
      have z03 := zz.1.2.2.2.1
      have z04 := zz.1.2.2.2.2.1
      have z05 := zz.1.2.2.2.2.2
      have z10 := zz.2.1.1
      have z11 := zz.2.1.2.1
      have z12 := zz.2.1.2.2.1
      have z13 := zz.2.1.2.2.2.1
      have z14 := zz.2.1.2.2.2.2.1
      have z15 := zz.2.1.2.2.2.2.2
      have z20 := zz.2.2.1
      have z21 := zz.2.2.2.1
      have z22 := zz.2.2.2.2.1
      have z23 := zz.2.2.2.2.2.1
      have z24 := zz.2.2.2.2.2.2.1
      have z25 := zz.2.2.2.2.2.2.2
      clear zz
      have LZ := Aside0.mk LY.out.l
      have zx := Nat.ne_of_lt (blk_lt LY.out.px.p)
      have zy := Nat.ne_of_lt (blk_lt LY.out.px.q)
      have zx1 : w6.heap.size < u0.heap.size := blk_lt LY.out.px.p
      have zy1 : bY < u0.heap.size := blk_lt LY.out.px.q
      have zx2 : w6.heap.size ≠ u0.heap.size + 1 := by omega
      have zy2 : bY ≠ u0.heap.size + 1 := by omega
      go_upto_region 11 with (fail)
      go_cut [13, 14, 15] (fun s13 s14 s15 wc => ∃ (bG bH : Nat) (E1 : Option Addr) (j1 : Nat) (E2 : Option Addr) (j2 : Nat) (E3 : Option Addr) (j3 : Nat), s13 = .pointer (some ⟨bG, 0, none⟩) ∧ s14 = .pointer (some ⟨bH, 0, none⟩) ∧ s15 = .slice E3 V3.length j3 ∧ Aside0 (L8 w u0 wc bG bH r (.slice E1 V1.length j1) (.slice E2 V2.length j2) (.slice E3 V3.length j3) V1 V2 V3))
      case first =>
        refine wp_region_noPanic ?_
        refine reg2 (ops := opsOf Try.f9 11) ops11 (by kernel_rfl) rfl rfl rfl LY.out HI.out (by kernel_rfl) (fun _ _ _ _ _ h => h) ?_
        intro X bG bH E1 j1 E2 j2 E3 j3 H11
        refine NoPanic.normal ?_
        simp only [two, putO, Act.put, List.setIfInBounds_toArray, List.set_cons_zero, List.set_cons_succ]
        go_wp2
        go_meet
        case rel => exact ⟨bG, bH, E1, j1, E2, j2, E3, j3, rfl, rfl, rfl, ⟨H11⟩⟩
      case rest =>
        obtain ⟨bG, bH, E1, j1, E2, j2, E3, j3, rfl, rfl, rfl, H11⟩ := hcut
        obtain ⟨wq, hwq⟩ : ∃ wq : World, wq = wc := ⟨_, rfl⟩
        subst hwq
        have Q0 := Aside0.mk (LQ.mk_ LY.out ⟨nn1, nn2⟩ H11.out)
        clear H11 LY LZ H8 L8_ K8 LW L6 B6 RX
        (try clear z00 z01 z02 z03 z04 z05 z10 z11 z12 z13 z14 z15 z20 z21 z22 z23 z24 z25)
        (try clear zx zy zx1 zy1 zx2 zy2)
        (try clear ya0 ya1 ya2 ya3 yb0 yb1 yc0 yd0 yd1 ye0 yf0 yf1 yg0 yh0 yh1 yi0)
        have ya0 := kc Q0.out.h.l.k0 0 rfl
        have ya1 := kc Q0.out.h.l.k0 1 rfl
        have ya2 := kc Q0.out.h.l.k0 2 rfl
        have ya3 := kc Q0.out.h.l.k0 3 rfl
        have yb0 := kc Q0.out.h.l.k1 0 rfl
        have yb1 := kc Q0.out.h.l.k1 1 rfl
        have yc0 := kc Q0.out.h.l.k2 0 rfl
        have yd0 := kc Q0.out.h.pv.p 0 rfl
        have yd1 := kc Q0.out.h.pv.p 1 rfl
        have ye0 := kc Q0.out.h.pv.q 0 rfl
        have yf0 := kc Q0.out.h.px.p 0 rfl
        have yf1 := kc Q0.out.h.px.p 1 rfl
        have yg0 := kc Q0.out.h.px.q 0 rfl
        have yh0 := kc Q0.out.pg.p 0 rfl
        have yh1 := kc Q0.out.pg.p 1 rfl
        have yi0 := kc Q0.out.pg.q 0 rfl
        go_upto_region 14 with (first | (go_at_call 24; refine (eqO_calls K r (owq Q0.out.g.a) (owq Q0.out.h.v.a) HG.out.e1).mono ?_; rintro e v1 ⟨rfl, hb⟩; have Q1 := Aside0.mk ((lqq Q0.out).below hb); clear hb; (try clear ya0 ya1 ya2 ya3 yb0 yb1 yc0 yd0 yd1 ye0 yf0 yf1 yg0 yh0 yh1 yi0); have ya0 := kc Q1.out.h.l.k0 0 rfl; have ya1 := kc Q1.out.h.l.k0 1 rfl; have ya2 := kc Q1.out.h.l.k0 2 rfl; have ya3 := kc Q1.out.h.l.k0 3 rfl; have yb0 := kc Q1.out.h.l.k1 0 rfl; have yb1 := kc Q1.out.h.l.k1 1 rfl; have yc0 := kc Q1.out.h.l.k2 0 rfl; have yd0 := kc Q1.out.h.pv.p 0 rfl; have yd1 := kc Q1.out.h.pv.p 1 rfl; have ye0 := kc Q1.out.h.pv.q 0 rfl; have yf0 := kc Q1.out.h.px.p 0 rfl; have yf1 := kc Q1.out.h.px.p 1 rfl; have yg0 := kc Q1.out.h.px.q 0 rfl; have yh0 := kc Q1.out.pg.p 0 rfl; have yh1 := kc Q1.out.pg.p 1 rfl; have yi0 := kc Q1.out.pg.q 0 rfl) | (go_at_call 19; refine (eqI_calls K (owq Q1.out.g.b) (owq Q1.out.h.v.b) HG.out.e2).mono ?_; rintro e v2 ⟨rfl, hb⟩; have Q2 := Aside0.mk ((lqq Q1.out).below hb); clear hb; (try clear ya0 ya1 ya2 ya3 yb0 yb1 yc0 yd0 yd1 ye0 yf0 yf1 yg0 yh0 yh1 yi0); have ya0 := kc Q2.out.h.l.k0 0 rfl; have ya1 := kc Q2.out.h.l.k0 1 rfl; have ya2 := kc Q2.out.h.l.k0 2 rfl; have ya3 := kc Q2.out.h.l.k0 3 rfl; have yb0 := kc Q2.out.h.l.k1 0 rfl; have yb1 := kc Q2.out.h.l.k1 1 rfl; have yc0 := kc Q2.out.h.l.k2 0 rfl; have yd0 := kc Q2.out.h.pv.p 0 rfl; have yd1 := kc Q2.out.h.pv.p 1 rfl; have ye0 := kc Q2.out.h.pv.q 0 rfl; have yf0 := kc Q2.out.h.px.p 0 rfl; have yf1 := kc Q2.out.h.px.p 1 rfl; have yg0 := kc Q2.out.h.px.q 0 rfl; have yh0 := kc Q2.out.pg.p 0 rfl; have yh1 := kc Q2.out.pg.p 1 rfl; have yi0 := kc Q2.out.pg.q 0 rfl) | (go_at_call 39; refine (eqU_calls K (owq Q2.out.g.c) (owq Q2.out.h.v.c) HG.out.e3).mono ?_; rintro e v3 ⟨rfl, hb⟩; have Q3 := Aside0.mk ((lqq Q2.out).below hb); clear hb; (try clear ya0 ya1 ya2 ya3 yb0 yb1 yc0 yd0 yd1 ye0 yf0 yf1 yg0 yh0 yh1 yi0); have ya0 := kc Q3.out.h.l.k0 0 rfl; have ya1 := kc Q3.out.h.l.k0 1 rfl; have ya2 := kc Q3.out.h.l.k0 2 rfl; have ya3 := kc Q3.out.h.l.k0 3 rfl; have yb0 := kc Q3.out.h.l.k1 0 rfl; have yb1 := kc Q3.out.h.l.k1 1 rfl; have yc0 := kc Q3.out.h.l.k2 0 rfl; have yd0 := kc Q3.out.h.pv.p 0 rfl; have yd1 := kc Q3.out.h.pv.p 1 rfl; have ye0 := kc Q3.out.h.pv.q 0 rfl; have yf0 := kc Q3.out.h.px.p 0 rfl; have yf1 := kc Q3.out.h.px.p 1 rfl; have yg0 := kc Q3.out.h.px.q 0 rfl; have yh0 := kc Q3.out.pg.p 0 rfl; have yh1 := kc Q3.out.pg.p 1 rfl; have yi0 := kc Q3.out.pg.q 0 rfl))
        go_region_held3 (fun w' => w'.cell? ⟨w6.heap.size, 0, none⟩ = some (.int .i64 b0) ∧ w'.cell? ⟨w6.heap.size, 1, none⟩ = some (.slice O1 l.length o1) ∧ w'.cell? ⟨w.heap.size + 1, 0, none⟩ = some (.int .i64 b0) ∧ w'.cell? ⟨w.heap.size + 1, 1, none⟩ = some (.slice A l.length c)) (go_keep)
          ((first | (go_at_call 22; refine (toOut_calls K b0 A c l l (lq Q3.out.h.l.be) (cq (Kd.C_below HC.out Q3.out.h.l.be)) hc HTO.out).mono ?_; rintro e v4 ⟨F1, f1, rfl, hO, hb⟩; have RF := Aside0.mk hO; clear hO; have Q4 := Aside0.mk ((lqq Q3.out).below hb); clear hb; (try clear ya0 ya1 ya2 ya3 yb0 yb1 yc0 yd0 yd1 ye0 yf0 yf1 yg0 yh0 yh1 yi0); have ya0 := kc Q4.out.h.l.k0 0 rfl; have ya1 := kc Q4.out.h.l.k0 1 rfl; have ya2 := kc Q4.out.h.l.k0 2 rfl; have ya3 := kc Q4.out.h.l.k0 3 rfl; have yb0 := kc Q4.out.h.l.k1 0 rfl; have yb1 := kc Q4.out.h.l.k1 1 rfl; have yc0 := kc Q4.out.h.l.k2 0 rfl; have yd0 := kc Q4.out.h.pv.p 0 rfl; have yd1 := kc Q4.out.h.pv.p 1 rfl; have ye0 := kc Q4.out.h.pv.q 0 rfl; have yf0 := kc Q4.out.h.px.p 0 rfl; have yf1 := kc Q4.out.h.px.p 1 rfl; have yg0 := kc Q4.out.h.px.q 0 rfl; have yh0 := kc Q4.out.pg.p 0 rfl; have yh1 := kc Q4.out.pg.p 1 rfl; have yi0 := kc Q4.out.pg.q 0 rfl) | (go_at_call 24; refine (eqO_calls K b0 (owq Q4.out.h.x) (owq RF.out) HG.out.e4).mono ?_; rintro e v5 ⟨rfl, hb⟩; have Q5 := Aside0.mk ((lqq Q4.out).below hb); clear hb; (try clear ya0 ya1 ya2 ya3 yb0 yb1 yc0 yd0 yd1 ye0 yf0 yf1 yg0 yh0 yh1 yi0); have ya0 := kc Q5.out.h.l.k0 0 rfl; have ya1 := kc Q5.out.h.l.k0 1 rfl; have ya2 := kc Q5.out.h.l.k0 2 rfl; have ya3 := kc Q5.out.h.l.k0 3 rfl; have yb0 := kc Q5.out.h.l.k1 0 rfl; have yb1 := kc Q5.out.h.l.k1 1 rfl; have yc0 := kc Q5.out.h.l.k2 0 rfl; have yd0 := kc Q5.out.h.pv.p 0 rfl; have yd1 := kc Q5.out.h.pv.p 1 rfl; have ye0 := kc Q5.out.h.pv.q 0 rfl; have yf0 := kc Q5.out.h.px.p 0 rfl; have yf1 := kc Q5.out.h.px.p 1 rfl; have yg0 := kc Q5.out.h.px.q 0 rfl; have yh0 := kc Q5.out.pg.p 0 rfl; have yh1 := kc Q5.out.pg.p 1 rfl; have yi0 := kc Q5.out.pg.q 0 rfl)))
        go_upto_region 16 with (fail)
        go_region_held3 (fun w' => w'.cell? ⟨bY, 0, none⟩ = some (.slice I1 m.length i1) ∧ w'.cell? ⟨w.heap.size + 2, 0, none⟩ = some (.slice A' m.length c')) (go_keep)
          ((first | (go_at_call 17; refine (toIn_calls K A' c' m m (lq Q5.out.h.l.be) (cq (Kd.C_below HC'.out Q5.out.h.l.be)) hc' HTI.out).mono ?_; rintro e v6 ⟨F2, f2, rfl, hO, hb⟩; have RF2 := Aside0.mk hO; clear hO; have Q6 := Aside0.mk ((lqq Q5.out).below hb); clear hb; (try clear ya0 ya1 ya2 ya3 yb0 yb1 yc0 yd0 yd1 ye0 yf0 yf1 yg0 yh0 yh1 yi0); have ya0 := kc Q6.out.h.l.k0 0 rfl; have ya1 := kc Q6.out.h.l.k0 1 rfl; have ya2 := kc Q6.out.h.l.k0 2 rfl; have ya3 := kc Q6.out.h.l.k0 3 rfl; have yb0 := kc Q6.out.h.l.k1 0 rfl; have yb1 := kc Q6.out.h.l.k1 1 rfl; have yc0 := kc Q6.out.h.l.k2 0 rfl; have yd0 := kc Q6.out.h.pv.p 0 rfl; have yd1 := kc Q6.out.h.pv.p 1 rfl; have ye0 := kc Q6.out.h.pv.q 0 rfl; have yf0 := kc Q6.out.h.px.p 0 rfl; have yf1 := kc Q6.out.h.px.p 1 rfl; have yg0 := kc Q6.out.h.px.q 0 rfl; have yh0 := kc Q6.out.pg.p 0 rfl; have yh1 := kc Q6.out.pg.p 1 rfl; have yi0 := kc Q6.out.pg.q 0 rfl) | (go_at_call 19; refine (eqI_calls K (owq Q6.out.h.y) (owq RF2.out) HG.out.e5).mono ?_; rintro e v7 ⟨rfl, hb⟩; have Q7 := Aside0.mk ((lqq Q6.out).below hb); clear hb; (try clear ya0 ya1 ya2 ya3 yb0 yb1 yc0 yd0 yd1 ye0 yf0 yf1 yg0 yh0 yh1 yi0); have ya0 := kc Q7.out.h.l.k0 0 rfl; have ya1 := kc Q7.out.h.l.k0 1 rfl; have ya2 := kc Q7.out.h.l.k0 2 rfl; have ya3 := kc Q7.out.h.l.k0 3 rfl; have yb0 := kc Q7.out.h.l.k1 0 rfl; have yb1 := kc Q7.out.h.l.k1 1 rfl; have yc0 := kc Q7.out.h.l.k2 0 rfl; have yd0 := kc Q7.out.h.pv.p 0 rfl; have yd1 := kc Q7.out.h.pv.p 1 rfl; have ye0 := kc Q7.out.h.pv.q 0 rfl; have yf0 := kc Q7.out.h.px.p 0 rfl; have yf1 := kc Q7.out.h.px.p 1 rfl; have yg0 := kc Q7.out.h.px.q 0 rfl; have yh0 := kc Q7.out.pg.p 0 rfl; have yh1 := kc Q7.out.pg.p 1 rfl; have yi0 := kc Q7.out.pg.q 0 rfl)))
        go_upto_region 23 with (first | (go_at_call 29; refine (mkO_calls K b0 1 k1 (lq Q7.out.h.l.be) (owq Q7.out.h.x) HG.out.x1).mono ?_; rintro e v8 ⟨rfl, hO, hbe, hk⟩; have Q8 := Aside0.mk ((lqq Q7.out).markX hO hbe hk); clear hO hbe hk; (try clear ya0 ya1 ya2 ya3 yb0 yb1 yc0 yd0 yd1 ye0 yf0 yf1 yg0 yh0 yh1 yi0); have ya0 := kc Q8.out.h.l.k0 0 rfl; have ya1 := kc Q8.out.h.l.k0 1 rfl; have ya2 := kc Q8.out.h.l.k0 2 rfl; have ya3 := kc Q8.out.h.l.k0 3 rfl; have yb0 := kc Q8.out.h.l.k1 0 rfl; have yb1 := kc Q8.out.h.l.k1 1 rfl; have yc0 := kc Q8.out.h.l.k2 0 rfl; have yd0 := kc Q8.out.h.pv.p 0 rfl; have yd1 := kc Q8.out.h.pv.p 1 rfl; have ye0 := kc Q8.out.h.pv.q 0 rfl; have yf0 := kc Q8.out.h.px.p 0 rfl; have yf1 := kc Q8.out.h.px.p 1 rfl; have yg0 := kc Q8.out.h.px.q 0 rfl; have yh0 := kc Q8.out.pg.p 0 rfl; have yh1 := kc Q8.out.pg.p 1 rfl; have yi0 := kc Q8.out.pg.q 0 rfl) | (go_at_call 33; refine (mkI_calls K k1 k2 (lq Q8.out.h.l.be) (owq Q8.out.h.y) HG.out.x2).mono ?_; rintro e v9 ⟨rfl, hO, hbe, hk⟩; have Q9 := Aside0.mk ((lqq Q8.out).markY hO hbe hk); clear hO hbe hk; (try clear ya0 ya1 ya2 ya3 yb0 yb1 yc0 yd0 yd1 ye0 yf0 yf1 yg0 yh0 yh1 yi0); have ya0 := kc Q9.out.h.l.k0 0 rfl; have ya1 := kc Q9.out.h.l.k0 1 rfl; have ya2 := kc Q9.out.h.l.k0 2 rfl; have ya3 := kc Q9.out.h.l.k0 3 rfl; have yb0 := kc Q9.out.h.l.k1 0 rfl; have yb1 := kc Q9.out.h.l.k1 1 rfl; have yc0 := kc Q9.out.h.l.k2 0 rfl; have yd0 := kc Q9.out.h.pv.p 0 rfl; have yd1 := kc Q9.out.h.pv.p 1 rfl; have ye0 := kc Q9.out.h.pv.q 0 rfl; have yf0 := kc Q9.out.h.px.p 0 rfl; have yf1 := kc Q9.out.h.px.p 1 rfl; have yg0 := kc Q9.out.h.px.q 0 rfl; have yh0 := kc Q9.out.pg.p 0 rfl; have yh1 := kc Q9.out.pg.p 1 rfl; have yi0 := kc Q9.out.pg.q 0 rfl) | (go_at_call 24; refine (eqO_calls K r (owq Q9.out.g.a) (owq Q9.out.h.v.a) HG.out.e1).mono ?_; rintro e v10 ⟨rfl, hb⟩; have Q10 := Aside0.mk ((lqq Q9.out).below hb); clear hb; (try clear ya0 ya1 ya2 ya3 yb0 yb1 yc0 yd0 yd1 ye0 yf0 yf1 yg0 yh0 yh1 yi0); have ya0 := kc Q10.out.h.l.k0 0 rfl; have ya1 := kc Q10.out.h.l.k0 1 rfl; have ya2 := kc Q10.out.h.l.k0 2 rfl; have ya3 := kc Q10.out.h.l.k0 3 rfl; have yb0 := kc Q10.out.h.l.k1 0 rfl; have yb1 := kc Q10.out.h.l.k1 1 rfl; have yc0 := kc Q10.out.h.l.k2 0 rfl; have yd0 := kc Q10.out.h.pv.p 0 rfl; have yd1 := kc Q10.out.h.pv.p 1 rfl; have ye0 := kc Q10.out.h.pv.q 0 rfl; have yf0 := kc Q10.out.h.px.p 0 rfl; have yf1 := kc Q10.out.h.px.p 1 rfl; have yg0 := kc Q10.out.h.px.q 0 rfl; have yh0 := kc Q10.out.pg.p 0 rfl; have yh1 := kc Q10.out.pg.p 1 rfl; have yi0 := kc Q10.out.pg.q 0 rfl) | (go_at_call 19; refine (eqI_calls K (owq Q10.out.g.b) (owq Q10.out.h.v.b) HG.out.e2).mono ?_; rintro e v11 ⟨rfl, hb⟩; have Q11 := Aside0.mk ((lqq Q10.out).below hb); clear hb; (try clear ya0 ya1 ya2 ya3 yb0 yb1 yc0 yd0 yd1 ye0 yf0 yf1 yg0 yh0 yh1 yi0); have ya0 := kc Q11.out.h.l.k0 0 rfl; have ya1 := kc Q11.out.h.l.k0 1 rfl; have ya2 := kc Q11.out.h.l.k0 2 rfl; have ya3 := kc Q11.out.h.l.k0 3 rfl; have yb0 := kc Q11.out.h.l.k1 0 rfl; have yb1 := kc Q11.out.h.l.k1 1 rfl; have yc0 := kc Q11.out.h.l.k2 0 rfl; have yd0 := kc Q11.out.h.pv.p 0 rfl; have yd1 := kc Q11.out.h.pv.p 1 rfl; have ye0 := kc Q11.out.h.pv.q 0 rfl; have yf0 := kc Q11.out.h.px.p 0 rfl; have yf1 := kc Q11.out.h.px.p 1 rfl; have yg0 := kc Q11.out.h.px.q 0 rfl; have yh0 := kc Q11.out.pg.p 0 rfl; have yh1 := kc Q11.out.pg.p 1 rfl; have yi0 := kc Q11.out.pg.q 0 rfl) | (go_at_call 39; refine (eqU_calls K (owq Q11.out.g.c) (owq Q11.out.h.v.c) HG.out.e3).mono ?_; rintro e v12 ⟨rfl, hb⟩; have Q12 := Aside0.mk ((lqq Q11.out).below hb); clear hb; (try clear ya0 ya1 ya2 ya3 yb0 yb1 yc0 yd0 yd1 ye0 yf0 yf1 yg0 yh0 yh1 yi0); have ya0 := kc Q12.out.h.l.k0 0 rfl; have ya1 := kc Q12.out.h.l.k0 1 rfl; have ya2 := kc Q12.out.h.l.k0 2 rfl; have ya3 := kc Q12.out.h.l.k0 3 rfl; have yb0 := kc Q12.out.h.l.k1 0 rfl; have yb1 := kc Q12.out.h.l.k1 1 rfl; have yc0 := kc Q12.out.h.l.k2 0 rfl; have yd0 := kc Q12.out.h.pv.p 0 rfl; have yd1 := kc Q12.out.h.pv.p 1 rfl; have ye0 := kc Q12.out.h.pv.q 0 rfl; have yf0 := kc Q12.out.h.px.p 0 rfl; have yf1 := kc Q12.out.h.px.p 1 rfl; have yg0 := kc Q12.out.h.px.q 0 rfl; have yh0 := kc Q12.out.pg.p 0 rfl; have yh1 := kc Q12.out.pg.p 1 rfl; have yi0 := kc Q12.out.pg.q 0 rfl))
        go_upto_region 39 with (first | (go_at_call 29; refine (mkO_calls K r 1 m1 (lq Q12.out.h.l.be) (owq Q12.out.g.a) HG.out.x3).mono ?_; rintro e v13 ⟨rfl, hO, hbe, hk⟩; have Q13 := Aside0.mk ((lqq Q12.out).markA hO hbe hk); clear hO hbe hk; (try clear ya0 ya1 ya2 ya3 yb0 yb1 yc0 yd0 yd1 ye0 yf0 yf1 yg0 yh0 yh1 yi0); have ya0 := kc Q13.out.h.l.k0 0 rfl; have ya1 := kc Q13.out.h.l.k0 1 rfl; have ya2 := kc Q13.out.h.l.k0 2 rfl; have ya3 := kc Q13.out.h.l.k0 3 rfl; have yb0 := kc Q13.out.h.l.k1 0 rfl; have yb1 := kc Q13.out.h.l.k1 1 rfl; have yc0 := kc Q13.out.h.l.k2 0 rfl; have yd0 := kc Q13.out.h.pv.p 0 rfl; have yd1 := kc Q13.out.h.pv.p 1 rfl; have ye0 := kc Q13.out.h.pv.q 0 rfl; have yf0 := kc Q13.out.h.px.p 0 rfl; have yf1 := kc Q13.out.h.px.p 1 rfl; have yg0 := kc Q13.out.h.px.q 0 rfl; have yh0 := kc Q13.out.pg.p 0 rfl; have yh1 := kc Q13.out.pg.p 1 rfl; have yi0 := kc Q13.out.pg.q 0 rfl) | (go_at_call 33; refine (mkI_calls K m1 m2 (lq Q13.out.h.l.be) (owq Q13.out.g.b) HG.out.x4).mono ?_; rintro e v14 ⟨rfl, hO, hbe, hk⟩; have Q14 := Aside0.mk ((lqq Q13.out).markB hO hbe hk); clear hO hbe hk; (try clear ya0 ya1 ya2 ya3 yb0 yb1 yc0 yd0 yd1 ye0 yf0 yf1 yg0 yh0 yh1 yi0); have ya0 := kc Q14.out.h.l.k0 0 rfl; have ya1 := kc Q14.out.h.l.k0 1 rfl; have ya2 := kc Q14.out.h.l.k0 2 rfl; have ya3 := kc Q14.out.h.l.k0 3 rfl; have yb0 := kc Q14.out.h.l.k1 0 rfl; have yb1 := kc Q14.out.h.l.k1 1 rfl; have yc0 := kc Q14.out.h.l.k2 0 rfl; have yd0 := kc Q14.out.h.pv.p 0 rfl; have yd1 := kc Q14.out.h.pv.p 1 rfl; have ye0 := kc Q14.out.h.pv.q 0 rfl; have yf0 := kc Q14.out.h.px.p 0 rfl; have yf1 := kc Q14.out.h.px.p 1 rfl; have yg0 := kc Q14.out.h.px.q 0 rfl; have yh0 := kc Q14.out.pg.p 0 rfl; have yh1 := kc Q14.out.pg.p 1 rfl; have yi0 := kc Q14.out.pg.q 0 rfl) | (go_at_call 40; refine (mkU_calls K m2 m3 (lq Q14.out.h.l.be) (owq Q14.out.g.c) HG.out.x5).mono ?_; rintro e v15 ⟨rfl, hO, hbe, hk⟩; have Q15 := Aside0.mk ((lqq Q14.out).markC hO hbe hk); clear hO hbe hk; (try clear ya0 ya1 ya2 ya3 yb0 yb1 yc0 yd0 yd1 ye0 yf0 yf1 yg0 yh0 yh1 yi0); have ya0 := kc Q15.out.h.l.k0 0 rfl; have ya1 := kc Q15.out.h.l.k0 1 rfl; have ya2 := kc Q15.out.h.l.k0 2 rfl; have ya3 := kc Q15.out.h.l.k0 3 rfl; have yb0 := kc Q15.out.h.l.k1 0 rfl; have yb1 := kc Q15.out.h.l.k1 1 rfl; have yc0 := kc Q15.out.h.l.k2 0 rfl; have yd0 := kc Q15.out.h.pv.p 0 rfl; have yd1 := kc Q15.out.h.pv.p 1 rfl; have ye0 := kc Q15.out.h.pv.q 0 rfl; have yf0 := kc Q15.out.h.px.p 0 rfl; have yf1 := kc Q15.out.h.px.p 1 rfl; have yg0 := kc Q15.out.h.px.q 0 rfl; have yh0 := kc Q15.out.pg.p 0 rfl; have yh1 := kc Q15.out.pg.p 1 rfl; have yi0 := kc Q15.out.pg.q 0 rfl) | (go_at_call 30; refine (hdO_calls K r 1 m1 (owq Q15.out.g.a) HG.out.h1).mono ?_; rintro e v16 ⟨rfl, hb⟩; have Q16 := Aside0.mk ((lqq Q15.out).below hb); clear hb; (try clear ya0 ya1 ya2 ya3 yb0 yb1 yc0 yd0 yd1 ye0 yf0 yf1 yg0 yh0 yh1 yi0); have ya0 := kc Q16.out.h.l.k0 0 rfl; have ya1 := kc Q16.out.h.l.k0 1 rfl; have ya2 := kc Q16.out.h.l.k0 2 rfl; have ya3 := kc Q16.out.h.l.k0 3 rfl; have yb0 := kc Q16.out.h.l.k1 0 rfl; have yb1 := kc Q16.out.h.l.k1 1 rfl; have yc0 := kc Q16.out.h.l.k2 0 rfl; have yd0 := kc Q16.out.h.pv.p 0 rfl; have yd1 := kc Q16.out.h.pv.p 1 rfl; have ye0 := kc Q16.out.h.pv.q 0 rfl; have yf0 := kc Q16.out.h.px.p 0 rfl; have yf1 := kc Q16.out.h.px.p 1 rfl; have yg0 := kc Q16.out.h.px.q 0 rfl; have yh0 := kc Q16.out.pg.p 0 rfl; have yh1 := kc Q16.out.pg.p 1 rfl; have yi0 := kc Q16.out.pg.q 0 rfl) | (go_at_call 34; refine (hdI_calls K m1 m2 (owq Q16.out.g.b) HG.out.h2).mono ?_; rintro e v17 ⟨rfl, hb⟩; have Q17 := Aside0.mk ((lqq Q16.out).below hb); clear hb; (try clear ya0 ya1 ya2 ya3 yb0 yb1 yc0 yd0 yd1 ye0 yf0 yf1 yg0 yh0 yh1 yi0); have ya0 := kc Q17.out.h.l.k0 0 rfl; have ya1 := kc Q17.out.h.l.k0 1 rfl; have ya2 := kc Q17.out.h.l.k0 2 rfl; have ya3 := kc Q17.out.h.l.k0 3 rfl; have yb0 := kc Q17.out.h.l.k1 0 rfl; have yb1 := kc Q17.out.h.l.k1 1 rfl; have yc0 := kc Q17.out.h.l.k2 0 rfl; have yd0 := kc Q17.out.h.pv.p 0 rfl; have yd1 := kc Q17.out.h.pv.p 1 rfl; have ye0 := kc Q17.out.h.pv.q 0 rfl; have yf0 := kc Q17.out.h.px.p 0 rfl; have yf1 := kc Q17.out.h.px.p 1 rfl; have yg0 := kc Q17.out.h.px.q 0 rfl; have yh0 := kc Q17.out.pg.p 0 rfl; have yh1 := kc Q17.out.pg.p 1 rfl; have yi0 := kc Q17.out.pg.q 0 rfl) | (go_at_call 41; refine (hdU_calls K m2 m3 (owq Q17.out.g.c) HG.out.h3).mono ?_; rintro e v18 ⟨rfl, hb⟩; have Q18 := Aside0.mk ((lqq Q17.out).below hb); clear hb; (try clear ya0 ya1 ya2 ya3 yb0 yb1 yc0 yd0 yd1 ye0 yf0 yf1 yg0 yh0 yh1 yi0); have ya0 := kc Q18.out.h.l.k0 0 rfl; have ya1 := kc Q18.out.h.l.k0 1 rfl; have ya2 := kc Q18.out.h.l.k0 2 rfl; have ya3 := kc Q18.out.h.l.k0 3 rfl; have yb0 := kc Q18.out.h.l.k1 0 rfl; have yb1 := kc Q18.out.h.l.k1 1 rfl; have yc0 := kc Q18.out.h.l.k2 0 rfl; have yd0 := kc Q18.out.h.pv.p 0 rfl; have yd1 := kc Q18.out.h.pv.p 1 rfl; have ye0 := kc Q18.out.h.pv.q 0 rfl; have yf0 := kc Q18.out.h.px.p 0 rfl; have yf1 := kc Q18.out.h.px.p 1 rfl; have yg0 := kc Q18.out.h.px.q 0 rfl; have yh0 := kc Q18.out.pg.p 0 rfl; have yh1 := kc Q18.out.pg.p 1 rfl; have yi0 := kc Q18.out.pg.q 0 rfl))
        have LT := Aside0.mk Q18.out.h.l
        (try clear z00 z01 z02 z03 z04 z05 z10 z11 z12 z13 z14 z15 z20 z21 z22 z23 z24 z25)
        have zz := LB.nes LT.out
        have z00 := zz.1.1
        have z01 := zz.1.2.1
        have z02 := zz.1.2.2.1
        have z03 := zz.1.2.2.2.1
        have z04 := zz.1.2.2.2.2.1
        have z05 := zz.1.2.2.2.2.2
        have z10 := zz.2.1.1
        have z11 := zz.2.1.2.1
        have z12 := zz.2.1.2.2.1
        have z13 := zz.2.1.2.2.2.1
        have z14 := zz.2.1.2.2.2.2.1
        have z15 := zz.2.1.2.2.2.2.2
        have z20 := zz.2.2.1
        have z21 := zz.2.2.2.1
        have z22 := zz.2.2.2.2.1
        have z23 := zz.2.2.2.2.2.1
        have z24 := zz.2.2.2.2.2.2.1
        have z25 := zz.2.2.2.2.2.2.2
        clear zz
        clear RF RF2
        go_cut [19, 20, 21] (fun s19 s20 s21 wc => ∃ (bU bV : Nat) (N1 : Option Addr) (e1 : Nat) (N2 : Option Addr) (e2 : Nat) (N3 : Option Addr) (e3 : Nat), s19 = .pointer (some ⟨bU, 0, none⟩) ∧ s20 = .pointer (some ⟨bV, 0, none⟩) ∧ s21 = .slice N3 V3.length e3 ∧ Aside0 (L8 w v18 wc bU bV r (.slice N1 V1.length e1) (.slice N2 V2.length e2) (.slice N3 V3.length e3) V1 V2 V3))
        case first =>
          refine wp_region_noPanic ?_
          refine reg4x (ops := opsOf Try.f9 39) (s := 135) (dA := 19) (f := 38) (fn := Try.f38) (K := K) ops39 (by decide) (by decide) (by decide) (by kernel_rfl) rfl rfl rfl (fun W lo hi lo' hi' A1 A2 c1 c2 be g1 g2 => implB_calls a0 a1 a2 a3 b0 r V1 V2 V3 be g1 g2 HI.out) Try.func38 rfl rfl HC.out hc HC'.out hc' HTO.out HTI.out (by kernel_rfl) (fun _ _ _ _ _ h => h) LT.out ?_
          intro X b8 b9 O1 o1 I1 i1 B1 d1 B2 d2 B3 d3 H8
          refine NoPanic.normal ?_
          simp only [two, putO, Act.put, List.setIfInBounds_toArray, List.set_cons_zero, List.set_cons_succ]
          go_wp2
          go_meet
          case rel => exact ⟨b8, b9, B1, d1, B2, d2, B3, d3, rfl, rfl, rfl, ⟨H8⟩⟩
        case rest =>
          obtain ⟨bU, bV, N1, e1, N2, e2, N3, e3, rfl, rfl, rfl, H39⟩ := hcut
          obtain ⟨wr, hwr⟩ : ∃ wr : World, wr = wc := ⟨_, rfl⟩
          subst hwr
          have Q19 := Aside0.mk (Q18.out.below H39.out.be)
          (try clear ya0 ya1 ya2 ya3 yb0 yb1 yc0 yd0 yd1 ye0 yf0 yf1 yg0 yh0 yh1 yi0)
          have ya0 := kc Q19.out.h.l.k0 0 rfl
          have ya1 := kc Q19.out.h.l.k0 1 rfl
          have ya2 := kc Q19.out.h.l.k0 2 rfl
          have ya3 := kc Q19.out.h.l.k0 3 rfl
          have yb0 := kc Q19.out.h.l.k1 0 rfl
          have yb1 := kc Q19.out.h.l.k1 1 rfl
          have yc0 := kc Q19.out.h.l.k2 0 rfl
          have yd0 := kc Q19.out.h.pv.p 0 rfl
          have yd1 := kc Q19.out.h.pv.p 1 rfl
          have ye0 := kc Q19.out.h.pv.q 0 rfl
          have yf0 := kc Q19.out.h.px.p 0 rfl
          have yf1 := kc Q19.out.h.px.p 1 rfl
          have yg0 := kc Q19.out.h.px.q 0 rfl
          have yh0 := kc Q19.out.pg.p 0 rfl
          have yh1 := kc Q19.out.pg.p 1 rfl
          have yi0 := kc Q19.out.pg.q 0 rfl
          have yu0 := kc H39.out.p.p 0 rfl
          have yu1 := kc H39.out.p.p 1 rfl
          have yv0 := kc H39.out.p.q 0 rfl
          have P0 := Aside0.mk H39.out.p
          have T0 := Aside0.mk H39.out.v
          go_wp2_with (first | (go_at_call 24; refine (eqO_calls K r (trq T0.out).a (owq Q19.out.h.v.a) HG.out.e1).mono ?_; rintro e v19 ⟨rfl, hb⟩; have P1 := Aside0.mk ((prq P0.out).below hb); have T1 := Aside0.mk ((trq T0.out).below hb); (try clear yu0 yu1 yv0); have yu0 := kc P1.out.p 0 rfl; have yu1 := kc P1.out.p 1 rfl; have yv0 := kc P1.out.q 0 rfl; have Q20 := Aside0.mk ((lqq Q19.out).below hb); clear hb; (try clear ya0 ya1 ya2 ya3 yb0 yb1 yc0 yd0 yd1 ye0 yf0 yf1 yg0 yh0 yh1 yi0); have ya0 := kc Q20.out.h.l.k0 0 rfl; have ya1 := kc Q20.out.h.l.k0 1 rfl; have ya2 := kc Q20.out.h.l.k0 2 rfl; have ya3 := kc Q20.out.h.l.k0 3 rfl; have yb0 := kc Q20.out.h.l.k1 0 rfl; have yb1 := kc Q20.out.h.l.k1 1 rfl; have yc0 := kc Q20.out.h.l.k2 0 rfl; have yd0 := kc Q20.out.h.pv.p 0 rfl; have yd1 := kc Q20.out.h.pv.p 1 rfl; have ye0 := kc Q20.out.h.pv.q 0 rfl; have yf0 := kc Q20.out.h.px.p 0 rfl; have yf1 := kc Q20.out.h.px.p 1 rfl; have yg0 := kc Q20.out.h.px.q 0 rfl; have yh0 := kc Q20.out.pg.p 0 rfl; have yh1 := kc Q20.out.pg.p 1 rfl; have yi0 := kc Q20.out.pg.q 0 rfl) | (go_at_call 19; refine (eqI_calls K (trq T1.out).b (owq Q20.out.h.v.b) HG.out.e2).mono ?_; rintro e v20 ⟨rfl, hb⟩; have P2 := Aside0.mk ((prq P1.out).below hb); have T2 := Aside0.mk ((trq T1.out).below hb); (try clear yu0 yu1 yv0); have yu0 := kc P2.out.p 0 rfl; have yu1 := kc P2.out.p 1 rfl; have yv0 := kc P2.out.q 0 rfl; have Q21 := Aside0.mk ((lqq Q20.out).below hb); clear hb; (try clear ya0 ya1 ya2 ya3 yb0 yb1 yc0 yd0 yd1 ye0 yf0 yf1 yg0 yh0 yh1 yi0); have ya0 := kc Q21.out.h.l.k0 0 rfl; have ya1 := kc Q21.out.h.l.k0 1 rfl; have ya2 := kc Q21.out.h.l.k0 2 rfl; have ya3 := kc Q21.out.h.l.k0 3 rfl; have yb0 := kc Q21.out.h.l.k1 0 rfl; have yb1 := kc Q21.out.h.l.k1 1 rfl; have yc0 := kc Q21.out.h.l.k2 0 rfl; have yd0 := kc Q21.out.h.pv.p 0 rfl; have yd1 := kc Q21.out.h.pv.p 1 rfl; have ye0 := kc Q21.out.h.pv.q 0 rfl; have yf0 := kc Q21.out.h.px.p 0 rfl; have yf1 := kc Q21.out.h.px.p 1 rfl; have yg0 := kc Q21.out.h.px.q 0 rfl; have yh0 := kc Q21.out.pg.p 0 rfl; have yh1 := kc Q21.out.pg.p 1 rfl; have yi0 := kc Q21.out.pg.q 0 rfl) | (go_at_call 39; refine (eqU_calls K (trq T2.out).c (owq Q21.out.h.v.c) HG.out.e3).mono ?_; rintro e v21 ⟨rfl, hb⟩; have P3 := Aside0.mk ((prq P2.out).below hb); have T3 := Aside0.mk ((trq T2.out).below hb); (try clear yu0 yu1 yv0); have yu0 := kc P3.out.p 0 rfl; have yu1 := kc P3.out.p 1 rfl; have yv0 := kc P3.out.q 0 rfl; have Q22 := Aside0.mk ((lqq Q21.out).below hb); clear hb; (try clear ya0 ya1 ya2 ya3 yb0 yb1 yc0 yd0 yd1 ye0 yf0 yf1 yg0 yh0 yh1 yi0); have ya0 := kc Q22.out.h.l.k0 0 rfl; have ya1 := kc Q22.out.h.l.k0 1 rfl; have ya2 := kc Q22.out.h.l.k0 2 rfl; have ya3 := kc Q22.out.h.l.k0 3 rfl; have yb0 := kc Q22.out.h.l.k1 0 rfl; have yb1 := kc Q22.out.h.l.k1 1 rfl; have yc0 := kc Q22.out.h.l.k2 0 rfl; have yd0 := kc Q22.out.h.pv.p 0 rfl; have yd1 := kc Q22.out.h.pv.p 1 rfl; have ye0 := kc Q22.out.h.pv.q 0 rfl; have yf0 := kc Q22.out.h.px.p 0 rfl; have yf1 := kc Q22.out.h.px.p 1 rfl; have yg0 := kc Q22.out.h.px.q 0 rfl; have yh0 := kc Q22.out.pg.p 0 rfl; have yh1 := kc Q22.out.pg.p 1 rfl; have yi0 := kc Q22.out.pg.q 0 rfl) | (go_at_call 30; refine (hdO_calls K r 1 m1 (owq Q22.out.g.a) HG.out.h1).mono ?_; rintro e v22 ⟨rfl, hb⟩; have Q23 := Aside0.mk ((lqq Q22.out).below hb); clear hb; (try clear ya0 ya1 ya2 ya3 yb0 yb1 yc0 yd0 yd1 ye0 yf0 yf1 yg0 yh0 yh1 yi0); have ya0 := kc Q23.out.h.l.k0 0 rfl; have ya1 := kc Q23.out.h.l.k0 1 rfl; have ya2 := kc Q23.out.h.l.k0 2 rfl; have ya3 := kc Q23.out.h.l.k0 3 rfl; have yb0 := kc Q23.out.h.l.k1 0 rfl; have yb1 := kc Q23.out.h.l.k1 1 rfl; have yc0 := kc Q23.out.h.l.k2 0 rfl; have yd0 := kc Q23.out.h.pv.p 0 rfl; have yd1 := kc Q23.out.h.pv.p 1 rfl; have ye0 := kc Q23.out.h.pv.q 0 rfl; have yf0 := kc Q23.out.h.px.p 0 rfl; have yf1 := kc Q23.out.h.px.p 1 rfl; have yg0 := kc Q23.out.h.px.q 0 rfl; have yh0 := kc Q23.out.pg.p 0 rfl; have yh1 := kc Q23.out.pg.p 1 rfl; have yi0 := kc Q23.out.pg.q 0 rfl) | (go_at_call 34; refine (hdI_calls K m1 m2 (owq Q23.out.g.b) HG.out.h2).mono ?_; rintro e v23 ⟨rfl, hb⟩; have Q24 := Aside0.mk ((lqq Q23.out).below hb); clear hb; (try clear ya0 ya1 ya2 ya3 yb0 yb1 yc0 yd0 yd1 ye0 yf0 yf1 yg0 yh0 yh1 yi0); have ya0 := kc Q24.out.h.l.k0 0 rfl; have ya1 := kc Q24.out.h.l.k0 1 rfl; have ya2 := kc Q24.out.h.l.k0 2 rfl; have ya3 := kc Q24.out.h.l.k0 3 rfl; have yb0 := kc Q24.out.h.l.k1 0 rfl; have yb1 := kc Q24.out.h.l.k1 1 rfl; have yc0 := kc Q24.out.h.l.k2 0 rfl; have yd0 := kc Q24.out.h.pv.p 0 rfl; have yd1 := kc Q24.out.h.pv.p 1 rfl; have ye0 := kc Q24.out.h.pv.q 0 rfl; have yf0 := kc Q24.out.h.px.p 0 rfl; have yf1 := kc Q24.out.h.px.p 1 rfl; have yg0 := kc Q24.out.h.px.q 0 rfl; have yh0 := kc Q24.out.pg.p 0 rfl; have yh1 := kc Q24.out.pg.p 1 rfl; have yi0 := kc Q24.out.pg.q 0 rfl) | (go_at_call 41; refine (hdU_calls K m2 m3 (owq Q24.out.g.c) HG.out.h3).mono ?_; rintro e v24 ⟨rfl, hb⟩; have Q25 := Aside0.mk ((lqq Q24.out).below hb); clear hb; (try clear ya0 ya1 ya2 ya3 yb0 yb1 yc0 yd0 yd1 ye0 yf0 yf1 yg0 yh0 yh1 yi0); have ya0 := kc Q25.out.h.l.k0 0 rfl; have ya1 := kc Q25.out.h.l.k0 1 rfl; have ya2 := kc Q25.out.h.l.k0 2 rfl; have ya3 := kc Q25.out.h.l.k0 3 rfl; have yb0 := kc Q25.out.h.l.k1 0 rfl; have yb1 := kc Q25.out.h.l.k1 1 rfl; have yc0 := kc Q25.out.h.l.k2 0 rfl; have yd0 := kc Q25.out.h.pv.p 0 rfl; have yd1 := kc Q25.out.h.pv.p 1 rfl; have ye0 := kc Q25.out.h.pv.q 0 rfl; have yf0 := kc Q25.out.h.px.p 0 rfl; have yf1 := kc Q25.out.h.px.p 1 rfl; have yg0 := kc Q25.out.h.px.q 0 rfl; have yh0 := kc Q25.out.pg.p 0 rfl; have yh1 := kc Q25.out.pg.p 1 rfl; have yi0 := kc Q25.out.pg.q 0 rfl))
          go_ret
          exact ⟨rfl, lq Q25.out.h.l.be⟩
set_option maxHeartbeats 8000000 in
set_option maxRecDepth 100000 in
theorem lawB_short1 (a0 a1 a2 a3 b0 : Int) (A : Option Addr) (c : Nat) (l : List Int) (A' : Option Addr) (c' : Nat) (m : List Int) (q1 : Int) (w : World)
    (hC : Kd.C (Kd.int .u32) w A l.length l) (hc : l.length ≤ c) (hq1 : laws_szOutEnd.f b0 l 1048576 = some q1) (h1 : q1 < 0) :
    Calls Try.prog 9 #[.agg #[.int .i64 a0, .int .i64 a1, .int .i64 a2, .int .i64 a3], .agg #[.int .i64 b0, .slice A l.length c], .agg #[.slice A' m.length c']] w fun e w' => e = .returned (.bool true) ∧ Below w.heap.size w w' := by
  have hu23 := Try.underlying23
  have hu26 := Try.underlying26
  have hu36 := Try.underlying36
  have HC := Aside0.mk hC
  have HQ1 := Aside0.mk hq1
  have q10 : decide (q1 < 0) = true := decide_eq_true h1
  clear hC hq1
  go_enter Try.func9, Try.ntmps9
  go_wp2_with (go_at_call 20; refine (laws_szOutEnd.calls b0 A c l 1048576 q1 _ (cq HC.out) hc HQ1.out).mono ?_; rintro e w1 ⟨rfl, hb⟩; have B1 := Aside0.mk (below_step (lq (Below.refl w.heap.size w) : Below w.heap.size w _) hb); clear hb)
  go_ret
  exact ⟨rfl, lq B1.out⟩
set_option maxHeartbeats 8000000 in
set_option maxRecDepth 100000 in
theorem lawB_short2 (a0 a1 a2 a3 b0 : Int) (A : Option Addr) (c : Nat) (l : List Int) (A' : Option Addr) (c' : Nat) (m : List Int) (q1 q2 : Int) (w : World)
    (hC : Kd.C (Kd.int .u32) w A l.length l) (hc : l.length ≤ c) (hC' : Kd.C (Kd.int .u32) w A' m.length m) (hc' : m.length ≤ c') (hq1 : laws_szOutEnd.f b0 l 1048576 = some q1) (h1 : 0 ≤ q1) (hq2 : laws_szInEnd.f m q1 = some q2) (h2 : q2 < 0) :
    Calls Try.prog 9 #[.agg #[.int .i64 a0, .int .i64 a1, .int .i64 a2, .int .i64 a3], .agg #[.int .i64 b0, .slice A l.length c], .agg #[.slice A' m.length c']] w fun e w' => e = .returned (.bool true) ∧ Below w.heap.size w w' := by
  have hu23 := Try.underlying23
  have hu26 := Try.underlying26
  have hu36 := Try.underlying36
  have HC := Aside0.mk hC
  have HC' := Aside0.mk hC'
  have HQ1 := Aside0.mk hq1
  have HQ2 := Aside0.mk hq2
  have q10 : decide (q1 < 0) = false := decide_eq_false (by omega)
  have q20 : decide (q2 < 0) = true := decide_eq_true h2
  clear hC hC' hq1 hq2
  go_enter Try.func9, Try.ntmps9
  go_wp2_with (first | (go_at_call 20; refine (laws_szOutEnd.calls b0 A c l 1048576 q1 _ (cq HC.out) hc HQ1.out).mono ?_; rintro e w1 ⟨rfl, hb⟩; have LA : Aside0 (LB w w1 #[.int .i64 a0, .int .i64 a1, .int .i64 a2, .int .i64 a3] #[.int .i64 b0, .slice A l.length c] #[.slice A' m.length c']) := ⟨⟨blk_below at3_0 hb, blk_below at3_1 hb, blk_below at3_2 hb, below_step (lq (Below.refl w.heap.size w)) hb⟩⟩; clear hb; (try clear ya0 ya1 ya2 ya3 yb0 yb1 yc0); have ya0 := kc LA.out.k0 0 rfl; have ya1 := kc LA.out.k0 1 rfl; have ya2 := kc LA.out.k0 2 rfl; have ya3 := kc LA.out.k0 3 rfl; have yb0 := kc LA.out.k1 0 rfl; have yb1 := kc LA.out.k1 1 rfl; have yc0 := kc LA.out.k2 0 rfl) | (go_at_call 14; refine (laws_szInEnd.calls A' c' m q1 q2 _ (cq (Kd.C_below HC'.out LA.out.be)) hc' HQ2.out).mono ?_; rintro e w2 ⟨rfl, hb⟩; have LW := Aside0.mk ((lbq LA.out).below hb); clear hb LA; (try clear ya0 ya1 ya2 ya3 yb0 yb1 yc0); have ya0 := kc LW.out.k0 0 rfl; have ya1 := kc LW.out.k0 1 rfl; have ya2 := kc LW.out.k0 2 rfl; have ya3 := kc LW.out.k0 3 rfl; have yb0 := kc LW.out.k1 0 rfl; have yb1 := kc LW.out.k1 1 rfl; have yc0 := kc LW.out.k2 0 rfl; (try clear z00 z01 z02 z03 z04 z05 z10 z11 z12 z13 z14 z15 z20 z21 z22 z23 z24 z25); have zz := LB.nes LW.out; have z00 := zz.1.1; have z01 := zz.1.2.1; have z02 := zz.1.2.2.1; have z03 := zz.1.2.2.2.1; have z04 := zz.1.2.2.2.2.1; have z05 := zz.1.2.2.2.2.2; have z10 := zz.2.1.1; have z11 := zz.2.1.2.1; have z12 := zz.2.1.2.2.1; have z13 := zz.2.1.2.2.2.1; have z14 := zz.2.1.2.2.2.2.1; have z15 := zz.2.1.2.2.2.2.2; have z20 := zz.2.2.1; have z21 := zz.2.2.2.1; have z22 := zz.2.2.2.2.1; have z23 := zz.2.2.2.2.2.1; have z24 := zz.2.2.2.2.2.2.1; have z25 := zz.2.2.2.2.2.2.2; clear zz))
  go_ret
  exact ⟨rfl, lq LW.out.be⟩

/-- What the law's calls answer, or there is too much. -/
def GoodBo (a0 a1 a2 a3 b0 : Int) (l m : List Int) : Prop :=
  ∃ q1, laws_szOutEnd.f b0 l 1048576 = some q1 ∧ (q1 < 0 ∨ 0 ≤ q1 ∧ ∃ q2, laws_szInEnd.f m q1 = some q2 ∧ (q2 < 0 ∨ 0 ≤ q2 ∧ ∃ K r V1 V2 V3 l' m' G1 G2 G3 k1 k2 m1 m2 m3, GoodB K a0 a1 a2 a3 b0 l m r V1 V2 V3 l' m' G1 G2 G3 k1 k2 m1 m2 m3))
open Classical in
noncomputable def laws_FnExactBorder.f (a0_0 a0_1 a0_2 a0_3 a1_0 : Int) (l1_1 l2_0 : List Int) : Option Bool := if GoodBo a0_0 a0_1 a0_2 a0_3 a1_0 l1_1 l2_0 then some true else none
theorem laws_FnExactBorder.calls (a0_0 : Int) (a0_1 : Int) (a0_2 : Int) (a0_3 : Int) (a1_0 : Int) (A1_1 : Option Addr) (c1_1 : Nat) (l1_1 : List Int) (A2_0 : Option Addr) (c2_0 : Nat) (l2_0 : List Int) (w : World) (hr1_1 : Kd.C (Kd.int .u32) w A1_1 l1_1.length l1_1) (hc1_1 : l1_1.length ≤ c1_1) (hr2_0 : Kd.C (Kd.int .u32) w A2_0 l2_0.length l2_0) (hc2_0 : l2_0.length ≤ c2_0) (h : laws_FnExactBorder.f a0_0 a0_1 a0_2 a0_3 a1_0 l1_1 l2_0 = some true) :
  Calls Try.prog 9 #[.agg #[.int .i64 a0_0, .int .i64 a0_1, .int .i64 a0_2, .int .i64 a0_3], .agg #[.int .i64 a1_0, .slice A1_1 l1_1.length c1_1], .agg #[.slice A2_0 l2_0.length c2_0]] w fun e w' => e = .returned (.bool true) ∧ Below w.heap.size w w' := by
  have hG : GoodBo a0_0 a0_1 a0_2 a0_3 a1_0 l1_1 l2_0 := by
    unfold laws_FnExactBorder.f at h
    by_cases c : GoodBo a0_0 a0_1 a0_2 a0_3 a1_0 l1_1 l2_0
    · exact c
    · rw [if_neg c] at h; cases h
  obtain ⟨q1, hq1, hq⟩ := hG
  rcases hq with h1 | ⟨h1, q2, hq2, hq⟩
  · exact lawB_short1 a0_0 a0_1 a0_2 a0_3 a1_0 A1_1 c1_1 l1_1 A2_0 c2_0 l2_0 q1 w hr1_1 hc1_1 hq1 h1
  · rcases hq with h2 | ⟨h2, K, r, V1, V2, V3, l', m', G1, G2, G3, k1, k2, m1, m2, m3, hg⟩
    · exact lawB_short2 a0_0 a0_1 a0_2 a0_3 a1_0 A1_1 c1_1 l1_1 A2_0 c2_0 l2_0 q1 q2 w hr1_1 hc1_1 hr2_0 hc2_0 hq1 h1 hq2 h2
    · exact lawB_long K a0_0 a0_1 a0_2 a0_3 a1_0 A1_1 c1_1 l1_1 A2_0 c2_0 l2_0 q1 q2 r V1 V2 V3 l' m' G1 G2 G3 k1 k2 m1 m2 m3 w hr1_1 hc1_1 hr2_0 hc2_0 hq1 h1 hq2 h2 hg
end Go.Proofs.Ytioifcanipijhaa.GC
