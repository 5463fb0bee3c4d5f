/- Told by a program of this session, out of the translation: each function of the group as a plain Lean function, and that Go's call comes to just its answer. Lean checks it. -/
import Derived.Test.YtbcpkigeginmnaaDoyFZ
import Derived.Test.YtbcpkigeginmnaaM16Z
import Derived.Test.YtbcpkigeginmnaaM3Z
import Derived.Test.YtbcpkigeginmnaaGFx25Z
set_option linter.unusedVariables false
set_option linter.unusedSimpArgs false
section
namespace Go.Proofs.Ytbcpkigeginmnaa.GF
open Go.RowKit Go.Proofs.YtbcpkigeginmnaaW.PrintWords Go.Proofs.YtbcpkigeginmnaaW.PrintLast Go.Proofs.YtbcpkigeginmnaaW.PrintMore Go.Proofs.Ytbcpkigeginmnaa.Q Go.Proofs.Ytbcpkigeginmnaa.Hnd Go.Proofs.Ytbcpkigeginmnaa.Lst
def StpPost (w W : World) (R : List Int) (P : Int) (M : List (List Int)) (fa op tc : Int) (wr ca : Bool) (e : Ending) (w' : World) : Prop :=
  ∃ v0 v2 : Value, e = .returned (.agg (stepC v0 P v2 fa op tc wr ca)) ∧ Gst w w' W.heap.size w'.heap.size v0 v2 R M ∧ Below W.heap.size W w'
theorem StpPost.alloc_ {w W X : World} {R : List Int} {P : Int} {M : List (List Int)} {fa op tc : Int} {wr ca : Bool} {e : Ending} (h : StpPost w W R P M fa op tc wr ca e X) (o : Obj) : StpPost w W R P M fa op tc wr ca e (X.alloc o) := by
  obtain ⟨v0, v2, he, G, b⟩ := h
  have hz : X.heap.size ≤ (X.alloc o).heap.size := by simp
  exact ⟨v0, v2, he, ⟨Kd.R_mono (rq G.r0) (fun k hk => ⟨hk.1, Nat.lt_of_lt_of_le hk.2 hz⟩), Kd.S_mono (Kd.S_alloc G.r2 o) (fun k hk => ⟨hk.1, Nat.lt_of_lt_of_le hk.2 hz⟩), G.ge, Nat.le_refl _⟩, below_alloc b o⟩
theorem k8 {W : World} {g t : Nat} {a0 a1 a2 a3 a4 a5 a6 a7 : Value} (h : W.heap[g]? = some (.cells #[a0, a1, a2, a3, a4, a5, a6, a7] t (0, 0))) : W.cell? ⟨g, 0, none⟩ = some a0 ∧ W.cell? ⟨g, 1, none⟩ = some a1 ∧ W.cell? ⟨g, 2, none⟩ = some a2 ∧ W.cell? ⟨g, 3, none⟩ = some a3 ∧ W.cell? ⟨g, 4, none⟩ = some a4 ∧ W.cell? ⟨g, 5, none⟩ = some a5 ∧ W.cell? ⟨g, 6, none⟩ = some a6 ∧ W.cell? ⟨g, 7, none⟩ = some a7 ∧ W.frozen? ⟨g, 0, none⟩ = false ∧ W.frozen? ⟨g, 1, none⟩ = false ∧ W.frozen? ⟨g, 2, none⟩ = false ∧ W.frozen? ⟨g, 3, none⟩ = false ∧ W.frozen? ⟨g, 4, none⟩ = false ∧ W.frozen? ⟨g, 5, none⟩ = false ∧ W.frozen? ⟨g, 6, none⟩ = false ∧ W.frozen? ⟨g, 7, none⟩ = false :=
  ⟨kc h 0 rfl, kc h 1 rfl, kc h 2 rfl, kc h 3 rfl, kc h 4 rfl, kc h 5 rfl, kc h 6 rfl, kc h 7 rfl, blk_frozen h 0, blk_frozen h 1, blk_frozen h 2, blk_frozen h 3, blk_frozen h 4, blk_frozen h 5, blk_frozen h 6, blk_frozen h 7⟩
theorem k8c {W : World} {g t : Nat} {a0 a1 a2 a3 a4 a5 a6 a7 : Value} (h : W.heap[g]? = some (.cells #[a0, a1, a2, a3, a4, a5, a6, a7] t (0, 0))) : W.cell? ⟨g, 0, none⟩ = some a0 ∧ W.cell? ⟨g, 1, none⟩ = some a1 ∧ W.cell? ⟨g, 2, none⟩ = some a2 ∧ W.cell? ⟨g, 3, none⟩ = some a3 ∧ W.cell? ⟨g, 4, none⟩ = some a4 ∧ W.cell? ⟨g, 5, none⟩ = some a5 ∧ W.cell? ⟨g, 6, none⟩ = some a6 ∧ W.cell? ⟨g, 7, none⟩ = some a7 :=
  ⟨kc h 0 rfl, kc h 1 rfl, kc h 2 rfl, kc h 3 rfl, kc h 4 rfl, kc h 5 rfl, kc h 6 rfl, kc h 7 rfl⟩
theorem k3 {W : World} {g t : Nat} {a0 a1 a2 : Value} (h : W.heap[g]? = some (.cells #[a0, a1, a2] t (0, 0))) : W.cell? ⟨g, 0, none⟩ = some a0 ∧ W.cell? ⟨g, 1, none⟩ = some a1 ∧ W.cell? ⟨g, 2, none⟩ = some a2 :=
  ⟨kc h 0 rfl, kc h 1 rfl, kc h 2 rfl⟩
def DoesOk (l : List S70) (r : List Int) (p : Int) (ram : List (List Int)) (op a b cc im cy : Int) (R : List Int) (P : Int) (M : List (List Int)) (tc : Int) (wr : Bool) : Prop :=
  ∀ (w0 w9 W : World) (lo hi gs : Nat) (v0 v2 : Value) (A : Option Addr) (c : Nat), DoIn w0 w9 W lo hi gs v0 v2 r p ram op A c l → Calls Try.prog 91 #[.pointer (some ⟨gs, 0, none⟩), .slice A l.length c, .agg #[.int .i64 op, .int .i64 a, .int .i64 b, .int .i64 cc, .int .i64 im], .int .i64 cy] W (DoOk w0 W lo hi gs v0 v2 R P M op tc wr)
def DoesBad (l : List S70) (r : List Int) (p : Int) (ram : List (List Int)) (op a b cc im cy t : Int) : Prop :=
  ∀ (w0 w9 W : World) (lo hi gs : Nat) (v0 v2 : Value) (A : Option Addr) (c : Nat), DoIn w0 w9 W lo hi gs v0 v2 r p ram op A c l → Calls Try.prog 91 #[.pointer (some ⟨gs, 0, none⟩), .slice A l.length c, .agg #[.int .i64 op, .int .i64 a, .int .i64 b, .int .i64 cc, .int .i64 im], .int .i64 cy] W (DoBad W lo hi gs t)
theorem dec_at {x op a b cc im : Int} {W : World} (h0 : 0 ≤ x) (h1 : x < 4294967296) (hA : decA x = #[.int .i64 op, .int .i64 a, .int .i64 b, .int .i64 cc, .int .i64 im]) (hB : decB x = true) :
    Calls Try.prog 90 #[.int .u32 x] W fun e w' => e = .returned (.tuple #[.agg #[.int .i64 op, .int .i64 a, .int .i64 b, .int .i64 cc, .int .i64 im], .bool true]) ∧ Below W.heap.size W w' :=
  (decode_i_calls x W h0 h1).mono (fun e w' h => by rw [hA, hB] at h; exact h)
theorem dec_no {x : Int} {W : World} (h0 : 0 ≤ x) (h1 : x < 4294967296) (hB : decB x = false) :
    Calls Try.prog 90 #[.int .u32 x] W fun e w' => e = .returned (.tuple #[.agg #[.int .i64 0, .int .i64 0, .int .i64 0, .int .i64 0, .int .i64 0], .bool false]) ∧ Below W.heap.size W w' :=
  (decode_i_calls x W h0 h1).mono (fun e w' h => by unfold decA at h; rw [hB, if_neg (by decide)] at h; exact h)
theorem decs_at {x op a b cc im : Int} {W : World} (h0 : 0 ≤ x) (h1 : x < 4294967296) (hA : decA x = #[.int .i64 op, .int .i64 a, .int .i64 b, .int .i64 cc, .int .i64 im]) (hB : decB x = true) :
    Calls Try.prog 87 #[.int .u32 x] W fun e w' => e = .returned (.tuple #[.agg #[.int .i64 op, .int .i64 a, .int .i64 b, .int .i64 cc, .int .i64 im], .bool true]) ∧ Below W.heap.size W w' :=
  (decode_s_calls x W h0 h1).mono (fun e w' h => by rw [hA, hB] at h; exact h)
theorem decs_no {x : Int} {W : World} (h0 : 0 ≤ x) (h1 : x < 4294967296) (hB : decB x = false) :
    Calls Try.prog 87 #[.int .u32 x] W fun e w' => e = .returned (.tuple #[.agg #[.int .i64 0, .int .i64 0, .int .i64 0, .int .i64 0, .int .i64 0], .bool false]) ∧ Below W.heap.size W w' :=
  (decode_s_calls x W h0 h1).mono (fun e w' h => by unfold decA at h; rw [hB, if_neg (by decide)] at h; exact h)
theorem Fr.put8 {S : Nat → Prop} {a w : World} {g : Nat} (h : Fr S a w) (hg : S g ∨ a.heap.size ≤ g) (u0 u1 u2 u3 u4 u5 u6 u7 : Value) : Fr S a ((((((((w.setCell ⟨g, 0, none⟩ u0).setCell ⟨g, 1, none⟩ u1).setCell ⟨g, 2, none⟩ u2).setCell ⟨g, 3, none⟩ u3).setCell ⟨g, 4, none⟩ u4).setCell ⟨g, 5, none⟩ u5).setCell ⟨g, 6, none⟩ u6).setCell ⟨g, 7, none⟩ u7) :=
  (((((((h.set (p := ⟨g, 0, none⟩) hg u0).set (p := ⟨g, 1, none⟩) hg u1).set (p := ⟨g, 2, none⟩) hg u2).set (p := ⟨g, 3, none⟩) hg u3).set (p := ⟨g, 4, none⟩) hg u4).set (p := ⟨g, 5, none⟩) hg u5).set (p := ⟨g, 6, none⟩) hg u6).set (p := ⟨g, 7, none⟩) hg u7
theorem stp_fin {w W Y : World} {lo hi : Nat} {v0 v2 : Value} {R : List Int} {P : Int} {M : List (List Int)} {fa op tc : Int} {wr ca : Bool} (G : Gst W Y lo hi v0 v2 R M) (hlo : W.heap.size + 2 ≤ lo) (F : Fr (fun k => W.heap.size ≤ k) W Y) (be : w.heap.size ≤ W.heap.size) :
    StpPost w W R P M fa op tc wr ca (.returned (.agg (stepC v0 P v2 fa op tc wr ca))) ((((((((Y.setCell ⟨W.heap.size + 1, 0, none⟩ v0).setCell ⟨W.heap.size + 1, 1, none⟩ (.int .u32 P)).setCell ⟨W.heap.size + 1, 2, none⟩ v2).setCell ⟨W.heap.size + 1, 3, none⟩ (.int .i64 fa)).setCell ⟨W.heap.size + 1, 4, none⟩ (.int .i64 op)).setCell ⟨W.heap.size + 1, 5, none⟩ (.int .i64 tc)).setCell ⟨W.heap.size + 1, 6, none⟩ (.bool wr)).setCell ⟨W.heap.size + 1, 7, none⟩ (.bool ca)) := by
  have F9 := Fr.put8 (S := fun k => k = W.heap.size + 1) (Fr.refl _ Y) (g := W.heap.size + 1) (.inl rfl) v0 (.int .u32 P) v2 (.int .i64 fa) (.int .i64 op) (.int .i64 tc) (.bool wr) (.bool ca)
  exact ⟨_, _, rfl, ((G.fr F9 (fun k h1 h2 e => by omega)).wide (by omega) (Nat.le_trans G.le F9.size) (Nat.le_refl _) (Nat.le_refl _)).lower be, (F.trans F9 (fun k h => .inl (by omega))).below (fun _ h => h) (Nat.le_refl _)⟩
section
variable {w W : World} {A : Option Addr} {c : Nat} {l : List S70} {A0 : Option Addr} {c0 : Nat} {r : List Int} {p : Int} {A2 : Option Addr} {c2 : Nat} {ram : List (List Int)} {K : Nat}
set_option maxHeartbeats 2000000 in
set_option maxRecDepth 100000 in
theorem core_fault (h : CameP w W A c l A0 c0 r A2 c2 ram) (h16 : r.length = 16) (p0 : 0 ≤ p) (p1 : p < 4294967296) (cy : Int) (t : Int) (ht : t ≠ 0) (hl : impl_Guest_load.f K r p ram l p 4 4 = some (0, t, p)) :
    Calls Try.prog 65 #[.slice A l.length c, .agg #[.slice A0 r.length c0, .int .u32 p, .slice A2 ram.length c2], .int .i64 cy] W (StpPost w W r p ram t (-1) (-1) false false) := by
  have hu28 := Try.underlying28
  have hu52 := Try.underlying52
  have hu89 := Try.underlying89
  have H := Aside0.mk h
  have H16 := Aside0.mk h16
  have HL := Aside0.mk hl
  have HC := Aside0.mk (clone_pure r p ram h.b0 h.b2 h.bb (ram.length + 1) (by omega))
  have T1 := Aside0.mk trivial
  have tb : (t != 0) = true := bne_iff_ne.mpr ht
  clear h h16 hl ht
  go_enter Try.func65, Try.ntmps65
  go_wp2_with (first | (go_at_call 44; clear T1; refine (impl_cloneGuest.calls (ram.length + 1) A0 c0 r p A2 c2 ram r p ram _ (cq H.out.r0) H.out.l0 (cq H.out.r2) H.out.l2 HC.out).mono ?_; rintro e w2 ⟨v0, v2, rfl, hR, hS, hb'⟩; obtain ⟨A3, c3, rfl⟩ := Kd.R_slice hR; obtain ⟨A4, c4, rfl⟩ := Kd.S_slice hS; have HG2 := Aside0.mk (Gst.new (w0 := W) hR hS (lq (Below.refl _ W))); have KG2 := Aside0.mk (blk_below (at2_0 (w := W) (o0 := .cells #[.slice A0 r.length c0, .int .u32 p, .slice A2 ram.length c2] 28) (o1 := .cells #[.slice none 0 0, .int .u32 0, .slice none 0 0, .int .i64 0, .int .i64 0, .int .i64 0, .bool false, .bool false] 52)) hb'); have KZ2 := Aside0.mk (blk_below (at2_1 (w := W) (o0 := .cells #[.slice A0 r.length c0, .int .u32 p, .slice A2 ram.length c2] 28) (o1 := .cells #[.slice none 0 0, .int .u32 0, .slice none 0 0, .int .i64 0, .int .i64 0, .int .i64 0, .bool false, .bool false] 52)) hb'); have F2 := Aside0.mk (((Fr.refl (fun _ => False) W).alloc (.cells #[.slice A0 r.length c0, .int .u32 p, .slice A2 ram.length c2] 28) |>.alloc (.cells #[.slice none 0 0, .int .u32 0, .slice none 0 0, .int .i64 0, .int .i64 0, .int .i64 0, .bool false, .bool false] 52)).step hb'); have lz2 : W.heap.size + 1 < w2.heap.size := blk_lt KZ2.out; have lg2 : W.heap.size < w2.heap.size := Nat.lt_of_succ_lt lz2; have nz2 : W.heap.size + 1 ≠ w2.heap.size := Nat.ne_of_lt lz2; have ng2 : W.heap.size ≠ w2.heap.size := Nat.ne_of_lt lg2; have SZ := Aside0.mk (show W.heap.size + 2 ≤ w2.heap.size from lz2); have HLO := Aside0.mk hb'.size; clear hR hS hb'; obtain ⟨g0, g1, g2⟩ := k3 KG2.out; obtain ⟨z0, z1, z2, z3, z4, z5, z6, z7, fz0, fz1, fz2, fz3, fz4, fz5, fz6, fz7⟩ := k8 KZ2.out) | (go_at_call 59; have B3 := Aside0.mk (show Below w2.heap.size w2 ((w2.alloc (.cells #[.slice A3 r.length c3, .int .u32 p, .slice A4 ram.length c4] 28)).alloc (.cells (stepC (.slice A3 r.length c3) p (.slice A4 ram.length c4) 0 (-1) (-1) false false) 52)) from below_alloc (below_alloc (Below.refl _ _) _) _); refine (load_any K w2.heap.size 28 #[.slice A3 r.length c3, .int .u32 p, .slice A4 ram.length c4] r p ram A c l p 4 4 0 t p w2 _ ⟨at2_0, Nat.le_refl _, A3, c3, A4, c4, rfl, rfl, rfl, (Kd.R_reads' HG2.out.r0).2.2, (Kd.S_reads' HG2.out.r2).2.2⟩ B3.out (Kd.C_foot_came k70_heap (Kd.C_below H.out.cw (F2.out.below (fun _ h => h.elim) (Nat.le_refl _))) B3.out (Nat.le_refl _)) H.out.lw HL.out).mono ?_; rintro e w3 ⟨rfl, hI, hb, hk⟩; have FF3 := Aside0.mk (keep_fr hk B3.out hb); have B93 := Aside0.mk hb; have K7 := Aside0.mk hI.1; have K8 := Aside0.mk (FF3.out.blk (at2_1 (w := w2) (o0 := .cells #[.slice A3 r.length c3, .int .u32 p, .slice A4 ram.length c4] 28) (o1 := .cells (stepC (.slice A3 r.length c3) p (.slice A4 ram.length c4) 0 (-1) (-1) false false) 52)) (by omega)); have KG3 := Aside0.mk (FF3.out.blk (bq KG2.out) (by omega)); have KZ3 := Aside0.mk (FF3.out.blk (bq KZ2.out) (by omega)); have HG3 := Aside0.mk ((gq HG2.out).fr FF3.out (fun k h1 h2 h3 => by omega)); have F3 := Aside0.mk ((F2.out.step B3.out).mono (T := fun k => W.heap.size ≤ k) (fun _ h => h.elim) |>.trans FF3.out (fun k hk => .inl (by omega))); have l83 : w2.heap.size + 1 < w3.heap.size := blk_lt K8.out; have lz3 : W.heap.size + 1 < w3.heap.size := blk_lt KZ3.out; have lg3 : W.heap.size < w3.heap.size := blk_lt KG3.out; clear hI hb hk; (try clear g0 g1 g2); (try clear z0 fz0 z1 fz1 z2 fz2 z3 fz3 z4 fz4 z5 fz5 z6 fz6 z7 fz7); obtain ⟨g0, g1, g2⟩ := k3 KG3.out; obtain ⟨z0, z1, z2, z3, z4, z5, z6, z7, fz0, fz1, fz2, fz3, fz4, fz5, fz6, fz7⟩ := k8 KZ3.out; obtain ⟨n0, n1, n2, n3, n4, n5, n6, n7, fn0, fn1, fn2, fn3, fn4, fn5, fn6, fn7⟩ := k8 K8.out))
  have FY : Fr (fun k => k = w2.heap.size + 1) w3 (w3.setCell ⟨w2.heap.size + 1, 3, none⟩ (.int .i64 t)) := (Fr.refl (fun k => k = w2.heap.size + 1) w3).set (p := ⟨w2.heap.size + 1, 3, none⟩) (.inl rfl) _
  refine bodyPost_ret (results_cell_row rfl _ _ (W.heap.size + 1) 52 (stepC (.slice A3 r.length c3) p (.slice A4 ram.length c4) t (-1) (-1) false false) (0, 0) _ rfl (blk_put (blk_put (blk_put (blk_put (blk_put (blk_put (blk_put (blk_put (FY.blk KZ3.out (by omega)) 0 _ rfl) 1 _ rfl) 2 _ rfl) 3 _ rfl) 4 _ rfl) 5 _ rfl) 6 _ rfl) 7 _ rfl) Try.underlying52 rfl (by kernel_rfl)) rfl ?_
  exact stp_fin (HG3.out.fr FY (fun k h1 h2 h3 => by omega)) (by simp) (F3.out.trans FY (fun k hk => .inl (by omega))) H.out.be.size
set_option maxHeartbeats 2000000 in
set_option maxRecDepth 100000 in
theorem core_nodec (h : CameP w W A c l A0 c0 r A2 c2 ram) (h16 : r.length = 16) (p0 : 0 ≤ p) (p1 : p < 4294967296) (cy : Int) (x : Int) (hl : impl_Guest_load.f K r p ram l p 4 4 = some (x, 0, p)) (x0 : 0 ≤ x) (x1 : x < 4294967296) (hB : decB x = false) :
    Calls Try.prog 65 #[.slice A l.length c, .agg #[.slice A0 r.length c0, .int .u32 p, .slice A2 ram.length c2], .int .i64 cy] W (StpPost w W r p ram 4 (-1) (-1) false false) := by
  have hu28 := Try.underlying28
  have hu52 := Try.underlying52
  have hu89 := Try.underlying89
  have H := Aside0.mk h
  have H16 := Aside0.mk h16
  have HL := Aside0.mk hl
  have HC := Aside0.mk (clone_pure r p ram h.b0 h.b2 h.bb (ram.length + 1) (by omega))
  have T1 := Aside0.mk trivial
  have HB := Aside0.mk hB
  clear h h16 hl hB
  go_enter Try.func65, Try.ntmps65
  go_wp2_with (first | (go_at_call 44; clear T1; refine (impl_cloneGuest.calls (ram.length + 1) A0 c0 r p A2 c2 ram r p ram _ (cq H.out.r0) H.out.l0 (cq H.out.r2) H.out.l2 HC.out).mono ?_; rintro e w2 ⟨v0, v2, rfl, hR, hS, hb'⟩; obtain ⟨A3, c3, rfl⟩ := Kd.R_slice hR; obtain ⟨A4, c4, rfl⟩ := Kd.S_slice hS; have HG2 := Aside0.mk (Gst.new (w0 := W) hR hS (lq (Below.refl _ W))); have KG2 := Aside0.mk (blk_below (at2_0 (w := W) (o0 := .cells #[.slice A0 r.length c0, .int .u32 p, .slice A2 ram.length c2] 28) (o1 := .cells #[.slice none 0 0, .int .u32 0, .slice none 0 0, .int .i64 0, .int .i64 0, .int .i64 0, .bool false, .bool false] 52)) hb'); have KZ2 := Aside0.mk (blk_below (at2_1 (w := W) (o0 := .cells #[.slice A0 r.length c0, .int .u32 p, .slice A2 ram.length c2] 28) (o1 := .cells #[.slice none 0 0, .int .u32 0, .slice none 0 0, .int .i64 0, .int .i64 0, .int .i64 0, .bool false, .bool false] 52)) hb'); have F2 := Aside0.mk (((Fr.refl (fun _ => False) W).alloc (.cells #[.slice A0 r.length c0, .int .u32 p, .slice A2 ram.length c2] 28) |>.alloc (.cells #[.slice none 0 0, .int .u32 0, .slice none 0 0, .int .i64 0, .int .i64 0, .int .i64 0, .bool false, .bool false] 52)).step hb'); have lz2 : W.heap.size + 1 < w2.heap.size := blk_lt KZ2.out; have lg2 : W.heap.size < w2.heap.size := Nat.lt_of_succ_lt lz2; have nz2 : W.heap.size + 1 ≠ w2.heap.size := Nat.ne_of_lt lz2; have ng2 : W.heap.size ≠ w2.heap.size := Nat.ne_of_lt lg2; have SZ := Aside0.mk (show W.heap.size + 2 ≤ w2.heap.size from lz2); have HLO := Aside0.mk hb'.size; clear hR hS hb'; obtain ⟨g0, g1, g2⟩ := k3 KG2.out; obtain ⟨z0, z1, z2, z3, z4, z5, z6, z7, fz0, fz1, fz2, fz3, fz4, fz5, fz6, fz7⟩ := k8 KZ2.out) | (go_at_call 59; have B3 := Aside0.mk (show Below w2.heap.size w2 ((w2.alloc (.cells #[.slice A3 r.length c3, .int .u32 p, .slice A4 ram.length c4] 28)).alloc (.cells (stepC (.slice A3 r.length c3) p (.slice A4 ram.length c4) 0 (-1) (-1) false false) 52)) from below_alloc (below_alloc (Below.refl _ _) _) _); refine (load_any K w2.heap.size 28 #[.slice A3 r.length c3, .int .u32 p, .slice A4 ram.length c4] r p ram A c l p 4 4 x 0 p w2 _ ⟨at2_0, Nat.le_refl _, A3, c3, A4, c4, rfl, rfl, rfl, (Kd.R_reads' HG2.out.r0).2.2, (Kd.S_reads' HG2.out.r2).2.2⟩ B3.out (Kd.C_foot_came k70_heap (Kd.C_below H.out.cw (F2.out.below (fun _ h => h.elim) (Nat.le_refl _))) B3.out (Nat.le_refl _)) H.out.lw HL.out).mono ?_; rintro e w3 ⟨rfl, hI, hb, hk⟩; have FF3 := Aside0.mk (keep_fr hk B3.out hb); have B93 := Aside0.mk hb; have K7 := Aside0.mk hI.1; have K8 := Aside0.mk (FF3.out.blk (at2_1 (w := w2) (o0 := .cells #[.slice A3 r.length c3, .int .u32 p, .slice A4 ram.length c4] 28) (o1 := .cells (stepC (.slice A3 r.length c3) p (.slice A4 ram.length c4) 0 (-1) (-1) false false) 52)) (by omega)); have KG3 := Aside0.mk (FF3.out.blk (bq KG2.out) (by omega)); have KZ3 := Aside0.mk (FF3.out.blk (bq KZ2.out) (by omega)); have HG3 := Aside0.mk ((gq HG2.out).fr FF3.out (fun k h1 h2 h3 => by omega)); have F3 := Aside0.mk ((F2.out.step B3.out).mono (T := fun k => W.heap.size ≤ k) (fun _ h => h.elim) |>.trans FF3.out (fun k hk => .inl (by omega))); have l83 : w2.heap.size + 1 < w3.heap.size := blk_lt K8.out; have lz3 : W.heap.size + 1 < w3.heap.size := blk_lt KZ3.out; have lg3 : W.heap.size < w3.heap.size := blk_lt KG3.out; clear hI hb hk; (try clear g0 g1 g2); (try clear z0 fz0 z1 fz1 z2 fz2 z3 fz3 z4 fz4 z5 fz5 z6 fz6 z7 fz7); obtain ⟨g0, g1, g2⟩ := k3 KG3.out; obtain ⟨z0, z1, z2, z3, z4, z5, z6, z7, fz0, fz1, fz2, fz3, fz4, fz5, fz6, fz7⟩ := k8 KZ3.out; obtain ⟨n0, n1, n2, n3, n4, n5, n6, n7, fn0, fn1, fn2, fn3, fn4, fn5, fn6, fn7⟩ := k8 K8.out) | (go_at_call 90; refine (dec_no x0 x1 HB.out).mono ?_; rintro e w4 ⟨rfl, hb⟩; have K84 := Aside0.mk (blk_below K8.out hb); have KG4 := Aside0.mk (blk_below KG3.out hb); have KZ4 := Aside0.mk (blk_below KZ3.out hb); have HG4 := Aside0.mk (HG3.out.below hb); have F4 := Aside0.mk (F3.out.step hb); have B94 := Aside0.mk (below_step B93.out hb); have l84 : w2.heap.size + 1 < w4.heap.size := blk_lt K84.out; have n84 : w2.heap.size + 1 ≠ w4.heap.size := Nat.ne_of_lt l84; have lz4 : W.heap.size + 1 < w4.heap.size := blk_lt KZ4.out; have lg4 : W.heap.size < w4.heap.size := blk_lt KG4.out; clear hb; (try clear g0 g1 g2); (try clear z0 fz0 z1 fz1 z2 fz2 z3 fz3 z4 fz4 z5 fz5 z6 fz6 z7 fz7); (try clear n0 fn0 n1 fn1 n2 fn2 n3 fn3 n4 fn4 n5 fn5 n6 fn6 n7 fn7); obtain ⟨g0, g1, g2⟩ := k3 KG4.out; obtain ⟨z0, z1, z2, z3, z4, z5, z6, z7, fz0, fz1, fz2, fz3, fz4, fz5, fz6, fz7⟩ := k8 KZ4.out; obtain ⟨n0, n1, n2, n3, n4, n5, n6, n7, fn0, fn1, fn2, fn3, fn4, fn5, fn6, fn7⟩ := k8 K84.out))
  have FY : Fr (fun k => k = w2.heap.size + 1) w4 (w4.setCell ⟨w2.heap.size + 1, 3, none⟩ (.int .i64 4)) := ((Fr.refl (fun k => k = w2.heap.size + 1) w4).set (p := ⟨w2.heap.size + 1, 3, none⟩) (.inl rfl) _)
  refine bodyPost_ret (results_cell_row rfl _ _ (W.heap.size + 1) 52 (stepC (.slice A3 r.length c3) p (.slice A4 ram.length c4) 4 (-1) (-1) false false) (0, 0) _ rfl (bq (blk_put (blk_put (blk_put (blk_put (blk_put (blk_put (blk_put (blk_put (FY.blk KZ4.out (by omega)) 0 _ rfl) 1 _ rfl) 2 _ rfl) 3 _ rfl) 4 _ rfl) 5 _ rfl) 6 _ rfl) 7 _ rfl)) Try.underlying52 rfl (by kernel_rfl)) rfl ?_
  exact (stp_fin (HG4.out.fr FY (fun k h1 h2 h3 => by omega)) (by simp) (F4.out.trans FY (fun k hk => .inl (by omega))) H.out.be.size).alloc_ _
set_option maxHeartbeats 2000000 in
set_option maxRecDepth 100000 in
theorem core_calls (h : CameP w W A c l A0 c0 r A2 c2 ram) (h16 : r.length = 16) (p0 : 0 ≤ p) (p1 : p < 4294967296) (cy : Int) (x : Int) (hl : impl_Guest_load.f K r p ram l p 4 4 = some (x, 0, p)) (x0 : 0 ≤ x) (x1 : x < 4294967296) (op a b cc im : Int) (hA : decA x = #[.int .i64 op, .int .i64 a, .int .i64 b, .int .i64 cc, .int .i64 im]) (hB : decB x = true) (h25 : op ≥ 25) :
    Calls Try.prog 65 #[.slice A l.length c, .agg #[.slice A0 r.length c0, .int .u32 p, .slice A2 ram.length c2], .int .i64 cy] W (StpPost w W r p ram 0 op (-1) false true) := by
  have hu28 := Try.underlying28
  have hu52 := Try.underlying52
  have hu89 := Try.underlying89
  have H := Aside0.mk h
  have H16 := Aside0.mk h16
  have HL := Aside0.mk hl
  have HC := Aside0.mk (clone_pure r p ram h.b0 h.b2 h.bb (ram.length + 1) (by omega))
  have T1 := Aside0.mk trivial
  have HA := Aside0.mk hA
  have HB := Aside0.mk hB
  clear h h16 hl hA hB
  go_enter Try.func65, Try.ntmps65
  go_wp2_with (first | (go_at_call 44; clear T1; refine (impl_cloneGuest.calls (ram.length + 1) A0 c0 r p A2 c2 ram r p ram _ (cq H.out.r0) H.out.l0 (cq H.out.r2) H.out.l2 HC.out).mono ?_; rintro e w2 ⟨v0, v2, rfl, hR, hS, hb'⟩; obtain ⟨A3, c3, rfl⟩ := Kd.R_slice hR; obtain ⟨A4, c4, rfl⟩ := Kd.S_slice hS; have HG2 := Aside0.mk (Gst.new (w0 := W) hR hS (lq (Below.refl _ W))); have KG2 := Aside0.mk (blk_below (at2_0 (w := W) (o0 := .cells #[.slice A0 r.length c0, .int .u32 p, .slice A2 ram.length c2] 28) (o1 := .cells #[.slice none 0 0, .int .u32 0, .slice none 0 0, .int .i64 0, .int .i64 0, .int .i64 0, .bool false, .bool false] 52)) hb'); have KZ2 := Aside0.mk (blk_below (at2_1 (w := W) (o0 := .cells #[.slice A0 r.length c0, .int .u32 p, .slice A2 ram.length c2] 28) (o1 := .cells #[.slice none 0 0, .int .u32 0, .slice none 0 0, .int .i64 0, .int .i64 0, .int .i64 0, .bool false, .bool false] 52)) hb'); have F2 := Aside0.mk (((Fr.refl (fun _ => False) W).alloc (.cells #[.slice A0 r.length c0, .int .u32 p, .slice A2 ram.length c2] 28) |>.alloc (.cells #[.slice none 0 0, .int .u32 0, .slice none 0 0, .int .i64 0, .int .i64 0, .int .i64 0, .bool false, .bool false] 52)).step hb'); have lz2 : W.heap.size + 1 < w2.heap.size := blk_lt KZ2.out; have lg2 : W.heap.size < w2.heap.size := Nat.lt_of_succ_lt lz2; have nz2 : W.heap.size + 1 ≠ w2.heap.size := Nat.ne_of_lt lz2; have ng2 : W.heap.size ≠ w2.heap.size := Nat.ne_of_lt lg2; have SZ := Aside0.mk (show W.heap.size + 2 ≤ w2.heap.size from lz2); have HLO := Aside0.mk hb'.size; clear hR hS hb'; obtain ⟨g0, g1, g2⟩ := k3 KG2.out; obtain ⟨z0, z1, z2, z3, z4, z5, z6, z7, fz0, fz1, fz2, fz3, fz4, fz5, fz6, fz7⟩ := k8 KZ2.out) | (go_at_call 59; have B3 := Aside0.mk (show Below w2.heap.size w2 ((w2.alloc (.cells #[.slice A3 r.length c3, .int .u32 p, .slice A4 ram.length c4] 28)).alloc (.cells (stepC (.slice A3 r.length c3) p (.slice A4 ram.length c4) 0 (-1) (-1) false false) 52)) from below_alloc (below_alloc (Below.refl _ _) _) _); refine (load_any K w2.heap.size 28 #[.slice A3 r.length c3, .int .u32 p, .slice A4 ram.length c4] r p ram A c l p 4 4 x 0 p w2 _ ⟨at2_0, Nat.le_refl _, A3, c3, A4, c4, rfl, rfl, rfl, (Kd.R_reads' HG2.out.r0).2.2, (Kd.S_reads' HG2.out.r2).2.2⟩ B3.out (Kd.C_foot_came k70_heap (Kd.C_below H.out.cw (F2.out.below (fun _ h => h.elim) (Nat.le_refl _))) B3.out (Nat.le_refl _)) H.out.lw HL.out).mono ?_; rintro e w3 ⟨rfl, hI, hb, hk⟩; have FF3 := Aside0.mk (keep_fr hk B3.out hb); have B93 := Aside0.mk hb; have K7 := Aside0.mk hI.1; have K8 := Aside0.mk (FF3.out.blk (at2_1 (w := w2) (o0 := .cells #[.slice A3 r.length c3, .int .u32 p, .slice A4 ram.length c4] 28) (o1 := .cells (stepC (.slice A3 r.length c3) p (.slice A4 ram.length c4) 0 (-1) (-1) false false) 52)) (by omega)); have KG3 := Aside0.mk (FF3.out.blk (bq KG2.out) (by omega)); have KZ3 := Aside0.mk (FF3.out.blk (bq KZ2.out) (by omega)); have HG3 := Aside0.mk ((gq HG2.out).fr FF3.out (fun k h1 h2 h3 => by omega)); have F3 := Aside0.mk ((F2.out.step B3.out).mono (T := fun k => W.heap.size ≤ k) (fun _ h => h.elim) |>.trans FF3.out (fun k hk => .inl (by omega))); have l83 : w2.heap.size + 1 < w3.heap.size := blk_lt K8.out; have lz3 : W.heap.size + 1 < w3.heap.size := blk_lt KZ3.out; have lg3 : W.heap.size < w3.heap.size := blk_lt KG3.out; clear hI hb hk; (try clear g0 g1 g2); (try clear z0 fz0 z1 fz1 z2 fz2 z3 fz3 z4 fz4 z5 fz5 z6 fz6 z7 fz7); obtain ⟨g0, g1, g2⟩ := k3 KG3.out; obtain ⟨z0, z1, z2, z3, z4, z5, z6, z7, fz0, fz1, fz2, fz3, fz4, fz5, fz6, fz7⟩ := k8 KZ3.out; obtain ⟨n0, n1, n2, n3, n4, n5, n6, n7, fn0, fn1, fn2, fn3, fn4, fn5, fn6, fn7⟩ := k8 K8.out) | (go_at_call 90; refine (dec_at x0 x1 HA.out HB.out).mono ?_; rintro e w4 ⟨rfl, hb⟩; have K84 := Aside0.mk (blk_below K8.out hb); have KG4 := Aside0.mk (blk_below KG3.out hb); have KZ4 := Aside0.mk (blk_below KZ3.out hb); have HG4 := Aside0.mk (HG3.out.below hb); have F4 := Aside0.mk (F3.out.step hb); have B94 := Aside0.mk (below_step B93.out hb); have l84 : w2.heap.size + 1 < w4.heap.size := blk_lt K84.out; have n84 : w2.heap.size + 1 ≠ w4.heap.size := Nat.ne_of_lt l84; have lz4 : W.heap.size + 1 < w4.heap.size := blk_lt KZ4.out; have lg4 : W.heap.size < w4.heap.size := blk_lt KG4.out; clear hb; (try clear g0 g1 g2); (try clear z0 fz0 z1 fz1 z2 fz2 z3 fz3 z4 fz4 z5 fz5 z6 fz6 z7 fz7); (try clear n0 fn0 n1 fn1 n2 fn2 n3 fn3 n4 fn4 n5 fn5 n6 fn6 n7 fn7); obtain ⟨g0, g1, g2⟩ := k3 KG4.out; obtain ⟨z0, z1, z2, z3, z4, z5, z6, z7, fz0, fz1, fz2, fz3, fz4, fz5, fz6, fz7⟩ := k8 KZ4.out; obtain ⟨n0, n1, n2, n3, n4, n5, n6, n7, fn0, fn1, fn2, fn3, fn4, fn5, fn6, fn7⟩ := k8 K84.out))
  have FY : Fr (fun k => k = w2.heap.size + 1) w4 ((w4.setCell ⟨w2.heap.size + 1, 4, none⟩ (.int .i64 op)).setCell ⟨w2.heap.size + 1, 7, none⟩ (.bool true)) := (((Fr.refl (fun k => k = w2.heap.size + 1) w4).set (p := ⟨w2.heap.size + 1, 4, none⟩) (.inl rfl) _).set (p := ⟨w2.heap.size + 1, 7, none⟩) (.inl rfl) _)
  refine bodyPost_ret (results_cell_row rfl _ _ (W.heap.size + 1) 52 (stepC (.slice A3 r.length c3) p (.slice A4 ram.length c4) 0 op (-1) false true) (0, 0) _ rfl (bq (blk_put (blk_put (blk_put (blk_put (blk_put (blk_put (blk_put (blk_put (FY.blk KZ4.out (by omega)) 0 _ rfl) 1 _ rfl) 2 _ rfl) 3 _ rfl) 4 _ rfl) 5 _ rfl) 6 _ rfl) 7 _ rfl)) Try.underlying52 rfl (by kernel_rfl)) rfl ?_
  exact (stp_fin (HG4.out.fr FY (fun k h1 h2 h3 => by omega)) (by simp) (F4.out.trans FY (fun k hk => .inl (by omega))) H.out.be.size).alloc_ _
set_option maxHeartbeats 2000000 in
set_option maxRecDepth 100000 in
theorem core_ok (h : CameP w W A c l A0 c0 r A2 c2 ram) (h16 : r.length = 16) (p0 : 0 ≤ p) (p1 : p < 4294967296) (cy : Int) (x : Int) (hl : impl_Guest_load.f K r p ram l p 4 4 = some (x, 0, p)) (x0 : 0 ≤ x) (x1 : x < 4294967296) (op a b cc im : Int) (hA : decA x = #[.int .i64 op, .int .i64 a, .int .i64 b, .int .i64 cc, .int .i64 im]) (hB : decB x = true) (h25 : op < 25) (R : List Int) (P : Int) (M : List (List Int)) (tc : Int) (wr : Bool) (hd : DoesOk l r p ram op a b cc im cy R P M tc wr) :
    Calls Try.prog 65 #[.slice A l.length c, .agg #[.slice A0 r.length c0, .int .u32 p, .slice A2 ram.length c2], .int .i64 cy] W (StpPost w W R P M 0 op tc wr false) := by
  have hu28 := Try.underlying28
  have hu52 := Try.underlying52
  have hu89 := Try.underlying89
  have H := Aside0.mk h
  have H16 := Aside0.mk h16
  have HL := Aside0.mk hl
  have HC := Aside0.mk (clone_pure r p ram h.b0 h.b2 h.bb (ram.length + 1) (by omega))
  have T1 := Aside0.mk trivial
  have HA := Aside0.mk hA
  have HB := Aside0.mk hB
  have HD := Aside0.mk hd
  have o1 : ¬ op ≥ 25 := by omega
  clear h h16 hl hA hB hd
  go_enter Try.func65, Try.ntmps65
  go_wp2_with (first | (go_at_call 44; clear T1; refine (impl_cloneGuest.calls (ram.length + 1) A0 c0 r p A2 c2 ram r p ram _ (cq H.out.r0) H.out.l0 (cq H.out.r2) H.out.l2 HC.out).mono ?_; rintro e w2 ⟨v0, v2, rfl, hR, hS, hb'⟩; obtain ⟨A3, c3, rfl⟩ := Kd.R_slice hR; obtain ⟨A4, c4, rfl⟩ := Kd.S_slice hS; have HG2 := Aside0.mk (Gst.new (w0 := W) hR hS (lq (Below.refl _ W))); have KG2 := Aside0.mk (blk_below (at2_0 (w := W) (o0 := .cells #[.slice A0 r.length c0, .int .u32 p, .slice A2 ram.length c2] 28) (o1 := .cells #[.slice none 0 0, .int .u32 0, .slice none 0 0, .int .i64 0, .int .i64 0, .int .i64 0, .bool false, .bool false] 52)) hb'); have KZ2 := Aside0.mk (blk_below (at2_1 (w := W) (o0 := .cells #[.slice A0 r.length c0, .int .u32 p, .slice A2 ram.length c2] 28) (o1 := .cells #[.slice none 0 0, .int .u32 0, .slice none 0 0, .int .i64 0, .int .i64 0, .int .i64 0, .bool false, .bool false] 52)) hb'); have F2 := Aside0.mk (((Fr.refl (fun _ => False) W).alloc (.cells #[.slice A0 r.length c0, .int .u32 p, .slice A2 ram.length c2] 28) |>.alloc (.cells #[.slice none 0 0, .int .u32 0, .slice none 0 0, .int .i64 0, .int .i64 0, .int .i64 0, .bool false, .bool false] 52)).step hb'); have lz2 : W.heap.size + 1 < w2.heap.size := blk_lt KZ2.out; have lg2 : W.heap.size < w2.heap.size := Nat.lt_of_succ_lt lz2; have nz2 : W.heap.size + 1 ≠ w2.heap.size := Nat.ne_of_lt lz2; have ng2 : W.heap.size ≠ w2.heap.size := Nat.ne_of_lt lg2; have SZ := Aside0.mk (show W.heap.size + 2 ≤ w2.heap.size from lz2); have HLO := Aside0.mk hb'.size; clear hR hS hb'; obtain ⟨g0, g1, g2⟩ := k3 KG2.out; obtain ⟨z0, z1, z2, z3, z4, z5, z6, z7, fz0, fz1, fz2, fz3, fz4, fz5, fz6, fz7⟩ := k8 KZ2.out) | (go_at_call 59; have B3 := Aside0.mk (show Below w2.heap.size w2 ((w2.alloc (.cells #[.slice A3 r.length c3, .int .u32 p, .slice A4 ram.length c4] 28)).alloc (.cells (stepC (.slice A3 r.length c3) p (.slice A4 ram.length c4) 0 (-1) (-1) false false) 52)) from below_alloc (below_alloc (Below.refl _ _) _) _); refine (load_any K w2.heap.size 28 #[.slice A3 r.length c3, .int .u32 p, .slice A4 ram.length c4] r p ram A c l p 4 4 x 0 p w2 _ ⟨at2_0, Nat.le_refl _, A3, c3, A4, c4, rfl, rfl, rfl, (Kd.R_reads' HG2.out.r0).2.2, (Kd.S_reads' HG2.out.r2).2.2⟩ B3.out (Kd.C_foot_came k70_heap (Kd.C_below H.out.cw (F2.out.below (fun _ h => h.elim) (Nat.le_refl _))) B3.out (Nat.le_refl _)) H.out.lw HL.out).mono ?_; rintro e w3 ⟨rfl, hI, hb, hk⟩; have FF3 := Aside0.mk (keep_fr hk B3.out hb); have B93 := Aside0.mk hb; have K7 := Aside0.mk hI.1; have K8 := Aside0.mk (FF3.out.blk (at2_1 (w := w2) (o0 := .cells #[.slice A3 r.length c3, .int .u32 p, .slice A4 ram.length c4] 28) (o1 := .cells (stepC (.slice A3 r.length c3) p (.slice A4 ram.length c4) 0 (-1) (-1) false false) 52)) (by omega)); have KG3 := Aside0.mk (FF3.out.blk (bq KG2.out) (by omega)); have KZ3 := Aside0.mk (FF3.out.blk (bq KZ2.out) (by omega)); have HG3 := Aside0.mk ((gq HG2.out).fr FF3.out (fun k h1 h2 h3 => by omega)); have F3 := Aside0.mk ((F2.out.step B3.out).mono (T := fun k => W.heap.size ≤ k) (fun _ h => h.elim) |>.trans FF3.out (fun k hk => .inl (by omega))); have l83 : w2.heap.size + 1 < w3.heap.size := blk_lt K8.out; have lz3 : W.heap.size + 1 < w3.heap.size := blk_lt KZ3.out; have lg3 : W.heap.size < w3.heap.size := blk_lt KG3.out; clear hI hb hk; (try clear g0 g1 g2); (try clear z0 fz0 z1 fz1 z2 fz2 z3 fz3 z4 fz4 z5 fz5 z6 fz6 z7 fz7); obtain ⟨g0, g1, g2⟩ := k3 KG3.out; obtain ⟨z0, z1, z2, z3, z4, z5, z6, z7, fz0, fz1, fz2, fz3, fz4, fz5, fz6, fz7⟩ := k8 KZ3.out; obtain ⟨n0, n1, n2, n3, n4, n5, n6, n7, fn0, fn1, fn2, fn3, fn4, fn5, fn6, fn7⟩ := k8 K8.out) | (go_at_call 90; refine (dec_at x0 x1 HA.out HB.out).mono ?_; rintro e w4 ⟨rfl, hb⟩; have K84 := Aside0.mk (blk_below K8.out hb); have KG4 := Aside0.mk (blk_below KG3.out hb); have KZ4 := Aside0.mk (blk_below KZ3.out hb); have HG4 := Aside0.mk (HG3.out.below hb); have F4 := Aside0.mk (F3.out.step hb); have B94 := Aside0.mk (below_step B93.out hb); have l84 : w2.heap.size + 1 < w4.heap.size := blk_lt K84.out; have n84 : w2.heap.size + 1 ≠ w4.heap.size := Nat.ne_of_lt l84; have lz4 : W.heap.size + 1 < w4.heap.size := blk_lt KZ4.out; have lg4 : W.heap.size < w4.heap.size := blk_lt KG4.out; clear hb; (try clear g0 g1 g2); (try clear z0 fz0 z1 fz1 z2 fz2 z3 fz3 z4 fz4 z5 fz5 z6 fz6 z7 fz7); (try clear n0 fn0 n1 fn1 n2 fn2 n3 fn3 n4 fn4 n5 fn5 n6 fn6 n7 fn7); obtain ⟨g0, g1, g2⟩ := k3 KG4.out; obtain ⟨z0, z1, z2, z3, z4, z5, z6, z7, fz0, fz1, fz2, fz3, fz4, fz5, fz6, fz7⟩ := k8 KZ4.out; obtain ⟨n0, n1, n2, n3, n4, n5, n6, n7, fn0, fn1, fn2, fn3, fn4, fn5, fn6, fn7⟩ := k8 K84.out) | (go_at_call 91; have hzD : (w4.setCell ⟨w2.heap.size + 1, 4, none⟩ (.int .i64 op)).heap.size = w4.heap.size := (by simp); have FE := Aside0.mk (show Fr (fun k => k = w2.heap.size + 1) w4 (((w4.setCell ⟨w2.heap.size + 1, 4, none⟩ (.int .i64 op)).alloc (.cells #[.int .i64 op, .int .i64 a, .int .i64 b, .int .i64 cc, .int .i64 im] 89)).alloc (.cells (stepC (.slice A3 r.length c3) p (.slice A4 ram.length c4) 0 op (-1) false false) 52)) from (((Fr.refl (fun k => k = w2.heap.size + 1) w4).set (p := ⟨w2.heap.size + 1, 4, none⟩) (.inl rfl) _).alloc _).alloc _); have KI := Aside0.mk (show (((w4.setCell ⟨w2.heap.size + 1, 4, none⟩ (.int .i64 op)).alloc (.cells #[.int .i64 op, .int .i64 a, .int .i64 b, .int .i64 cc, .int .i64 im] 89)).alloc (.cells (stepC (.slice A3 r.length c3) p (.slice A4 ram.length c4) 0 op (-1) false false) 52)).heap[w4.heap.size]? = some (.cells #[.int .i64 op, .int .i64 a, .int .i64 b, .int .i64 cc, .int .i64 im] 89 (0, 0)) by (first | exact hzD ▸ at2_0 | (rw [← hzD]; exact at2_0))); have KS := Aside0.mk (show (((w4.setCell ⟨w2.heap.size + 1, 4, none⟩ (.int .i64 op)).alloc (.cells #[.int .i64 op, .int .i64 a, .int .i64 b, .int .i64 cc, .int .i64 im] 89)).alloc (.cells (stepC (.slice A3 r.length c3) p (.slice A4 ram.length c4) 0 op (-1) false false) 52)).heap[w4.heap.size + 1]? = some (.cells (stepC (.slice A3 r.length c3) p (.slice A4 ram.length c4) 0 op (-1) false false) 52 (0, 0)) by (first | exact hzD ▸ at2_1 | (rw [← hzD]; exact at2_1))); have HGE := Aside0.mk (HG4.out.fr FE.out (fun k h1 h2 h3 => by omega)); have HDI := Aside0.mk (DoIn.mk (op := op) HGE.out KS.out (fun h => by omega) H16.out H.out.cw H.out.lw HG2.out (F2.out.below (fun _ h => h.elim) (Nat.le_refl _)) (B94.out.trans (FE.out.below (fun i hi => by omega) B94.out.size)) (by omega)); refine (HD.out W w2 _ _ _ _ _ _ A c HDI.out).mono ?_; rintro e w5 hh; obtain ⟨he, hG, hk, hF⟩ := hh; subst he; have G5 := Aside0.mk hG; have K5 := Aside0.mk hk; have KZ5 := Aside0.mk (hF.blk (FE.out.blk KZ4.out (by omega)) (fun h => h.elim (fun h => by have h1 := h.1; first | omega | (simp at h1; omega) | (simp at h1; done)) (fun h => by omega))); have F5 := Aside0.mk ((F4.out.trans FE.out (fun k hk => .inl (by omega))).trans hF (fun k hk => .inl (hk.elim (fun hk => by have h1 := hk.1; first | omega | (simp at h1; omega) | (simp at h1; done)) (fun hk => by omega)))); clear hG hk hF hzD; (try clear g0 g1 g2); (try clear z0 fz0 z1 fz1 z2 fz2 z3 fz3 z4 fz4 z5 fz5 z6 fz6 z7 fz7); (try clear n0 fn0 n1 fn1 n2 fn2 n3 fn3 n4 fn4 n5 fn5 n6 fn6 n7 fn7); obtain ⟨z0, z1, z2, z3, z4, z5, z6, z7, fz0, fz1, fz2, fz3, fz4, fz5, fz6, fz7⟩ := k8 KZ5.out; obtain ⟨s0, s1, s2, s3, s4, s5, s6, s7⟩ := k8c K5.out))
  refine bodyPost_ret (results_cell_row rfl _ _ (W.heap.size + 1) 52 (stepC (.slice A3 r.length c3) P (.slice A4 ram.length c4) 0 op tc wr false) (0, 0) _ rfl (blk_put (blk_put (blk_put (blk_put (blk_put (blk_put (blk_put (blk_put KZ5.out 0 _ rfl) 1 _ rfl) 2 _ rfl) 3 _ rfl) 4 _ rfl) 5 _ rfl) 6 _ rfl) 7 _ rfl) Try.underlying52 rfl (by kernel_rfl)) rfl ?_
  exact stp_fin G5.out (by simp) F5.out H.out.be.size
set_option maxHeartbeats 2000000 in
set_option maxRecDepth 100000 in
theorem core_bad (h : CameP w W A c l A0 c0 r A2 c2 ram) (h16 : r.length = 16) (p0 : 0 ≤ p) (p1 : p < 4294967296) (cy : Int) (x : Int) (hl : impl_Guest_load.f K r p ram l p 4 4 = some (x, 0, p)) (x0 : 0 ≤ x) (x1 : x < 4294967296) (op a b cc im : Int) (hA : decA x = #[.int .i64 op, .int .i64 a, .int .i64 b, .int .i64 cc, .int .i64 im]) (hB : decB x = true) (h25 : op < 25) (t : Int) (ht : t ≠ 0) (hd : DoesBad l r p ram op a b cc im cy t) :
    Calls Try.prog 65 #[.slice A l.length c, .agg #[.slice A0 r.length c0, .int .u32 p, .slice A2 ram.length c2], .int .i64 cy] W (StpPost w W r p ram t op (-1) false false) := by
  have hu28 := Try.underlying28
  have hu52 := Try.underlying52
  have hu89 := Try.underlying89
  have H := Aside0.mk h
  have H16 := Aside0.mk h16
  have HL := Aside0.mk hl
  have HC := Aside0.mk (clone_pure r p ram h.b0 h.b2 h.bb (ram.length + 1) (by omega))
  have T1 := Aside0.mk trivial
  have HA := Aside0.mk hA
  have HB := Aside0.mk hB
  have HD := Aside0.mk hd
  have o1 : ¬ op ≥ 25 := by omega
  have tb : (t != 0) = true := bne_iff_ne.mpr ht
  clear h h16 hl hA hB hd ht
  go_enter Try.func65, Try.ntmps65
  go_wp2_with (first | (go_at_call 44; clear T1; refine (impl_cloneGuest.calls (ram.length + 1) A0 c0 r p A2 c2 ram r p ram _ (cq H.out.r0) H.out.l0 (cq H.out.r2) H.out.l2 HC.out).mono ?_; rintro e w2 ⟨v0, v2, rfl, hR, hS, hb'⟩; obtain ⟨A3, c3, rfl⟩ := Kd.R_slice hR; obtain ⟨A4, c4, rfl⟩ := Kd.S_slice hS; have HG2 := Aside0.mk (Gst.new (w0 := W) hR hS (lq (Below.refl _ W))); have KG2 := Aside0.mk (blk_below (at2_0 (w := W) (o0 := .cells #[.slice A0 r.length c0, .int .u32 p, .slice A2 ram.length c2] 28) (o1 := .cells #[.slice none 0 0, .int .u32 0, .slice none 0 0, .int .i64 0, .int .i64 0, .int .i64 0, .bool false, .bool false] 52)) hb'); have KZ2 := Aside0.mk (blk_below (at2_1 (w := W) (o0 := .cells #[.slice A0 r.length c0, .int .u32 p, .slice A2 ram.length c2] 28) (o1 := .cells #[.slice none 0 0, .int .u32 0, .slice none 0 0, .int .i64 0, .int .i64 0, .int .i64 0, .bool false, .bool false] 52)) hb'); have F2 := Aside0.mk (((Fr.refl (fun _ => False) W).alloc (.cells #[.slice A0 r.length c0, .int .u32 p, .slice A2 ram.length c2] 28) |>.alloc (.cells #[.slice none 0 0, .int .u32 0, .slice none 0 0, .int .i64 0, .int .i64 0, .int .i64 0, .bool false, .bool false] 52)).step hb'); have lz2 : W.heap.size + 1 < w2.heap.size := blk_lt KZ2.out; have lg2 : W.heap.size < w2.heap.size := Nat.lt_of_succ_lt lz2; have nz2 : W.heap.size + 1 ≠ w2.heap.size := Nat.ne_of_lt lz2; have ng2 : W.heap.size ≠ w2.heap.size := Nat.ne_of_lt lg2; have SZ := Aside0.mk (show W.heap.size + 2 ≤ w2.heap.size from lz2); have HLO := Aside0.mk hb'.size; clear hR hS hb'; obtain ⟨g0, g1, g2⟩ := k3 KG2.out; obtain ⟨z0, z1, z2, z3, z4, z5, z6, z7, fz0, fz1, fz2, fz3, fz4, fz5, fz6, fz7⟩ := k8 KZ2.out) | (go_at_call 59; have B3 := Aside0.mk (show Below w2.heap.size w2 ((w2.alloc (.cells #[.slice A3 r.length c3, .int .u32 p, .slice A4 ram.length c4] 28)).alloc (.cells (stepC (.slice A3 r.length c3) p (.slice A4 ram.length c4) 0 (-1) (-1) false false) 52)) from below_alloc (below_alloc (Below.refl _ _) _) _); refine (load_any K w2.heap.size 28 #[.slice A3 r.length c3, .int .u32 p, .slice A4 ram.length c4] r p ram A c l p 4 4 x 0 p w2 _ ⟨at2_0, Nat.le_refl _, A3, c3, A4, c4, rfl, rfl, rfl, (Kd.R_reads' HG2.out.r0).2.2, (Kd.S_reads' HG2.out.r2).2.2⟩ B3.out (Kd.C_foot_came k70_heap (Kd.C_below H.out.cw (F2.out.below (fun _ h => h.elim) (Nat.le_refl _))) B3.out (Nat.le_refl _)) H.out.lw HL.out).mono ?_; rintro e w3 ⟨rfl, hI, hb, hk⟩; have FF3 := Aside0.mk (keep_fr hk B3.out hb); have B93 := Aside0.mk hb; have K7 := Aside0.mk hI.1; have K8 := Aside0.mk (FF3.out.blk (at2_1 (w := w2) (o0 := .cells #[.slice A3 r.length c3, .int .u32 p, .slice A4 ram.length c4] 28) (o1 := .cells (stepC (.slice A3 r.length c3) p (.slice A4 ram.length c4) 0 (-1) (-1) false false) 52)) (by omega)); have KG3 := Aside0.mk (FF3.out.blk (bq KG2.out) (by omega)); have KZ3 := Aside0.mk (FF3.out.blk (bq KZ2.out) (by omega)); have HG3 := Aside0.mk ((gq HG2.out).fr FF3.out (fun k h1 h2 h3 => by omega)); have F3 := Aside0.mk ((F2.out.step B3.out).mono (T := fun k => W.heap.size ≤ k) (fun _ h => h.elim) |>.trans FF3.out (fun k hk => .inl (by omega))); have l83 : w2.heap.size + 1 < w3.heap.size := blk_lt K8.out; have lz3 : W.heap.size + 1 < w3.heap.size := blk_lt KZ3.out; have lg3 : W.heap.size < w3.heap.size := blk_lt KG3.out; clear hI hb hk; (try clear g0 g1 g2); (try clear z0 fz0 z1 fz1 z2 fz2 z3 fz3 z4 fz4 z5 fz5 z6 fz6 z7 fz7); obtain ⟨g0, g1, g2⟩ := k3 KG3.out; obtain ⟨z0, z1, z2, z3, z4, z5, z6, z7, fz0, fz1, fz2, fz3, fz4, fz5, fz6, fz7⟩ := k8 KZ3.out; obtain ⟨n0, n1, n2, n3, n4, n5, n6, n7, fn0, fn1, fn2, fn3, fn4, fn5, fn6, fn7⟩ := k8 K8.out) | (go_at_call 90; refine (dec_at x0 x1 HA.out HB.out).mono ?_; rintro e w4 ⟨rfl, hb⟩; have K84 := Aside0.mk (blk_below K8.out hb); have KG4 := Aside0.mk (blk_below KG3.out hb); have KZ4 := Aside0.mk (blk_below KZ3.out hb); have HG4 := Aside0.mk (HG3.out.below hb); have F4 := Aside0.mk (F3.out.step hb); have B94 := Aside0.mk (below_step B93.out hb); have l84 : w2.heap.size + 1 < w4.heap.size := blk_lt K84.out; have n84 : w2.heap.size + 1 ≠ w4.heap.size := Nat.ne_of_lt l84; have lz4 : W.heap.size + 1 < w4.heap.size := blk_lt KZ4.out; have lg4 : W.heap.size < w4.heap.size := blk_lt KG4.out; clear hb; (try clear g0 g1 g2); (try clear z0 fz0 z1 fz1 z2 fz2 z3 fz3 z4 fz4 z5 fz5 z6 fz6 z7 fz7); (try clear n0 fn0 n1 fn1 n2 fn2 n3 fn3 n4 fn4 n5 fn5 n6 fn6 n7 fn7); obtain ⟨g0, g1, g2⟩ := k3 KG4.out; obtain ⟨z0, z1, z2, z3, z4, z5, z6, z7, fz0, fz1, fz2, fz3, fz4, fz5, fz6, fz7⟩ := k8 KZ4.out; obtain ⟨n0, n1, n2, n3, n4, n5, n6, n7, fn0, fn1, fn2, fn3, fn4, fn5, fn6, fn7⟩ := k8 K84.out) | (go_at_call 91; have hzD : (w4.setCell ⟨w2.heap.size + 1, 4, none⟩ (.int .i64 op)).heap.size = w4.heap.size := (by simp); have FE := Aside0.mk (show Fr (fun k => k = w2.heap.size + 1) w4 (((w4.setCell ⟨w2.heap.size + 1, 4, none⟩ (.int .i64 op)).alloc (.cells #[.int .i64 op, .int .i64 a, .int .i64 b, .int .i64 cc, .int .i64 im] 89)).alloc (.cells (stepC (.slice A3 r.length c3) p (.slice A4 ram.length c4) 0 op (-1) false false) 52)) from (((Fr.refl (fun k => k = w2.heap.size + 1) w4).set (p := ⟨w2.heap.size + 1, 4, none⟩) (.inl rfl) _).alloc _).alloc _); have KI := Aside0.mk (show (((w4.setCell ⟨w2.heap.size + 1, 4, none⟩ (.int .i64 op)).alloc (.cells #[.int .i64 op, .int .i64 a, .int .i64 b, .int .i64 cc, .int .i64 im] 89)).alloc (.cells (stepC (.slice A3 r.length c3) p (.slice A4 ram.length c4) 0 op (-1) false false) 52)).heap[w4.heap.size]? = some (.cells #[.int .i64 op, .int .i64 a, .int .i64 b, .int .i64 cc, .int .i64 im] 89 (0, 0)) by (first | exact hzD ▸ at2_0 | (rw [← hzD]; exact at2_0))); have KS := Aside0.mk (show (((w4.setCell ⟨w2.heap.size + 1, 4, none⟩ (.int .i64 op)).alloc (.cells #[.int .i64 op, .int .i64 a, .int .i64 b, .int .i64 cc, .int .i64 im] 89)).alloc (.cells (stepC (.slice A3 r.length c3) p (.slice A4 ram.length c4) 0 op (-1) false false) 52)).heap[w4.heap.size + 1]? = some (.cells (stepC (.slice A3 r.length c3) p (.slice A4 ram.length c4) 0 op (-1) false false) 52 (0, 0)) by (first | exact hzD ▸ at2_1 | (rw [← hzD]; exact at2_1))); have HGE := Aside0.mk (HG4.out.fr FE.out (fun k h1 h2 h3 => by omega)); have HDI := Aside0.mk (DoIn.mk (op := op) HGE.out KS.out (fun h => by omega) H16.out H.out.cw H.out.lw HG2.out (F2.out.below (fun _ h => h.elim) (Nat.le_refl _)) (B94.out.trans (FE.out.below (fun i hi => by omega) B94.out.size)) (by omega)); refine (HD.out W w2 _ _ _ _ _ _ A c HDI.out).mono ?_; rintro e w5 hh; obtain ⟨he, hF⟩ := hh; subst he; have KI5 := Aside0.mk (hF.blk KI.out (fun h => by have := HG4.out.le; omega)); have KG5 := Aside0.mk (hF.blk (FE.out.blk KG4.out (by omega)) (fun h => h.elim (fun h => by have h1 := h.1; first | omega | (simp at h1; omega) | (simp at h1; done)) (fun h => by omega))); have KZ5 := Aside0.mk (hF.blk (FE.out.blk KZ4.out (by omega)) (fun h => h.elim (fun h => by have h1 := h.1; first | omega | (simp at h1; omega) | (simp at h1; done)) (fun h => by omega))); have F5 := Aside0.mk ((F4.out.trans FE.out (fun k hk => .inl (by omega))).trans hF (fun k hk => .inl (hk.elim (fun hk => by have h1 := hk.1; first | omega | (simp at h1; omega) | (simp at h1; done)) (fun hk => by omega)))); clear hF hzD; (try clear g0 g1 g2); (try clear z0 fz0 z1 fz1 z2 fz2 z3 fz3 z4 fz4 z5 fz5 z6 fz6 z7 fz7); (try clear n0 fn0 n1 fn1 n2 fn2 n3 fn3 n4 fn4 n5 fn5 n6 fn6 n7 fn7); obtain ⟨g0, g1, g2⟩ := k3 KG5.out; have i0 := kc KI5.out 0 rfl))
  go_region_held3 (fun w' => w'.cell? ⟨W.heap.size, 0, none⟩ = some (.slice A0 r.length c0) ∧ w'.cell? ⟨W.heap.size, 1, none⟩ = some (.int .u32 p) ∧ w'.cell? ⟨W.heap.size, 2, none⟩ = some (.slice A2 ram.length c2) ∧ w'.cell? ⟨w4.heap.size, 0, none⟩ = some (.int .i64 op)) (go_keep) ((first | (go_at_call 44; refine (impl_cloneGuest.calls (ram.length + 1) A0 c0 r p A2 c2 ram r p ram _ (cq (Kd.C_below H.out.r0 (F5.out.below (fun _ h => h) (Nat.le_refl _)))) H.out.l0 (cq (Kd.C_below H.out.r2 (F5.out.below (fun _ h => h) (Nat.le_refl _)))) H.out.l2 HC.out).mono ?_; rintro e w6 ⟨v5, v6, rfl, hR, hS, hb'⟩; obtain ⟨A5, c5, rfl⟩ := Kd.R_slice hR; obtain ⟨A6, c6, rfl⟩ := Kd.S_slice hS; have G6 := Aside0.mk (Gst.new (w0 := W) hR hS (lq (F5.out.below (fun _ h => h) (Nat.le_refl _)))); have KI6 := Aside0.mk (blk_below (bq KI5.out) hb'); have KG6 := Aside0.mk (blk_below (bq KG5.out) hb'); have KZ6 := Aside0.mk (blk_below (bq KZ5.out) hb'); have F6 := Aside0.mk ((fq F5.out).step hb'); have L5 := Aside0.mk (show W.heap.size + 1 < w5.heap.size from blk_lt KZ5.out); clear hR hS hb'; (try clear g0 g1 g2 i0); obtain ⟨g0, g1, g2⟩ := k3 KG6.out; obtain ⟨z0, z1, z2, z3, z4, z5, z6, z7, fz0, fz1, fz2, fz3, fz4, fz5, fz6, fz7⟩ := k8 KZ6.out; have i0 := kc KI6.out 0 rfl; have ni : W.heap.size + 1 ≠ w4.heap.size := Nat.ne_of_lt lz4; have ni' := ni.symm)))
  go_wp2
  refine bodyPost_ret (results_cell_row rfl _ _ (W.heap.size + 1) 52 (stepC (.slice A5 r.length c5) p (.slice A6 ram.length c6) t op (-1) false false) (0, 0) _ rfl (blk_put (blk_put (blk_put (blk_put (blk_put (blk_put (blk_put (blk_put KZ6.out 0 _ rfl) 1 _ rfl) 2 _ rfl) 3 _ rfl) 4 _ rfl) 5 _ rfl) 6 _ rfl) 7 _ rfl) Try.underlying52 rfl (by kernel_rfl)) rfl ?_
  exact stp_fin G6.out (by have := L5.out; (try simp); omega) F6.out H.out.be.size
end
end Go.Proofs.Ytbcpkigeginmnaa.GF
end
section
namespace Go.Proofs.Ytbcpkigeginmnaa.GF
open Go.RowKit Go.Proofs.YtbcpkigeginmnaaW.PrintWords Go.Proofs.YtbcpkigeginmnaaW.PrintLast Go.Proofs.YtbcpkigeginmnaaW.PrintMore Go.Proofs.Ytbcpkigeginmnaa.Q
attribute [local go_sem] max2_int min2_int max_two min_two max_three min_three max_four min_four   -- for this text's walks alone

def spec_l01Bit.f (a0 : Int) (a1 : Int) : Option (Int) := if 0 ≤ (IntKind.u64.wrap (a1)) then (some (Go.bits .and .i64 (wrap64 (shr .u32 a0 (IntKind.u64.wrap (a1)))) 1)) else (none)
set_option maxHeartbeats 8000000 in
set_option maxRecDepth 100000 in
theorem spec_l01Bit.calls (a0 : Int) (a1 : Int) (r : Int) (w : World) (h : spec_l01Bit.f a0 a1 = some r) :
  Calls Try.prog 105 #[.int .u32 a0, .int .i64 a1] w fun e w' => e = .returned (.int .i64 r) ∧ Drawn0 w w' := by
 have H : (if 0 ≤ (IntKind.u64.wrap (a1)) then (some (Go.bits .and .i64 (wrap64 (shr .u32 a0 (IntKind.u64.wrap (a1)))) 1)) else (none)) = some r := h
 clear h
 obtain ⟨ji3, hji3⟩ : ∃ j_ : Int, (IntKind.u64.wrap (a1)) = j_ := ⟨_, rfl⟩
 replace H : (if 0 ≤ (ji3) then (some (Go.bits .and .i64 (wrap64 (shr .u32 a0 (ji3))) 1)) else (none)) = some r := by first | (rw [hji3] at H; exact H) | (simp only [hji3] at H ⊢; exact H)
 by_cases c4 : 0 ≤ (ji3)
 ·rw [if_pos c4] at H
  have c4b0 := eq_true c4
  have c4b1 : decide (0 ≤ (ji3)) = true := decide_eq_true c4
  clear c4
  obtain ⟨ji5, hji5⟩ : ∃ j_ : Int, (shr .u32 a0 (ji3)) = j_ := ⟨_, rfl⟩
  replace H : (some (Go.bits .and .i64 (wrap64 (ji5)) 1)) = some r := by first | (rw [hji5] at H; exact H) | (simp only [hji5] at H ⊢; exact H)
  have hji5_ : (a0 / 2 ^ min (ji3).toNat 32) = ji5 := hji5
  have hji5z : (ji3) ≤ 32 → (a0 / 2 ^ (ji3).toNat) = ji5 := shr_small hji5
  obtain rfl := Option.some.inj H
  go_enter Try.func105, Try.ntmps105
  go_wp2
  go_ret
  exact ⟨by first | rfl | (simp; done) | (simp only [← hji3, ← hji5] <;> (first | rfl | simp)) | (simp [*]; done), by repeat (first | exact Drawn0.refl _ | apply Drawn0.step)⟩
 ·rw [if_neg c4] at H
  exact absurd H (by simp)

def spec_SarWord.l0 : Nat → Int → Int → Int → Int → Option (Int)
 | 0, _, _, _, _ => none
 | k + 1, x0, x5, x6, x7 => if x7 ≥ 0 then (if (wrap64 (x7 + x5)) > 31 then ((spec_l01Bit.f x0 31).bind fun t608 => (spec_SarWord.l0 k x0 x5 (wrap64 ((wrap64 (2 * x6)) + t608)) (wrap64 (x7 - 1)))) else ((spec_l01Bit.f x0 (wrap64 (x7 + x5))).bind fun t609 => (spec_SarWord.l0 k x0 x5 (wrap64 ((wrap64 (2 * x6)) + t609)) (wrap64 (x7 - 1))))) else (some ((x6) % 4294967296))
def spec_SarWord.f (k : Nat) (a0 : Int) (a1 : Int) : Option (Int) := spec_SarWord.l0 k a0 (wrap64 (Int.tmod a1 32)) 0 31
set_option maxHeartbeats 8000000 in
set_option maxRecDepth 100000 in
theorem spec_SarWord.calls (k : Nat) (a0 : Int) (a1 : Int) (r : Int) (w : World) (h : spec_SarWord.f k a0 a1 = some r) :
  Calls Try.prog 96 #[.int .u32 a0, .int .u32 a1] w fun e w' => e = .returned (.int .u32 r) ∧ Drawn0 w w' := by
 have H : (spec_SarWord.l0 k a0 (wrap64 (Int.tmod a1 32)) 0 31) = some r := h
 clear h
 have H' := Aside0.mk H
 clear H
 go_enter Try.func96, Try.ntmps96
 go_wp2
 go_loopg [6, 7] k (fun kq v6 v7 w' => ∃ (x6_1 : Int) (x7_1 : Int), v6 = .int .i64 x6_1 ∧ v7 = .int .i64 x7_1 ∧ Aside0 (spec_SarWord.l0 kq a0 (wrap64 (Int.tmod a1 32)) x6_1 x7_1 = some r) ∧ Aside0 (kq ≤ k) ∧ Drawn0 w w')
 case atStart => exact ⟨(0), (31), (by first | rfl | (simp; done) | (simp [*]; done)), (by first | rfl | (simp; done) | (simp [*]; done)), H', ⟨Nat.le_refl _⟩, by repeat (first | exact Drawn0.refl _ | apply Drawn0.step)⟩
 case round =>
  clear H'
  try clear p2
  obtain ⟨x6_1, x7_1, rfl, rfl, HA, HK1, ⟨m1, rfl⟩⟩ := hrel
  cases gk with
  | zero => exact absurd HA.out (by simp [spec_SarWord.l0])
  | succ k1 =>
   have H := HA.out
   clear HA
   simp only [spec_SarWord.l0] at H
   by_cases c3 : x7_1 ≥ 0
   ·rw [if_pos c3] at H
    have c3b0 : decide (0 ≤ x7_1) = true := decide_eq_true c3
    clear c3
    by_cases c4 : (wrap64 (x7_1 + (wrap64 (Int.tmod a1 32)))) > 31
    ·rw [if_pos c4] at H
     have c4b0 : decide (31 < (wrap64 (x7_1 + (wrap64 (Int.tmod a1 32))))) = true := decide_eq_true c4
     clear c4
     replace H := Option.bind_eq_some_iff.mp H
     obtain ⟨t608, A50, H⟩ := H
     (try dsimp only at H)
     have A5 := Aside0.mk A50
     clear A50
     have H' := Aside0.mk H
     clear H
     go_wp2_with (first | ((with_reducible refine gate_callee (f := 105) rfl ?_); refine goesL_ (some 25) rfl rfl Try.func105 (by kernel_rfl) rfl #[.int .u32 a0, .int .i64 31] rfl (by (try simp only [List.map_toArray, List.map_cons, List.map_nil]); first | done | rfl | (simp only [List.length_drop, List.length_take]; rfl)) ?_; (with_reducible refine (spec_l01Bit.calls a0 31 t608 _ A5.out).mono ?_); rintro e w' ⟨rfl, ⟨nd, rfl⟩⟩; refine ⟨_, rfl, ?_⟩))
     go_roundg k1
     case measure => have := HK1.out; omega
     case rel => exact ⟨(wrap64 ((wrap64 (2 * x6_1)) + t608)), (wrap64 (x7_1 - 1)), (by first | rfl | (simp; done) | (simp [*]; done)), (by first | rfl | (simp; done) | (simp [*]; done)), H', ⟨by have := HK1.out; omega⟩, by repeat (first | exact Drawn0.refl _ | apply Drawn0.step)⟩
    ·rw [if_neg c4] at H
     have c4b0 : decide (31 < (wrap64 (x7_1 + (wrap64 (Int.tmod a1 32))))) = false := decide_eq_false c4
     clear c4
     replace H := Option.bind_eq_some_iff.mp H
     obtain ⟨t609, A60, H⟩ := H
     (try dsimp only at H)
     have A6 := Aside0.mk A60
     clear A60
     have H' := Aside0.mk H
     clear H
     go_wp2_with (first | ((with_reducible refine gate_callee (f := 105) rfl ?_); refine goesL_ (some 25) rfl rfl Try.func105 (by kernel_rfl) rfl #[.int .u32 a0, .int .i64 (wrap64 (x7_1 + (wrap64 (Int.tmod a1 32))))] rfl (by (try simp only [List.map_toArray, List.map_cons, List.map_nil]); first | done | rfl | (simp only [List.length_drop, List.length_take]; rfl)) ?_; (with_reducible refine (spec_l01Bit.calls a0 (wrap64 (x7_1 + (wrap64 (Int.tmod a1 32)))) t609 _ A6.out).mono ?_); rintro e w' ⟨rfl, ⟨nd, rfl⟩⟩; refine ⟨_, rfl, ?_⟩))
     go_roundg k1
     case measure => have := HK1.out; omega
     case rel => exact ⟨(wrap64 ((wrap64 (2 * x6_1)) + t609)), (wrap64 (x7_1 - 1)), (by first | rfl | (simp; done) | (simp [*]; done)), (by first | rfl | (simp; done) | (simp [*]; done)), H', ⟨by have := HK1.out; omega⟩, by repeat (first | exact Drawn0.refl _ | apply Drawn0.step)⟩
   ·rw [if_neg c3] at H
    have c3b0 : decide (0 ≤ x7_1) = false := decide_eq_false c3
    clear c3
    obtain rfl := Option.some.inj H
    go_wp2
    go_ret
    exact ⟨by first | rfl | (simp; done) | (simp [*]; done), by repeat (first | exact Drawn0.refl _ | apply Drawn0.step)⟩

def spec_l08One.f (a0 : Bool) : Option (Int) := if a0 = true then (some 1) else (some 0)
set_option maxHeartbeats 8000000 in
set_option maxRecDepth 100000 in
theorem spec_l08One.calls (a0 : Bool) (r : Int) (w : World) (h : spec_l08One.f a0 = some r) :
  Calls Try.prog 97 #[.bool a0] w fun e w' => e = .returned (.int .u32 r) ∧ Drawn0 w w' := by
 have H : (if a0 = true then (some 1) else (some 0)) = some r := h
 clear h
 by_cases c2 : a0 = true
 ·subst c2
  rw [if_pos rfl] at H
  obtain rfl := Option.some.inj H
  go_enter Try.func97, Try.ntmps97
  go_wp2
  go_ret
  exact ⟨by first | rfl | (simp; done) | (simp [*]; done), by repeat (first | exact Drawn0.refl _ | apply Drawn0.step)⟩
 ·replace c2 := Bool.eq_false_iff.mpr c2
  subst c2
  rw [if_neg (show ¬ (false = true) by decide)] at H
  obtain rfl := Option.some.inj H
  go_enter Try.func97, Try.ntmps97
  go_wp2
  go_ret
  exact ⟨by first | rfl | (simp; done) | (simp [*]; done), by repeat (first | exact Drawn0.refl _ | apply Drawn0.step)⟩

def spec_l01Signed.f (a0 : Int) : Option (Int) := if (wrap64 (a0)) ≥ 2147483648 then (some (wrap64 ((wrap64 (a0)) - 4294967296))) else (some (wrap64 (a0)))
set_option maxHeartbeats 8000000 in
set_option maxRecDepth 100000 in
theorem spec_l01Signed.calls (a0 : Int) (r : Int) (w : World) (h : spec_l01Signed.f a0 = some r) :
  Calls Try.prog 106 #[.int .u32 a0] w fun e w' => e = .returned (.int .i64 r) ∧ Drawn0 w w' := by
 have H : (if (wrap64 (a0)) ≥ 2147483648 then (some (wrap64 ((wrap64 (a0)) - 4294967296))) else (some (wrap64 (a0)))) = some r := h
 clear h
 by_cases c2 : (wrap64 (a0)) ≥ 2147483648
 ·rw [if_pos c2] at H
  have c2b0 : decide (2147483648 ≤ (wrap64 (a0))) = true := decide_eq_true c2
  clear c2
  obtain rfl := Option.some.inj H
  go_enter Try.func106, Try.ntmps106
  go_wp2
  go_ret
  exact ⟨by first | rfl | (simp; done) | (simp [*]; done), by repeat (first | exact Drawn0.refl _ | apply Drawn0.step)⟩
 ·rw [if_neg c2] at H
  have c2b0 : decide (2147483648 ≤ (wrap64 (a0))) = false := decide_eq_false c2
  clear c2
  obtain rfl := Option.some.inj H
  go_enter Try.func106, Try.ntmps106
  go_wp2
  go_ret
  exact ⟨by first | rfl | (simp; done) | (simp [*]; done), by repeat (first | exact Drawn0.refl _ | apply Drawn0.step)⟩

def spec_LessWord.f (a0 : Int) (a1 : Int) : Option (Bool) := (spec_l01Signed.f a0).bind fun t610 => ((spec_l01Signed.f a1).bind fun t611 => (some (decide (t610 < t611))))
set_option maxHeartbeats 8000000 in
set_option maxRecDepth 100000 in
theorem spec_LessWord.calls (a0 : Int) (a1 : Int) (r : Bool) (w : World) (h : spec_LessWord.f a0 a1 = some r) :
  Calls Try.prog 98 #[.int .u32 a0, .int .u32 a1] w fun e w' => e = .returned (.bool r) ∧ Drawn0 w w' := by
 have H : ((spec_l01Signed.f a0).bind fun t610 => ((spec_l01Signed.f a1).bind fun t611 => (some (decide (t610 < t611))))) = some r := h
 clear h
 replace H := Option.bind_eq_some_iff.mp H
 obtain ⟨t610, A30, H⟩ := H
 (try dsimp only at H)
 have A3 := Aside0.mk A30
 clear A30
 replace H := Option.bind_eq_some_iff.mp H
 obtain ⟨t611, A40, H⟩ := H
 (try dsimp only at H)
 have A4 := Aside0.mk A40
 clear A40
 obtain rfl := Option.some.inj H
 go_enter Try.func98, Try.ntmps98
 go_wp2_with (first | ((with_reducible refine gate_callee (f := 106) rfl ?_); refine goesL_ (some 6) rfl rfl Try.func106 (by kernel_rfl) rfl #[.int .u32 a0] rfl (by (try simp only [List.map_toArray, List.map_cons, List.map_nil]); first | done | rfl | (simp only [List.length_drop, List.length_take]; rfl)) ?_; (with_reducible refine (spec_l01Signed.calls a0 t610 _ A3.out).mono ?_); rintro e w' ⟨rfl, ⟨nd, rfl⟩⟩; refine ⟨_, rfl, ?_⟩) | ((with_reducible refine gate_callee (f := 106) rfl ?_); refine goesL_ (some 8) rfl rfl Try.func106 (by kernel_rfl) rfl #[.int .u32 a1] rfl (by (try simp only [List.map_toArray, List.map_cons, List.map_nil]); first | done | rfl | (simp only [List.length_drop, List.length_take]; rfl)) ?_; (with_reducible refine (spec_l01Signed.calls a1 t611 _ A4.out).mono ?_); rintro e w' ⟨rfl, ⟨nd, rfl⟩⟩; refine ⟨_, rfl, ?_⟩))
 go_ret
 exact ⟨by first | rfl | (simp; done) | (simp [*]; done), by repeat (first | exact Drawn0.refl _ | apply Drawn0.step)⟩

end Go.Proofs.Ytbcpkigeginmnaa.GF
end
