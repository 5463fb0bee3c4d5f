/- Told by a program of this session, out of the translation: each function of the group as a plain Lean function, and that Go's call comes to just its answer. Lean checks it. -/
import Derived.Test.YtbcpkigeginmnaaGFx0
import Derived.Test.YtbcpkigeginmnaaGFx6
namespace Go.Proofs.Ytbcpkigeginmnaa.GF
open Go.RowKit Go.Proofs.YtbcpkigeginmnaaW.PrintWords Go.Proofs.YtbcpkigeginmnaaW.PrintLast Go.Proofs.YtbcpkigeginmnaaW.PrintMore Go.Proofs.Ytbcpkigeginmnaa.Q
attribute [local go_sem] max2_int min2_int max_two min_two max_three min_three max_four min_four   -- for this text's walks alone
set_option linter.unusedVariables false
set_option linter.unusedSimpArgs false

/-! ### spec_GuestNew: function 22 -/
mutual
def spec_GuestNew.l0 : Nat → List (S70) → Int → List Int → Int → Option (List Int × Int × (List (List Int)))
 | 0, _, _, _, _ => none
 | k + 1, x0, x6, x458000, x458001 => if x6 < 16 then (if x458000.length < 35184372088832 then (spec_GuestNew.l0 k x0 (wrap64 (x6 + 1)) (x458000 ++ [0]) x458001) else (none)) else (spec_GuestNew.l1 k x0 0 x458000 x458001 ([] : List (List Int)))
def spec_GuestNew.l1 : Nat → List (S70) → Int → List Int → Int → List (List Int) → Option (List Int × Int × (List (List Int)))
 | 0, _, _, _, _, _ => none
 | k + 1, x0, x7, x458000, x458001, x458002 => if x7 < (x0.length : Int) then (spec_GuestNew.l2 k x0 x7 (([] : List Int)) 0 x458000 x458001 x458002) else (some (x458000, x458001, x458002))
def spec_GuestNew.l2 : Nat → List (S70) → Int → List Int → Int → List Int → Int → List (List Int) → Option (List Int × Int × (List (List Int)))
 | 0, _, _, _, _, _, _, _ => none
 | k + 1, x0, x7, x8, x9, x458000, x458001, x458002 => if 0 ≤ x7 then (if x7 < (x0.length : Int) then (if x9 < ((rd_T70 x0 x7).f1) then (if x8.length < 140737488355328 then (spec_GuestNew.l2 k x0 x7 (x8 ++ [0]) (wrap64 (x9 + 1)) x458000 x458001 x458002) else (none)) else (if x458002.length < 5864062014805 then (spec_GuestNew.l1 k x0 (wrap64 (x7 + 1)) x458000 x458001 (x458002 ++ [x8])) else (none))) else (none)) else (none)
end
def spec_GuestNew.f (k : Nat) (l0 : List (S70)) (a1 : Int) : Option (List Int × Int × (List (List Int))) := (spec_WindowsOk.f k l0).bind fun t456 => (if t456 = true then (spec_GuestNew.l0 k l0 0 ([] : List Int) ((a1) % 4294967296)) else (some (([] : List Int), 0, ([] : List (List Int)))))
theorem spec_GuestNew.mono_l : ∀ k, (∀ y0 y1 y2 y3, LeO (spec_GuestNew.l0 k y0 y1 y2 y3) (spec_GuestNew.l0 (k + 1) y0 y1 y2 y3)) ∧ (∀ y0 y1 y2 y3 y4, LeO (spec_GuestNew.l1 k y0 y1 y2 y3 y4) (spec_GuestNew.l1 (k + 1) y0 y1 y2 y3 y4)) ∧ (∀ y0 y1 y2 y3 y4 y5 y6, LeO (spec_GuestNew.l2 k y0 y1 y2 y3 y4 y5 y6) (spec_GuestNew.l2 (k + 1) y0 y1 y2 y3 y4 y5 y6))
 | 0 => ⟨fun _ _ _ _ r h => by simp [spec_GuestNew.l0] at h, fun _ _ _ _ _ r h => by simp [spec_GuestNew.l1] at h, fun _ _ _ _ _ _ _ r h => by simp [spec_GuestNew.l2] at h⟩
 | k + 1 => by
  obtain ⟨ih0, ih1, ih2⟩ := spec_GuestNew.mono_l k
  refine ⟨?_, ?_, ?_⟩
  ·intro y0 y1 y2 y3
   unfold spec_GuestNew.l0
   repeat' first
   | (with_reducible exact ih0 _ _ _ _)
   | (with_reducible exact ih1 _ _ _ _ _)
   | (with_reducible exact ih2 _ _ _ _ _ _ _)
   | (with_reducible exact spec_WindowsOk.mono _ _)
   | (with_reducible exact LeO.refl _)
   | (with_reducible exact LeO.none _)
   | (with_reducible refine LeO.ite ?_ ?_)
   | (with_reducible refine LeO.bind ?_ (fun _ => ?_))
   | exact ih0 _ _ _ _
   | exact ih1 _ _ _ _ _
   | exact ih2 _ _ _ _ _ _ _
   | exact spec_WindowsOk.mono _ _
   | exact LeO.none _
   | refine LeO.ite ?_ ?_
   | refine LeO.bind ?_ (fun _ => ?_)
  ·intro y0 y1 y2 y3 y4
   unfold spec_GuestNew.l1
   repeat' first
   | (with_reducible exact ih0 _ _ _ _)
   | (with_reducible exact ih1 _ _ _ _ _)
   | (with_reducible exact ih2 _ _ _ _ _ _ _)
   | (with_reducible exact spec_WindowsOk.mono _ _)
   | (with_reducible exact LeO.refl _)
   | (with_reducible exact LeO.none _)
   | (with_reducible refine LeO.ite ?_ ?_)
   | (with_reducible refine LeO.bind ?_ (fun _ => ?_))
   | exact ih0 _ _ _ _
   | exact ih1 _ _ _ _ _
   | exact ih2 _ _ _ _ _ _ _
   | exact spec_WindowsOk.mono _ _
   | exact LeO.none _
   | refine LeO.ite ?_ ?_
   | refine LeO.bind ?_ (fun _ => ?_)
  ·intro y0 y1 y2 y3 y4 y5 y6
   unfold spec_GuestNew.l2
   repeat' first
   | (with_reducible exact ih0 _ _ _ _)
   | (with_reducible exact ih1 _ _ _ _ _)
   | (with_reducible exact ih2 _ _ _ _ _ _ _)
   | (with_reducible exact spec_WindowsOk.mono _ _)
   | (with_reducible exact LeO.refl _)
   | (with_reducible exact LeO.none _)
   | (with_reducible refine LeO.ite ?_ ?_)
   | (with_reducible refine LeO.bind ?_ (fun _ => ?_))
   | exact ih0 _ _ _ _
   | exact ih1 _ _ _ _ _
   | exact ih2 _ _ _ _ _ _ _
   | exact spec_WindowsOk.mono _ _
   | exact LeO.none _
   | refine LeO.ite ?_ ?_
   | refine LeO.bind ?_ (fun _ => ?_)
theorem spec_GuestNew.mono : ∀ a0 a1 k, LeO (spec_GuestNew.f k a0 a1) (spec_GuestNew.f (k + 1) a0 a1) := by
 intro a0 a1 k
 obtain ⟨ih0, ih1, ih2⟩ := spec_GuestNew.mono_l k
 unfold spec_GuestNew.f
 repeat' first
   | (with_reducible exact ih0 _ _ _ _)
   | (with_reducible exact ih1 _ _ _ _ _)
   | (with_reducible exact ih2 _ _ _ _ _ _ _)
   | (with_reducible exact spec_WindowsOk.mono _ _)
   | (with_reducible exact LeO.refl _)
   | (with_reducible exact LeO.none _)
   | (with_reducible refine LeO.ite ?_ ?_)
   | (with_reducible refine LeO.bind ?_ (fun _ => ?_))
   | exact ih0 _ _ _ _
   | exact ih1 _ _ _ _ _
   | exact ih2 _ _ _ _ _ _ _
   | exact spec_WindowsOk.mono _ _
   | exact LeO.none _
   | refine LeO.ite ?_ ?_
   | refine LeO.bind ?_ (fun _ => ?_)
set_option maxHeartbeats 8000000 in
set_option maxRecDepth 100000 in
theorem spec_GuestNew.calls (k : Nat) (A0 : Option Addr) (c0 : Nat) (l0 : List (S70)) (a1 : Int) (r1 : List Int) (r2 : Int) (r3 : List (List Int)) (w : World) (hr0 : Kd.C k70 w A0 l0.length l0) (hc0 : l0.length ≤ c0) (h : spec_GuestNew.f k l0 a1 = some (r1, r2, r3)) :
  Calls Try.prog 22 #[.slice A0 l0.length c0, .int .i64 a1] w fun e w' => ∃ v0_ v2_ : Value, e = .returned (.agg #[v0_, .int .u32 r2, v2_]) ∧ Kd.R (Kd.int .u32) 23 w' w.heap.size (fun _ => True) v0_ r1 ∧ Kd.S (Kd.slice 5 (Kd.int .u8)) 68 w' w.heap.size (fun _ => True) v2_ r3 ∧ Below w.heap.size w w' := by
 have hu28 := Try.underlying28
 have HR0 := Aside0.mk hr0
 have HC0 := Aside0.mk hc0
 clear hr0 hc0
 have HB := Aside0.mk (Below.refl w.heap.size w)
 have H : ((spec_WindowsOk.f k l0).bind fun t456 => (if t456 = true then (spec_GuestNew.l0 k l0 0 ([] : List Int) ((a1) % 4294967296)) else (some (([] : List Int), 0, ([] : List (List Int)))))) = some (r1, r2, r3) := h
 clear h
 replace H := Option.bind_eq_some_iff.mp H
 obtain ⟨t456, A30, H⟩ := H
 (try dsimp only at H)
 have A3 := Aside0.mk A30
 clear A30
 by_cases c4 : t456 = true
 ·subst c4
  rw [if_pos rfl] at H
  have H' := Aside0.mk H
  clear H
  go_enter Try.func22, Try.ntmps22
  go_wp2_with (first | ((with_reducible refine gate_dst (N := 4) rfl ?_); refine box_event ?hg (N := 4) ?hd (cs := #[.slice none 0 0, .int .u32 0, .slice none 0 0]) (t := 28) ?hr ?_; (case hd => rfl); (case hg => rfl); (case hr => first | (go_simp; done) | (go_simp; rfl)); intro gb455 hg w5 hbox hb; have n0_ := Aside0.mk (below_step (lq HB.out) hb); have n1_ := Aside0.mk (hbox); have n2_ := Aside0.mk ((ge_new hg (lq HB.out) : w.heap.size ≤ gb455)); have n3_ := Aside0.mk ((ge_new hg (lq HB.out) : w.heap.size ≤ gb455)); clear HB; have HB := n0_; have BK455 := n1_; have GW455 := n2_; have GE455 := n3_; clear n0_ n1_ n2_ n3_; clear hb hbox hg) | ((with_reducible refine gate_callee (f := 52) rfl ?_); refine goesL_ (some 11) rfl rfl Try.func52 (by kernel_rfl) rfl #[.slice A0 l0.length c0] rfl (by (try simp only [List.map_toArray, List.map_cons, List.map_nil]); first | done | rfl | (simp only [List.length_drop, List.length_take]; rfl)) ?_; (with_reducible refine (spec_WindowsOk.calls k _ _ l0 true _ ?side1 ?side2 A3.out).mono ?_); (case side1 => repeat (first | exact (Kd.C_below HR0.out HB.out) | (with_reducible refine Kd.C_alloc ?_ _) | (with_reducible refine Kd.C_drewN ?_ _) | (with_reducible refine Kd.C_drew ?_))); (case side2 => exact HC0.out); rintro e w6 ⟨rfl, hb⟩; refine ⟨_, rfl, ?_⟩; have n0_ := Aside0.mk (blk_below (bq BK455.out) hb); have n1_ := Aside0.mk (below_step (lq HB.out) hb); clear BK455; clear HB; have BK455 := n0_; have HB := n1_; clear n0_ n1_; (try clear hb); (try clear hb2); (try clear hk); (try clear hi)) | ((with_reducible refine gate_dst (N := 5) rfl ?_); refine box_event ?hg (N := 5) ?hd (cs := #[.slice none 0 0, .int .u32 0, .slice none 0 0]) (t := 28) ?hr ?_; (case hd => rfl); (case hg => rfl); (case hr => first | (go_simp; done) | (go_simp; rfl)); intro gb457 hg w7 hbox hb; have n0_ := Aside0.mk (blk_below (bq BK455.out) hb); have n1_ := Aside0.mk (below_step (lq HB.out) hb); have n2_ := Aside0.mk (hbox); have n3_ := Aside0.mk ((ge_new hg (lq HB.out) : w.heap.size ≤ gb457)); have n4_ := Aside0.mk ((ge_new hg (lq HB.out) : w.heap.size ≤ gb457)); have n5_ := Aside0.mk ((ne_new hg (bq BK455.out) : gb455 ≠ gb457)); have n6_ := Aside0.mk ((new_ne hg (bq BK455.out) : gb457 ≠ gb455)); clear BK455; clear HB; have BK455 := n0_; have HB := n1_; have BK457 := n2_; have GW457 := n3_; have GE457 := n4_; have NB455_457 := n5_; have NB457_455 := n6_; clear n0_ n1_ n2_ n3_ n4_ n5_ n6_; clear hb hbox hg; have hnb8 := NB457_455.out; have hnc8 := NB455_457.out; have hcz9_0 : w7.cell? ⟨gb457, 0, none⟩ = some (.slice none 0 0) := (blk_cell BK457.out 0).trans rfl; have hcz9_1 : w7.cell? ⟨gb457, 1, none⟩ = some (.int .u32 0) := (blk_cell BK457.out 1).trans rfl; have hcz9_2 : w7.cell? ⟨gb457, 2, none⟩ = some (.slice none 0 0) := (blk_cell BK457.out 2).trans rfl; have hfz9_0 := blk_frozen BK457.out 0; have hfz9_1 := blk_frozen BK457.out 1; have hfz9_2 := blk_frozen BK457.out 2))
  go_loopg [6] k (fun kq v6 w' => ∃ (x6_1 : Int) (x458000_1 : List Int) (u458000 : Value), v6 = .int .i64 x6_1 ∧ Aside0 (spec_GuestNew.l0 kq l0 x6_1 x458000_1 ((a1) % 4294967296) = some (r1, r2, r3)) ∧ Aside0 (kq ≤ k) ∧ Aside0 (Kd.R (Kd.int .u32) 23 w' w.heap.size (fun _ => True) u458000 x458000_1) ∧ Aside0 (w'.heap[gb455]? = some (.cells #[(.slice none 0 0), .int .u32 0, (.slice none 0 0)] 28 (0, 0))) ∧ Aside0 (w'.heap[gb457]? = some (.cells #[u458000, .int .u32 ((a1) % 4294967296), (.slice none 0 0)] 28 (0, 0))) ∧ Aside0 (Below w.heap.size w w'))
  case atStart => exact ⟨(0), (([] : List Int)), (.slice none 0 0), (by first | rfl | (simp; done) | (simp [*]; done)), H', ⟨Nat.le_refl _⟩, ⟨by first | exact Kd.R_nil _ _ _ _ _ | exact Kd.N_nil _ _ _ _ _ | exact Kd.V_nil _ _ _ _ _ | exact Kd.Q_nil _ _ _ _ _ | exact Kd.S_nil _ _ _ _ _⟩, ⟨by (with_reducible repeat (first | refine blk_drewN ?_ _ | refine blk_drew ?_ | refine blk_alloc ?_ _)); refine blk_far ?_ NB455_457.out _; (with_reducible repeat (first | refine blk_drewN ?_ _ | refine blk_drew ?_ | refine blk_alloc ?_ _)); refine blk_far ?_ NB455_457.out _; (with_reducible repeat (first | refine blk_drewN ?_ _ | refine blk_drew ?_ | refine blk_alloc ?_ _)); refine blk_far ?_ NB455_457.out _; (with_reducible repeat (first | refine blk_drewN ?_ _ | refine blk_drew ?_ | refine blk_alloc ?_ _)); exact BK455.out⟩, ⟨by (with_reducible repeat (first | refine blk_drewN ?_ _ | refine blk_drew ?_ | refine blk_alloc ?_ _)); refine blk_put (cs := #[.slice none 0 0, .int .u32 ((a1) % 4294967296), .slice none 0 0]) ?_ 2 _ rfl; (with_reducible repeat (first | refine blk_drewN ?_ _ | refine blk_drew ?_ | refine blk_alloc ?_ _)); refine blk_put (cs := #[.slice none 0 0, .int .u32 0, .slice none 0 0]) ?_ 1 _ rfl; (with_reducible repeat (first | refine blk_drewN ?_ _ | refine blk_drew ?_ | refine blk_alloc ?_ _)); refine blk_put (cs := #[.slice none 0 0, .int .u32 0, .slice none 0 0]) ?_ 0 _ rfl; (with_reducible repeat (first | refine blk_drewN ?_ _ | refine blk_drew ?_ | refine blk_alloc ?_ _)); exact BK457.out⟩, ⟨by repeat (first | (with_reducible first | exact HB.out | apply below_alloc | apply pw_below_drewN | apply below_drew1 | refine below_set ?_ GE457.out) | exact HB.out)⟩⟩
  case round =>
   clear H'
   try clear c2
   try clear p2
   try clear c4
   try clear c5
   try clear c8
   try clear hcz9_0
   try clear hcz9_1
   try clear hcz9_2
   try clear hfz9_0
   try clear hfz9_1
   try clear hfz9_2
   obtain ⟨x6_1, x458000_1, u458000, rfl, HA, HK1, HO_458000, BK455, BK457, HB⟩ := hrel
   cases gk with
   | zero => exact absurd HA.out (by simp [spec_GuestNew.l0])
   | succ k1 =>
    have H := HA.out
    clear HA
    simp only [spec_GuestNew.l0] at H
    by_cases c10 : x6_1 < 16
    ·rw [if_pos c10] at H
     have c10b0 : decide (x6_1 < 16) = true := decide_eq_true c10
     clear c10
     by_cases c11 : x458000_1.length < 35184372088832
     ·rw [if_pos c11] at H
      have LMc11 := Aside0.mk c11
      clear c11
      obtain ⟨y458, hy458⟩ : ∃ y_ : List Int, y_ = (x458000_1 ++ [0]) := ⟨_, rfl⟩
      replace H : (spec_GuestNew.l0 k1 l0 (wrap64 (x6_1 + 1)) y458 ((a1) % 4294967296)) = some (r1, r2, r3) := by first | (rw [hy458]; with_reducible exact H) | (have H2_ := (Option.bind_some _ _).symm.trans H; rw [hy458]; with_reducible exact H2_) | (have H2_ := (Option.bind_some _ _).symm.trans H; with_reducible exact H2_) | with_reducible exact H | (rw [hy458]; exact H) | exact H
      have Ny458 := Aside0.mk hy458
      clear hy458
      have H' := Aside0.mk H
      clear H
      have hnb12 := NB457_455.out
      have hnc12 := NB455_457.out
      have hcz13_0 : wr.cell? ⟨gb457, 0, none⟩ = some (u458000) := (blk_cell BK457.out 0).trans rfl
      have hcz13_1 : wr.cell? ⟨gb457, 1, none⟩ = some (.int .u32 ((a1) % 4294967296)) := (blk_cell BK457.out 1).trans rfl
      have hcz13_2 : wr.cell? ⟨gb457, 2, none⟩ = some (.slice none 0 0) := (blk_cell BK457.out 2).trans rfl
      have hfz13_0 := blk_frozen BK457.out 0
      have hfz13_1 := blk_frozen BK457.out 1
      have hfz13_2 := blk_frozen BK457.out 2
      go_wp2_with (first | ((with_reducible refine gate_builtin (b := .append) (xs := #[.tmp 22, .tmp 23]) rfl ?_); at_builtin; refine Kd.R_append (Kd.int .u32) (w0 := w) w.heap.size rfl (.tmp 22) (.tmp 23) 22 23 (.int .u32 0) 4 rfl Try.underlying22 info23 rfl (by decide) (by omega) u458000 x458000_1 0 [.int .u32 0] (fun _ => True) (fun _ => False) rfl rfl ?aP (fun _ hk => hk.elim) ?aF ?aO ?aB ?aS ?aL ?_; (case aP => exact rfl); (case aB => exact (lq HB.out)); (case aF => exact (fun _ _ => trivial)); (case aO => exact (rq HO_458000.out)); (case aS => exact (below_size (lq HB.out))); (case aL => have := LMc11.out; omega); intro v459 w14 ho hb hg hat; rw [← Ny458.out] at ho; have n0_ := Aside0.mk (blk_grown (g := gb455) (o := .cells #[.slice none 0 0, .int .u32 0, .slice none 0 0] 28 (0, 0)) (bq BK455.out) hg (Kd.R_ne HO_458000.out BK455.out (by decide))); have n1_ := Aside0.mk (blk_grown (g := gb457) (o := .cells #[u458000, .int .u32 ((a1) % 4294967296), .slice none 0 0] 28 (0, 0)) (bq BK457.out) hg (Kd.R_ne HO_458000.out BK457.out (by decide))); have n2_ := Aside0.mk (hb); have n3_ := Aside0.mk (ho); clear BK455; clear BK457; clear HB; clear HO_458000; have BK455 := n0_; have BK457 := n1_; have HB := n2_; have HO460 := n3_; clear n0_ n1_ n2_ n3_; clear ho hb hg hat; obtain ⟨Ao15, co15, eo15⟩ := Kd.R_slice HO460.out; subst eo15; have hcz16_0 : w14.cell? ⟨gb457, 0, none⟩ = some (u458000) := (blk_cell BK457.out 0).trans rfl; have hcz16_1 : w14.cell? ⟨gb457, 1, none⟩ = some (.int .u32 ((a1) % 4294967296)) := (blk_cell BK457.out 1).trans rfl; have hcz16_2 : w14.cell? ⟨gb457, 2, none⟩ = some (.slice none 0 0) := (blk_cell BK457.out 2).trans rfl; have hfz16_0 := blk_frozen BK457.out 0; have hfz16_1 := blk_frozen BK457.out 1; have hfz16_2 := blk_frozen BK457.out 2))
      go_roundg k1
      case measure => have := HK1.out; omega
      case rel => exact ⟨(wrap64 (x6_1 + 1)), (y458), (.slice Ao15 y458.length co15), (by first | rfl | (simp; done) | (simp [*]; done)), H', ⟨by have := HK1.out; omega⟩, ⟨by (with_reducible repeat (first | apply Kd.R_alloc | apply Kd.R_drewN | apply Kd.R_drew)); exact Kd.R_mono (Kd.R_far (p := ⟨gb457, 0, none⟩) (Kd.R_types HO460.out BK457.out (by decide)) (fun _ hk => hk.2) (.slice Ao15 y458.length co15)) (fun _ hk => trivial)⟩, ⟨by (with_reducible repeat (first | refine blk_drewN ?_ _ | refine blk_drew ?_ | refine blk_alloc ?_ _)); refine blk_far ?_ NB455_457.out _; (with_reducible repeat (first | refine blk_drewN ?_ _ | refine blk_drew ?_ | refine blk_alloc ?_ _)); exact BK455.out⟩, ⟨by (with_reducible repeat (first | refine blk_drewN ?_ _ | refine blk_drew ?_ | refine blk_alloc ?_ _)); refine blk_put (cs := #[u458000, .int .u32 ((a1) % 4294967296), .slice none 0 0]) ?_ 0 _ rfl; (with_reducible repeat (first | refine blk_drewN ?_ _ | refine blk_drew ?_ | refine blk_alloc ?_ _)); exact BK457.out⟩, ⟨by repeat (first | (with_reducible first | exact HB.out | apply below_alloc | apply pw_below_drewN | apply below_drew1 | refine below_set ?_ GE457.out) | exact HB.out)⟩⟩
     ·rw [if_neg c11] at H
      exact absurd H (by simp)
    ·rw [if_neg c10] at H
     have c10b0 : decide (x6_1 < 16) = false := decide_eq_false c10
     clear c10
     have H' := Aside0.mk H
     clear H
     go_wp2
     go_loopg [7] k1 (fun kq v7 w' => ∃ (x7_2 : Int) (x458002_2 : List (List Int)) (u458002 : Value), v7 = .int .i64 x7_2 ∧ Aside0 (spec_GuestNew.l1 kq l0 x7_2 x458000_1 ((a1) % 4294967296) x458002_2 = some (r1, r2, r3)) ∧ Aside0 (kq ≤ k1) ∧ Aside0 (Kd.R (Kd.int .u32) 23 w' w.heap.size (fun _ => True) u458000 x458000_1) ∧ Aside0 (Kd.S (Kd.slice 5 (Kd.int .u8)) 68 w' w.heap.size (fun _ => True) u458002 x458002_2) ∧ Aside0 (w'.heap[gb455]? = some (.cells #[(.slice none 0 0), .int .u32 0, (.slice none 0 0)] 28 (0, 0))) ∧ Aside0 (w'.heap[gb457]? = some (.cells #[u458000, .int .u32 ((a1) % 4294967296), u458002] 28 (0, 0))) ∧ Aside0 (Below w.heap.size w w'))
     case atStart => exact ⟨(0), (([] : List (List Int))), (.slice none 0 0), (by first | rfl | (simp; done) | (simp [*]; done)), H', ⟨Nat.le_refl _⟩, ⟨by (with_reducible repeat (first | apply Kd.R_alloc | apply Kd.R_drewN | apply Kd.R_drew)); exact HO_458000.out⟩, ⟨by first | exact Kd.S_nil _ _ _ _ _ | exact Kd.N_nil _ _ _ _ _ | exact Kd.V_nil _ _ _ _ _ | exact Kd.Q_nil _ _ _ _ _ | exact Kd.R_nil _ _ _ _ _⟩, ⟨by (with_reducible repeat (first | refine blk_drewN ?_ _ | refine blk_drew ?_ | refine blk_alloc ?_ _)); exact BK455.out⟩, ⟨by (with_reducible repeat (first | refine blk_drewN ?_ _ | refine blk_drew ?_ | refine blk_alloc ?_ _)); exact BK457.out⟩, ⟨by exact lq HB.out⟩⟩
     case round =>
      clear H'
      try clear c1
      try clear c2
      try clear p2
      try clear c4
      try clear c5
      try clear p6
      try clear c8
      try clear c10
      try clear c10b0
      try clear c11
      try clear c12
      try clear hcz13_0
      try clear hcz13_1
      try clear hcz13_2
      try clear hcz16_0
      try clear hcz16_1
      try clear hcz16_2
      try clear hcz9_0
      try clear hcz9_1
      try clear hcz9_2
      try clear hfz13_0
      try clear hfz13_1
      try clear hfz13_2
      try clear hfz16_0
      try clear hfz16_1
      try clear hfz16_2
      try clear hfz9_0
      try clear hfz9_1
      try clear hfz9_2
      try clear p2
      obtain ⟨x7_2, x458002_2, u458002, rfl, HA, HK2, HO_458000, HO_458002, BK455, BK457, HB⟩ := hrel
      cases gk with
      | zero => exact absurd HA.out (by simp [spec_GuestNew.l1])
      | succ k2 =>
       have H := HA.out
       clear HA
       simp only [spec_GuestNew.l1] at H
       by_cases c17 : x7_2 < (l0.length : Int)
       ·rw [if_pos c17] at H
        have c17b0 : decide (x7_2 < (l0.length : Int)) = true := decide_eq_true c17
        clear c17
        obtain ⟨y461, hy461⟩ : ∃ y_ : List Int, y_ = (([] : List Int)) := ⟨_, rfl⟩
        replace H : (spec_GuestNew.l2 k2 l0 x7_2 y461 0 x458000_1 ((a1) % 4294967296) x458002_2) = some (r1, r2, r3) := by first | (rw [hy461]; with_reducible exact H) | (have H2_ := (Option.bind_some _ _).symm.trans H; rw [hy461]; with_reducible exact H2_) | (have H2_ := (Option.bind_some _ _).symm.trans H; with_reducible exact H2_) | with_reducible exact H | (rw [hy461]; exact H) | exact H
        have Ny461 := Aside0.mk hy461
        clear hy461
        have H' := Aside0.mk H
        clear H
        go_wp2_with (first | ((with_reducible refine gate_dst (N := 32) rfl ?_); refine Kd.R_lit (Kd.int .u8) _ 5 ?hg (N := 32) ?hd (xs := ([] : List Int)) (inner := []) (ok := fun _ => True) (okp := fun _ => True) ?hr ?hp (fun _ hk => hk) trivial (Below.refl _ _) (Nat.le_refl _) (by simp) ?_; (case hd => rfl); (case hg => rfl); (case hr => first | (go_simp; done) | (go_simp; rfl)); (case hp => exact (Reps.none _ _)); intro v462 w18 ho19 hb hg_ hnew_; clear hg_ hnew_; (first | rw [← Ny461.out] at ho19 | (simp only [Int.reduceToNat] at ho19; rw [← Ny461.out] at ho19)); have n0_ := Aside0.mk (Kd.R_below (rq HO_458000.out) hb); have n1_ := Aside0.mk (Kd.S_elder' (by (with_reducible repeat (first | apply Kd.S_alloc | apply Kd.S_drewN | apply Kd.S_drew)); exact HO_458002.out) (Kd.R_base ho19) hb); have n2_ := Aside0.mk (Kd.R_lower ho19 (below_size (lq HB.out))); have n3_ := Aside0.mk (blk_below (bq BK455.out) hb); have n4_ := Aside0.mk (blk_below (bq BK457.out) hb); have n5_ := Aside0.mk (below_step (lq HB.out) hb); clear HO_458000; clear HO_458002; clear BK455; clear BK457; clear HB; have HO_458000 := n0_; have HO_458002 := n1_; have HO463 := n2_; have BK455 := n3_; have BK457 := n4_; have HB := n5_; clear n0_ n1_ n2_ n3_ n4_ n5_; clear hb ho19))
        go_loopg [8, 9] k2 (fun kq v8 v9 w' => ∃ (x8_3 : List Int) (x9_3 : Int), v9 = .int .i64 x9_3 ∧ Aside0 (spec_GuestNew.l2 kq l0 x7_2 x8_3 x9_3 x458000_1 ((a1) % 4294967296) x458002_2 = some (r1, r2, r3)) ∧ Aside0 (kq ≤ k2) ∧ Aside0 (Kd.R (Kd.int .u8) 5 w' w.heap.size (fun _ => True) v8 x8_3) ∧ Aside0 (Kd.R (Kd.int .u32) 23 w' w.heap.size (fun _ => True) u458000 x458000_1) ∧ Aside0 (Kd.S (Kd.slice 5 (Kd.int .u8)) 68 w' w.heap.size (fun k_ => some k_ ≠ (v8 : Value).ownBlock) u458002 x458002_2) ∧ Aside0 (w'.heap[gb455]? = some (.cells #[(.slice none 0 0), .int .u32 0, (.slice none 0 0)] 28 (0, 0))) ∧ Aside0 (w'.heap[gb457]? = some (.cells #[u458000, .int .u32 ((a1) % 4294967296), u458002] 28 (0, 0))) ∧ Aside0 (Below w.heap.size w w'))
        case atStart => exact ⟨(y461), (0), (by first | rfl | (simp; done) | (simp [*]; done)), H', ⟨Nat.le_refl _⟩, ⟨by (with_reducible repeat (first | apply Kd.R_alloc | apply Kd.R_drewN | apply Kd.R_drew)); exact HO463.out⟩, ⟨by (with_reducible repeat (first | apply Kd.R_alloc | apply Kd.R_drewN | apply Kd.R_drew)); exact HO_458000.out⟩, ⟨by (with_reducible repeat (first | apply Kd.S_alloc | apply Kd.S_drewN | apply Kd.S_drew)); exact Kd.S_mono HO_458002.out (fun _ hk => hk.2)⟩, ⟨by (with_reducible repeat (first | refine blk_drewN ?_ _ | refine blk_drew ?_ | refine blk_alloc ?_ _)); exact BK455.out⟩, ⟨by (with_reducible repeat (first | refine blk_drewN ?_ _ | refine blk_drew ?_ | refine blk_alloc ?_ _)); exact BK457.out⟩, ⟨by exact lq HB.out⟩⟩
        case round =>
         clear H'
         try clear c1
         try clear c2
         try clear p2
         try clear c4
         try clear c5
         try clear p6
         try clear c8
         try clear c10
         try clear c10b0
         try clear c11
         try clear c12
         try clear c17
         try clear c17b0
         try clear hcz13_0
         try clear hcz13_1
         try clear hcz13_2
         try clear hcz16_0
         try clear hcz16_1
         try clear hcz16_2
         try clear hcz9_0
         try clear hcz9_1
         try clear hcz9_2
         try clear hfz13_0
         try clear hfz13_1
         try clear hfz13_2
         try clear hfz16_0
         try clear hfz16_1
         try clear hfz16_2
         try clear hfz9_0
         try clear hfz9_1
         try clear hfz9_2
         try clear p2
         try clear p6
         obtain ⟨x8_3, x9_3, rfl, HA, HK3, HO_8, HO_458000, HO_458002, BK455, BK457, HB⟩ := hrel
         cases gk with
         | zero => exact absurd HA.out (by simp [spec_GuestNew.l2])
         | succ k3 =>
          have H := HA.out
          clear HA
          simp only [spec_GuestNew.l2] at H
          by_cases c20 : 0 ≤ x7_2
          ·rw [if_pos c20] at H
           have c20b0 : decide (0 ≤ x7_2) = true := decide_eq_true c20
           clear c20
           by_cases c21 : x7_2 < (l0.length : Int)
           ·rw [if_pos c21] at H
            have c21b0 : decide (x7_2 < (l0.length : Int)) = true := decide_eq_true c21
            clear c21
            by_cases c22 : x9_3 < ((rd_T70 l0 x7_2).f1)
            ·rw [if_pos c22] at H
             have c22b0 : decide (x9_3 < ((rd_T70 l0 x7_2).f1)) = true := decide_eq_true c22
             clear c22
             by_cases c23 : x8_3.length < 140737488355328
             ·rw [if_pos c23] at H
              have LMc23 := Aside0.mk c23
              clear c23
              obtain ⟨y465, hy465⟩ : ∃ y_ : List Int, y_ = (x8_3 ++ [0]) := ⟨_, rfl⟩
              replace H : (spec_GuestNew.l2 k3 l0 x7_2 y465 (wrap64 (x9_3 + 1)) x458000_1 ((a1) % 4294967296) x458002_2) = some (r1, r2, r3) := by first | (rw [hy465]; with_reducible exact H) | (have H2_ := (Option.bind_some _ _).symm.trans H; rw [hy465]; with_reducible exact H2_) | (have H2_ := (Option.bind_some _ _).symm.trans H; with_reducible exact H2_) | with_reducible exact H | (rw [hy465]; exact H) | exact H
              have Ny465 := Aside0.mk hy465
              clear hy465
              have H' := Aside0.mk H
              clear H
              have p464 : 0 ≤ (x7_2 : Int) := of_decide_eq_true (by first | (with_reducible assumption) | assumption)
              have q464 : x7_2 < (l0.length : Int) := of_decide_eq_true (by first | (with_reducible assumption) | assumption)
              obtain ⟨ad464, e464, hx464_0, hx464_1, hx464_2⟩ := at_T70 HR0.out x7_2 p464 q464
              cases e464
              replace hx464_0 := (HB.out.cell (World.block_lt_of_cell? w _ hx464_0)).trans hx464_0
              replace hx464_1 := (HB.out.cell (World.block_lt_of_cell? w _ hx464_1)).trans hx464_1
              replace hx464_2 := (HB.out.cell (World.block_lt_of_cell? w _ hx464_2)).trans hx464_2
              replace p464 := eq_true p464
              replace q464 := eq_true q464
              go_wp2_with (first | ((with_reducible refine gate_builtin (b := .append) (xs := #[.tmp 42, .tmp 43]) rfl ?_); at_builtin; refine Kd.R_append (Kd.int .u8) (w0 := w) w.heap.size rfl (.tmp 42) (.tmp 43) 68 5 (.int .u8 0) 1 rfl Try.underlying68 info5 rfl (by decide) (by omega) u8 x8_3 0 [.int .u8 0] (fun _ => True) (fun _ => False) rfl rfl ?aP (fun _ hk => hk.elim) ?aF ?aO ?aB ?aS ?aL ?_; (case aP => exact rfl); (case aB => exact (lq HB.out)); (case aF => exact (fun _ _ => trivial)); (case aO => exact (rq HO_8.out)); (case aS => exact (below_size (lq HB.out))); (case aL => have := LMc23.out; omega); intro v466 w24 ho hb hg hat; rw [← Ny465.out] at ho; have n0_ := Aside0.mk (Kd.R_over' (rq HO_458000.out) (Kd.R_typed (rq HO_8.out)) (by decide) hg); have n1_ := Aside0.mk (Kd.S_after (ok := (fun _ => True)) (by (with_reducible repeat (first | apply Kd.S_alloc | apply Kd.S_drewN | apply Kd.S_drew)); exact Kd.S_mono HO_458002.out (fun _ hk => ⟨trivial, hk⟩)) hg hat); have n2_ := Aside0.mk (blk_grown (g := gb455) (o := .cells #[.slice none 0 0, .int .u32 0, .slice none 0 0] 28 (0, 0)) (bq BK455.out) hg (Kd.R_ne HO_8.out BK455.out (by decide))); have n3_ := Aside0.mk (blk_grown (g := gb457) (o := .cells #[u458000, .int .u32 ((a1) % 4294967296), u458002] 28 (0, 0)) (bq BK457.out) hg (Kd.R_ne HO_8.out BK457.out (by decide))); have n4_ := Aside0.mk (hb); have n5_ := Aside0.mk (ho); clear HO_458000; clear HO_458002; clear BK455; clear BK457; clear HB; clear HO_8; have HO_458000 := n0_; have HO_458002 := n1_; have BK455 := n2_; have BK457 := n3_; have HB := n4_; have HO467 := n5_; clear n0_ n1_ n2_ n3_ n4_ n5_; clear ho hb hg hat))
              go_roundg k3
              case measure => have := HK1.out; have := HK2.out; have := HK3.out; omega
              case rel => exact ⟨(y465), (wrap64 (x9_3 + 1)), (by first | rfl | (simp; done) | (simp [*]; done)), H', ⟨by have := HK1.out; have := HK2.out; have := HK3.out; omega⟩, ⟨by (with_reducible repeat (first | apply Kd.R_alloc | apply Kd.R_drewN | apply Kd.R_drew)); exact HO467.out⟩, ⟨by (with_reducible repeat (first | apply Kd.R_alloc | apply Kd.R_drewN | apply Kd.R_drew)); exact HO_458000.out⟩, ⟨by (with_reducible repeat (first | apply Kd.S_alloc | apply Kd.S_drewN | apply Kd.S_drew)); exact Kd.S_mono HO_458002.out (fun _ hk => hk.2)⟩, ⟨by (with_reducible repeat (first | refine blk_drewN ?_ _ | refine blk_drew ?_ | refine blk_alloc ?_ _)); exact BK455.out⟩, ⟨by (with_reducible repeat (first | refine blk_drewN ?_ _ | refine blk_drew ?_ | refine blk_alloc ?_ _)); exact BK457.out⟩, ⟨by exact lq HB.out⟩⟩
             ·rw [if_neg c23] at H
              exact absurd H (by simp)
            ·rw [if_neg c22] at H
             have c22b0 : decide (x9_3 < ((rd_T70 l0 x7_2).f1)) = false := decide_eq_false c22
             clear c22
             by_cases c25 : x458002_2.length < 5864062014805
             ·rw [if_pos c25] at H
              have LMc25 := Aside0.mk c25
              clear c25
              obtain ⟨y468, hy468⟩ : ∃ y_ : List (List Int), y_ = (x458002_2 ++ [x8_3]) := ⟨_, rfl⟩
              replace H : (spec_GuestNew.l1 k3 l0 (wrap64 (x7_2 + 1)) x458000_1 ((a1) % 4294967296) y468) = some (r1, r2, r3) := by first | (rw [hy468]; with_reducible exact H) | (have H2_ := (Option.bind_some _ _).symm.trans H; rw [hy468]; with_reducible exact H2_) | (have H2_ := (Option.bind_some _ _).symm.trans H; with_reducible exact H2_) | with_reducible exact H | (rw [hy468]; exact H) | exact H
              have Ny468 := Aside0.mk hy468
              clear hy468
              have H' := Aside0.mk H
              clear H
              have p464 : 0 ≤ (x7_2 : Int) := of_decide_eq_true (by first | (with_reducible assumption) | assumption)
              have q464 : x7_2 < (l0.length : Int) := of_decide_eq_true (by first | (with_reducible assumption) | assumption)
              obtain ⟨ad464, e464, hx464_0, hx464_1, hx464_2⟩ := at_T70 HR0.out x7_2 p464 q464
              cases e464
              replace hx464_0 := (HB.out.cell (World.block_lt_of_cell? w _ hx464_0)).trans hx464_0
              replace hx464_1 := (HB.out.cell (World.block_lt_of_cell? w _ hx464_1)).trans hx464_1
              replace hx464_2 := (HB.out.cell (World.block_lt_of_cell? w _ hx464_2)).trans hx464_2
              replace p464 := eq_true p464
              replace q464 := eq_true q464
              have hnb26 := NB457_455.out
              have hnc26 := NB455_457.out
              have hcz27_0 : wr.cell? ⟨gb457, 0, none⟩ = some (u458000) := (blk_cell BK457.out 0).trans rfl
              have hcz27_1 : wr.cell? ⟨gb457, 1, none⟩ = some (.int .u32 ((a1) % 4294967296)) := (blk_cell BK457.out 1).trans rfl
              have hcz27_2 : wr.cell? ⟨gb457, 2, none⟩ = some (u458002) := (blk_cell BK457.out 2).trans rfl
              have hfz27_0 := blk_frozen BK457.out 0
              have hfz27_1 := blk_frozen BK457.out 1
              have hfz27_2 := blk_frozen BK457.out 2
              obtain ⟨Ao29, co29, eo29⟩ := Kd.R_slice HO_8.out
              subst eo29
              go_wp2_with (first | ((with_reducible refine gate_builtin (b := .append) (xs := #[.tmp 46, .tmp 48]) rfl ?_); at_builtin; refine Kd.S_append (Kd.slice 5 (Kd.int .u8)) (w0 := w) w.heap.size rfl (.tmp 46) (.tmp 48) 24 68 (.slice none 0 0) 24 rfl Try.underlying24 info68 rfl (by decide) (by omega) u458002 x458002_2 x8_3 [.slice Ao29 x8_3.length co29] (fun _ => True) (fun k_ => some k_ = (.slice Ao29 x8_3.length co29 : Value).ownBlock) rfl rfl ?aP (fun k_ hk_ => ((Kd.R_mono (ok' := fun k_ => ((fun _ => True)) k_ ∧ some k_ ≠ (u458002 : Value).ownBlock) (Kd.R_apart' (HO_8.out) (Kd.S_typed HO_458002.out) (by decide)) (fun k_ hk => ⟨trivial, hk.2⟩))).1 k_ hk_.symm) ?aF ?aO ?aB ?aS ?aL ?_; (case aP => exact Kd.M_row (Kd.R_mono (Kd.R_tight rfl (Kd.R_mono (ok' := fun k_ => ((fun _ => True)) k_ ∧ some k_ ≠ (u458002 : Value).ownBlock) (Kd.R_apart' (HO_8.out) (Kd.S_typed HO_458002.out) (by decide)) (fun k_ hk => ⟨trivial, hk.2⟩))) (fun _ h_ => h_))); (case aB => exact (lq HB.out)); (case aF => exact (fun _ _ => trivial)); (case aO => exact (by (with_reducible repeat (first | apply Kd.S_alloc | apply Kd.S_drewN | apply Kd.S_drew)); exact Kd.S_mono HO_458002.out (fun k_ hk => ⟨trivial, fun e_ => hk e_⟩))); (case aS => exact (below_size (lq HB.out))); (case aL => have := LMc25.out; omega); intro v469 w28 ho hb hg hat; rw [← Ny468.out] at ho; have n0_ := Aside0.mk (Kd.R_over' (rq HO_458000.out) (Kd.S_typed (by (with_reducible repeat (first | apply Kd.S_alloc | apply Kd.S_drewN | apply Kd.S_drew)); exact HO_458002.out)) (by decide) hg); have n1_ := Aside0.mk (blk_grown (g := gb455) (o := .cells #[.slice none 0 0, .int .u32 0, .slice none 0 0] 28 (0, 0)) (bq BK455.out) hg (Kd.S_ne HO_458002.out BK455.out (by decide))); have n2_ := Aside0.mk (blk_grown (g := gb457) (o := .cells #[u458000, .int .u32 ((a1) % 4294967296), u458002] 28 (0, 0)) (bq BK457.out) hg (Kd.S_ne HO_458002.out BK457.out (by decide))); have n3_ := Aside0.mk (hb); have n4_ := Aside0.mk (ho); clear HO_458000; clear BK455; clear BK457; clear HB; clear HO_458002; clear HO_8; have HO_458000 := n0_; have BK455 := n1_; have BK457 := n2_; have HB := n3_; have HO470 := n4_; clear n0_ n1_ n2_ n3_ n4_; clear ho hb hg hat; obtain ⟨Ao30, co30, eo30⟩ := Kd.S_slice HO470.out; subst eo30; have hcz31_0 : w28.cell? ⟨gb457, 0, none⟩ = some (u458000) := (blk_cell BK457.out 0).trans rfl; have hcz31_1 : w28.cell? ⟨gb457, 1, none⟩ = some (.int .u32 ((a1) % 4294967296)) := (blk_cell BK457.out 1).trans rfl; have hcz31_2 : w28.cell? ⟨gb457, 2, none⟩ = some (u458002) := (blk_cell BK457.out 2).trans rfl; have hfz31_0 := blk_frozen BK457.out 0; have hfz31_1 := blk_frozen BK457.out 1; have hfz31_2 := blk_frozen BK457.out 2))
              go_roundg k3
              case measure => have := HK1.out; have := HK2.out; have := HK3.out; omega
              case rel => exact ⟨(wrap64 (x7_2 + 1)), (y468), (.slice Ao30 y468.length co30), (by first | rfl | (simp; done) | (simp [*]; done)), H', ⟨by have := HK1.out; have := HK2.out; have := HK3.out; omega⟩, ⟨by (with_reducible repeat (first | apply Kd.R_alloc | apply Kd.R_drewN | apply Kd.R_drew)); exact Kd.R_mono (Kd.R_far (p := ⟨gb457, 2, none⟩) (Kd.R_types HO_458000.out BK457.out (by decide)) (fun _ hk => hk.2) (.slice Ao30 y468.length co30)) (fun _ hk => trivial)⟩, ⟨by (with_reducible repeat (first | apply Kd.S_alloc | apply Kd.S_drewN | apply Kd.S_drew)); exact Kd.S_mono (Kd.S_far (p := ⟨gb457, 2, none⟩) (Kd.S_types HO470.out BK457.out (by decide)) (fun _ hk => hk.2) (.slice Ao30 y468.length co30)) (fun _ hk => trivial)⟩, ⟨by (with_reducible repeat (first | refine blk_drewN ?_ _ | refine blk_drew ?_ | refine blk_alloc ?_ _)); refine blk_far ?_ NB455_457.out _; (with_reducible repeat (first | refine blk_drewN ?_ _ | refine blk_drew ?_ | refine blk_alloc ?_ _)); exact BK455.out⟩, ⟨by (with_reducible repeat (first | refine blk_drewN ?_ _ | refine blk_drew ?_ | refine blk_alloc ?_ _)); refine blk_put (cs := #[u458000, .int .u32 ((a1) % 4294967296), u458002]) ?_ 2 _ rfl; (with_reducible repeat (first | refine blk_drewN ?_ _ | refine blk_drew ?_ | refine blk_alloc ?_ _)); exact BK457.out⟩, ⟨by repeat (first | (with_reducible first | exact HB.out | apply below_alloc | apply pw_below_drewN | apply below_drew1 | refine below_set ?_ GE457.out) | exact HB.out)⟩⟩
             ·rw [if_neg c25] at H
              exact absurd H (by simp)
           ·rw [if_neg c21] at H
            exact absurd H (by simp)
          ·rw [if_neg c20] at H
           exact absurd H (by simp)
       ·rw [if_neg c17] at H
        have c17b0 : decide (x7_2 < (l0.length : Int)) = false := decide_eq_false c17
        clear c17
        simp only [Option.some.injEq, Prod.mk.injEq] at H
        obtain ⟨rfl, rfl, rfl⟩ := H
        have hnb32 := NB457_455.out
        have hnc32 := NB455_457.out
        have hcz33_0 : wr.cell? ⟨gb457, 0, none⟩ = some (u458000) := (blk_cell BK457.out 0).trans rfl
        have hcz33_1 : wr.cell? ⟨gb457, 1, none⟩ = some (.int .u32 ((a1) % 4294967296)) := (blk_cell BK457.out 1).trans rfl
        have hcz33_2 : wr.cell? ⟨gb457, 2, none⟩ = some (u458002) := (blk_cell BK457.out 2).trans rfl
        have hfz33_0 := blk_frozen BK457.out 0
        have hfz33_1 := blk_frozen BK457.out 1
        have hfz33_2 := blk_frozen BK457.out 2
        obtain ⟨Ao34, co34, eo34⟩ := Kd.R_slice HO_458000.out
        subst eo34
        have hcz35_0 : wr.cell? ⟨gb455, 0, none⟩ = some (.slice none 0 0) := (blk_cell BK455.out 0).trans rfl
        have hcz35_1 : wr.cell? ⟨gb455, 1, none⟩ = some (.int .u32 0) := (blk_cell BK455.out 1).trans rfl
        have hcz35_2 : wr.cell? ⟨gb455, 2, none⟩ = some (.slice none 0 0) := (blk_cell BK455.out 2).trans rfl
        have hfz35_0 := blk_frozen BK455.out 0
        have hfz35_1 := blk_frozen BK455.out 1
        have hfz35_2 := blk_frozen BK455.out 2
        obtain ⟨Ao36, co36, eo36⟩ := Kd.S_slice HO_458002.out
        subst eo36
        go_wp2
        refine bodyPost_ret (results_cell_row rfl _ _ gb455 28 #[.slice Ao34 x458000_1.length co34, .int .u32 ((a1) % 4294967296), .slice Ao36 x458002_2.length co36] (0, 0) _ rfl (by (with_reducible repeat (first | refine blk_drewN ?_ _ | refine blk_drew ?_ | refine blk_alloc ?_ _)); refine blk_put (cs := #[.slice Ao34 x458000_1.length co34, .int .u32 ((a1) % 4294967296), .slice none 0 0]) ?_ 2 _ rfl; (with_reducible repeat (first | refine blk_drewN ?_ _ | refine blk_drew ?_ | refine blk_alloc ?_ _)); refine blk_put (cs := #[.slice Ao34 x458000_1.length co34, .int .u32 0, .slice none 0 0]) ?_ 1 _ rfl; (with_reducible repeat (first | refine blk_drewN ?_ _ | refine blk_drew ?_ | refine blk_alloc ?_ _)); refine blk_put (cs := #[.slice none 0 0, .int .u32 0, .slice none 0 0]) ?_ 0 _ rfl; (with_reducible repeat (first | refine blk_drewN ?_ _ | refine blk_drew ?_ | refine blk_alloc ?_ _)); exact BK455.out) Try.underlying28 rfl (by kernel_rfl)) rfl ?_
        exact ⟨_, _, by first | rfl | (simp [errW_none, errW_some] <;> rfl) | (simp [*, errW_none, errW_some] <;> rfl), by (with_reducible repeat (first | apply Kd.R_alloc | apply Kd.R_drewN | apply Kd.R_drew)); exact Kd.R_mono (Kd.R_far (p := ⟨gb455, 2, none⟩) (Kd.R_far (p := ⟨gb455, 1, none⟩) (Kd.R_far (p := ⟨gb455, 0, none⟩) (Kd.R_types HO_458000.out BK455.out (by decide)) (fun _ hk => hk.2) (.slice Ao34 x458000_1.length co34)) (fun _ hk => hk.2) (.int .u32 ((a1) % 4294967296))) (fun _ hk => hk.2) (.slice Ao36 x458002_2.length co36)) (fun _ hk => trivial), by (with_reducible repeat (first | apply Kd.S_alloc | apply Kd.S_drewN | apply Kd.S_drew)); exact Kd.S_mono (Kd.S_far (p := ⟨gb455, 2, none⟩) (Kd.S_far (p := ⟨gb455, 1, none⟩) (Kd.S_far (p := ⟨gb455, 0, none⟩) (Kd.S_types HO_458002.out BK455.out (by decide)) (fun _ hk => hk.2) (.slice Ao34 x458000_1.length co34)) (fun _ hk => hk.2) (.int .u32 ((a1) % 4294967296))) (fun _ hk => hk.2) (.slice Ao36 x458002_2.length co36)) (fun _ hk => trivial), by repeat (first | (with_reducible first | exact HB.out | apply below_alloc | apply pw_below_drewN | apply below_drew1 | refine below_set ?_ GE455.out) | exact HB.out)⟩
 ·replace c4 := Bool.eq_false_iff.mpr c4
  subst c4
  rw [if_neg (show ¬ (false = true) by decide)] at H
  simp only [Option.some.injEq, Prod.mk.injEq] at H
  obtain ⟨rfl, rfl, rfl⟩ := H
  go_enter Try.func22, Try.ntmps22
  go_wp2_with (first | ((with_reducible refine gate_dst (N := 4) rfl ?_); refine box_event ?hg (N := 4) ?hd (cs := #[.slice none 0 0, .int .u32 0, .slice none 0 0]) (t := 28) ?hr ?_; (case hd => rfl); (case hg => rfl); (case hr => first | (go_simp; done) | (go_simp; rfl)); intro gb455 hg w37 hbox hb; have n0_ := Aside0.mk (below_step (lq HB.out) hb); have n1_ := Aside0.mk (hbox); have n2_ := Aside0.mk ((ge_new hg (lq HB.out) : w.heap.size ≤ gb455)); have n3_ := Aside0.mk ((ge_new hg (lq HB.out) : w.heap.size ≤ gb455)); clear HB; have HB := n0_; have BK455 := n1_; have GW455 := n2_; have GE455 := n3_; clear n0_ n1_ n2_ n3_; clear hb hbox hg) | ((with_reducible refine gate_callee (f := 52) rfl ?_); refine goesL_ (some 11) rfl rfl Try.func52 (by kernel_rfl) rfl #[.slice A0 l0.length c0] rfl (by (try simp only [List.map_toArray, List.map_cons, List.map_nil]); first | done | rfl | (simp only [List.length_drop, List.length_take]; rfl)) ?_; (with_reducible refine (spec_WindowsOk.calls k _ _ l0 false _ ?side1 ?side2 A3.out).mono ?_); (case side1 => repeat (first | exact (Kd.C_below HR0.out HB.out) | (with_reducible refine Kd.C_alloc ?_ _) | (with_reducible refine Kd.C_drewN ?_ _) | (with_reducible refine Kd.C_drew ?_))); (case side2 => exact HC0.out); rintro e w38 ⟨rfl, hb⟩; refine ⟨_, rfl, ?_⟩; have n0_ := Aside0.mk (blk_below (bq BK455.out) hb); have n1_ := Aside0.mk (below_step (lq HB.out) hb); clear BK455; clear HB; have BK455 := n0_; have HB := n1_; clear n0_ n1_; (try clear hb); (try clear hb2); (try clear hk); (try clear hi); have hcz39_0 : w38.cell? ⟨gb455, 0, none⟩ = some (.slice none 0 0) := (blk_cell BK455.out 0).trans rfl; have hcz39_1 : w38.cell? ⟨gb455, 1, none⟩ = some (.int .u32 0) := (blk_cell BK455.out 1).trans rfl; have hcz39_2 : w38.cell? ⟨gb455, 2, none⟩ = some (.slice none 0 0) := (blk_cell BK455.out 2).trans rfl; have hfz39_0 := blk_frozen BK455.out 0; have hfz39_1 := blk_frozen BK455.out 1; have hfz39_2 := blk_frozen BK455.out 2))
  refine bodyPost_ret (results_cell_row rfl _ _ gb455 28 #[.slice none 0 0, .int .u32 0, .slice none 0 0] (0, 0) _ rfl (by (with_reducible repeat (first | refine blk_drewN ?_ _ | refine blk_drew ?_ | refine blk_alloc ?_ _)); refine blk_put (cs := #[.slice none 0 0, .int .u32 0, .slice none 0 0]) ?_ 2 _ rfl; (with_reducible repeat (first | refine blk_drewN ?_ _ | refine blk_drew ?_ | refine blk_alloc ?_ _)); refine blk_put (cs := #[.slice none 0 0, .int .u32 0, .slice none 0 0]) ?_ 1 _ rfl; (with_reducible repeat (first | refine blk_drewN ?_ _ | refine blk_drew ?_ | refine blk_alloc ?_ _)); refine blk_put (cs := #[.slice none 0 0, .int .u32 0, .slice none 0 0]) ?_ 0 _ rfl; (with_reducible repeat (first | refine blk_drewN ?_ _ | refine blk_drew ?_ | refine blk_alloc ?_ _)); exact BK455.out) Try.underlying28 rfl (by kernel_rfl)) rfl ?_
  exact ⟨_, _, by first | rfl | (simp [errW_none, errW_some] <;> rfl) | (simp [*, errW_none, errW_some] <;> rfl), by first | exact Kd.R_nil _ _ _ _ _ | exact Kd.N_nil _ _ _ _ _ | exact Kd.V_nil _ _ _ _ _ | exact Kd.Q_nil _ _ _ _ _ | exact Kd.S_nil _ _ _ _ _, by first | exact Kd.S_nil _ _ _ _ _ | exact Kd.N_nil _ _ _ _ _ | exact Kd.V_nil _ _ _ _ _ | exact Kd.Q_nil _ _ _ _ _ | exact Kd.R_nil _ _ _ _ _, by repeat (first | (with_reducible first | exact HB.out | apply below_alloc | apply pw_below_drewN | apply below_drew1 | refine below_set ?_ GE455.out) | exact HB.out)⟩

end Go.Proofs.Ytbcpkigeginmnaa.GF
