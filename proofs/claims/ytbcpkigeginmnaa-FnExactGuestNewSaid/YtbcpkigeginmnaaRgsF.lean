/- A register set in a guest of one's own, and RegSet, walked by hand. -/
import Derived.Test.YtbcpkigeginmnaaGFx0
import Derived.Test.YtbcpkigeginmnaaGFx1
import Derived.Test.YtbcpkigeginmnaaGFx18
import Derived.Test.YtbcpkigeginmnaaGFx20
import Derived.Test.YtbcpkigeginmnaaMkgF
namespace Go.Proofs.Ytbcpkigeginmnaa.GF
open Go.RowKit Go.Proofs.YtbcpkigeginmnaaW.PrintWords Go.Proofs.YtbcpkigeginmnaaW.PrintLast Go.Proofs.YtbcpkigeginmnaaW.PrintMore Go.Proofs.Ytbcpkigeginmnaa.Q Go.Proofs.Ytbcpkigeginmnaa.Hnd Go.Proofs.Ytbcpkigeginmnaa.Lst
set_option linter.unusedVariables false
set_option linter.unusedSimpArgs false
theorem Gst.wide {w0 W : World} {lo hi lo' hi' : Nat} {v0 v2 : Value} {r : List Int} {ram : List (List Int)} (h : Gst w0 W lo hi v0 v2 r ram) (h1 : lo' ≤ lo) (h2 : hi ≤ hi') (h3 : hi' ≤ W.heap.size) (h4 : w0.heap.size ≤ lo') : Gst w0 W lo' hi' v0 v2 r ram :=
  ⟨Kd.R_mono h.r0 (fun k hk => ⟨Nat.le_trans h1 hk.1, Nat.lt_of_lt_of_le hk.2 h2⟩), Kd.S_mono h.r2 (fun k hk => ⟨Nat.le_trans h1 hk.1, Nat.lt_of_lt_of_le hk.2 h2⟩), h4, h3⟩
theorem Fr.put3 {S : Nat → Prop} {a w : World} {g : Nat} (h : Fr S a w) (hg : S g ∨ a.heap.size ≤ g) (u0 u1 u2 : Value) : Fr S a (((w.setCell ⟨g, 0, none⟩ u0).setCell ⟨g, 1, none⟩ u1).setCell ⟨g, 2, none⟩ u2) :=
  ((h.set (p := ⟨g, 0, none⟩) hg u0).set (p := ⟨g, 1, none⟩) hg u1).set (p := ⟨g, 2, none⟩) hg u2
/-- Register n of 16 set; 0 stays. -/
def setR (r : List Int) (n x : Int) : List Int := if n = 0 then r else r.set n.toNat x
set_option maxHeartbeats 8000000 in
set_option maxRecDepth 100000 in
theorem set_calls (w0 W : World) (lo hi g : Nat) (v0 v2 : Value) (r : List Int) (p : Int) (ram : List (List Int)) (n x : Int) (hG : Gst w0 W lo hi v0 v2 r ram) (hb : W.heap[g]? = some (.cells #[v0, .int .u32 p, v2] 28 (0, 0))) (h0 : 0 ≤ n) (h1 : n < r.length) :
    Calls Try.prog 45 #[.pointer (some ⟨g, 0, none⟩), .int .i64 n, .int .u32 x] W fun e w' => e = .returned (.tuple #[]) ∧ Gst w0 w' lo hi v0 v2 (setR r n x) ram ∧ w'.heap[g]? = some (.cells #[v0, .int .u32 p, v2] 28 (0, 0)) ∧ Fr (fun k => lo ≤ k ∧ k < hi) W w' := by
  have HG := Aside0.mk hG
  have HB := Aside0.mk hb
  by_cases c0 : n = 0
  · subst c0
    have e1 : setR r 0 x = r := by unfold setR; rw [if_pos rfl]
    rw [e1]
    clear hG hb
    go_enter Try.func45, Try.ntmps45
    go_wp2
    (first | go_end0 | ((try simp only [Exit.inBlock, Exit.then]); refine bodyPost_ret (results_none rfl _ _ _) rfl ?_))
    exact ⟨rfl, HG.out, HB.out, Fr.refl _ _⟩
  · have e1 : setR r n x = r.set n.toNat x := by unfold setR; rw [if_neg c0]
    rw [e1]
    have c0b : (n == 0) = false := beq_eq_false_iff_ne.mpr c0
    have c0n : (n != 0) = true := bne_iff_ne.mpr c0
    obtain ⟨go, co, rfl, hgo, hlt, cells, hcell⟩ := Kd.R_form hG.r0 (by omega)
    obtain ⟨hx, hf⟩ := Kd.R_celln 0 hG.r0 n h0 h1
    have hput := Kd.R_putg hG.r0 n x
    have hne : g ≠ go := fun h => by
      subst h
      rw [hb] at hcell
      injection hcell with hcell
      injection hcell with _ ht
      exact absurd ht (by decide)
    have k0 := kc hb 0 rfl
    have S2 := Kd.S_apart' hG.r2 (Kd.R_typed hG.r0) (by decide)
    have HP := Aside0.mk hput
    have HS2 := Aside0.mk S2
    have hr := hG.r0.1 go rfl
    have HR := Aside0.mk hr
    have q0 := decide_eq_true h0
    have q1 := decide_eq_true h1
    clear hG hb hput S2 hcell hr
    go_enter Try.func45, Try.ntmps45
    go_wp2
    (first | go_end0 | ((try simp only [Exit.inBlock, Exit.then]); refine bodyPost_ret (results_none rfl _ _ _) rfl ?_))
    have F1 : Fr (fun k => lo ≤ k ∧ k < hi) W (W.setCell ⟨go, n.toNat, none⟩ (.int .u32 x)) := (Fr.refl _ W).set (.inl HR.out) _
    refine ⟨rfl, ⟨HP.out.1, Kd.S_drop (Kd.S_far HS2.out (fun k hk e => hk.2 (by subst e; rfl)) _), HG.out.ge, Nat.le_trans HG.out.le F1.size⟩, blk_far HB.out hne _, F1⟩
/-- A copy of a guest is the guest. -/
theorem clone_pure (r : List Int) (p : Int) (ram : List (List Int)) (hr : r.length ≤ 9000000) (hl : ram.length ≤ 9000000) (hb : ∀ x ∈ ram, x.length ≤ 9000000) (k : Nat) (hk : ram.length < k) : impl_cloneGuest.f k r p ram = some (r, p, ram) := by
  unfold impl_cloneGuest.f slices_Clone_uint32_uint32.f
  rw [if_pos (by omega), Option.bind_some]
  have main : ∀ (d k i : Nat), i ≤ ram.length → ram.length - i = d → d < k → impl_cloneGuest.l0 k ram (ram.length : Int) (i : Int) r p (ram.take i) = some (r, p, ram) := by
    intro d
    induction d with
    | zero =>
      intro k i hi hd hk
      obtain ⟨k, rfl⟩ : ∃ m, k = m + 1 := ⟨k - 1, by omega⟩
      simp only [impl_cloneGuest.l0]
      rw [if_neg (by omega), List.take_of_length_le (by omega)]
    | succ d ih =>
      intro k i hi hd hk
      obtain ⟨k, rfl⟩ : ∃ m, k = m + 1 := ⟨k - 1, by omega⟩
      have hlt : i < ram.length := by omega
      have e1 : wrap64 ((i : Int) + 1) = ((i + 1 : Nat) : Int) := by rw [wr (by omega) (by omega)]; omega
      have hx := hb ram[i] (List.getElem_mem _)
      have e2 : rd_L2 ram (i : Int) = ram[i] := by
        unfold rd_L2
        rw [Int.toNat_natCast, List.getD_eq_getElem?_getD, List.getElem?_eq_getElem hlt]
        rfl
      have c1 : (i : Int) < (ram.length : Int) := by omega
      have c2 : (0 : Int) ≤ (i : Int) := by omega
      have c3 : ram[i].length < 35184372088832 := by omega
      have c4 : (ram.take i).length < 5864062014805 := by rw [List.length_take]; omega
      simp only [impl_cloneGuest.l0]
      rw [if_pos c1, if_pos c2, if_pos c1, e2]
      unfold slices_Clone_byte_byte.f
      rw [if_pos c3, Option.bind_some, if_pos c4, e1, ← List.take_succ_eq_append_getElem hlt]
      exact ih k (i + 1) (by omega) (by omega) (by omega)
  exact main ram.length k 0 (by omega) (by omega) hk
theorem copy_pure (r : List Int) (p : Int) (ram : List (List Int)) (hr : r.length ≤ 9000000) (hl : ram.length ≤ 9000000) (hb : ∀ x ∈ ram, x.length ≤ 9000000) (k : Nat) (hk : ram.length < k) : spec_l08Copy.f k r p ram = some (r, p, ram) := by
  have main : ∀ (d k i : Nat), i ≤ ram.length → ram.length - i = d → d < k → spec_l08Ram.l0 k ram (ram.take i) (i : Int) = some ram := by
    intro d
    induction d with
    | zero =>
      intro k i hi hd hk
      obtain ⟨k, rfl⟩ : ∃ m, k = m + 1 := ⟨k - 1, by omega⟩
      simp only [spec_l08Ram.l0]
      rw [if_neg (by omega), List.take_of_length_le (by omega)]
    | succ d ih =>
      intro k i hi hd hk
      obtain ⟨k, rfl⟩ : ∃ m, k = m + 1 := ⟨k - 1, by omega⟩
      have hlt : i < ram.length := by omega
      have e1 : wrap64 ((i : Int) + 1) = ((i + 1 : Nat) : Int) := by rw [wr (by omega) (by omega)]; omega
      have hx := hb ram[i] (List.getElem_mem _)
      have e2 : rd_L2 ram (i : Int) = ram[i] := by
        unfold rd_L2
        rw [Int.toNat_natCast, List.getD_eq_getElem?_getD, List.getElem?_eq_getElem hlt]
        rfl
      have c1 : (i : Int) < (ram.length : Int) := by omega
      have c2 : (0 : Int) ≤ (i : Int) := by omega
      have c3 : ([] : List Int).length + ram[i].length < 140737488355328 := by simp; omega
      have c4 : (ram.take i).length < 5864062014805 := by rw [List.length_take]; omega
      simp only [spec_l08Ram.l0]
      rw [if_pos c1, Option.bind_some, if_pos c2, e2, if_pos c3, if_pos c4, e1, List.nil_append, ← List.take_succ_eq_append_getElem hlt]
      exact ih k (i + 1) (by omega) (by omega) (by omega)
  have h0 := main ram.length k 0 (by omega) (by omega) hk
  have c3 : ([] : List Int).length + r.length < 35184372088832 := by simp; omega
  unfold spec_l08Copy.f spec_l08Ram.f
  rw [Option.bind_some, if_pos c3, List.nil_append]
  rw [List.take_zero] at h0
  rw [show (0 : Int) = ((0 : Nat) : Int) from rfl, h0, Option.bind_some]
theorem within_pure (a b c : Int) : impl_within.f a b c = some (decide (b ≤ a ∧ a ≤ c)) := by
  unfold impl_within.f; split <;> simp_all <;> omega
/-- What RegSet answers. -/
def regOk (r : List Int) (n : Int) : Bool := decide (r.length = 16) && decide (0 ≤ n ∧ n ≤ 15)
def regR (r : List Int) (n x : Int) : List Int := if regOk r n = true then setR r n x else []
def regP (r : List Int) (n p : Int) : Int := if regOk r n = true then p else 0
def regM (r : List Int) (n : Int) (ram : List (List Int)) : List (List Int) := if regOk r n = true then ram else []
set_option maxHeartbeats 8000000 in
set_option maxRecDepth 100000 in
theorem regset_calls (w0 W : World) (A0 : Option Addr) (c0 : Nat) (r : List Int) (p : Int) (A2 : Option Addr) (c2 : Nat) (ram : List (List Int)) (n x : Int) (hB : Below w0.heap.size w0 W) (h0 : Kd.C (Kd.int .u32) W A0 r.length r) (hc0 : r.length ≤ c0) (h2 : Kd.C (Kd.slice 5 (Kd.int .u8)) W A2 ram.length ram) (hc2 : ram.length ≤ c2) (hr : r.length ≤ 9000000) (hl : ram.length ≤ 9000000) (hb : ∀ x ∈ ram, x.length ≤ 9000000) :
    Calls Try.prog 13 #[.agg #[.slice A0 r.length c0, .int .u32 p, .slice A2 ram.length c2], .int .i64 n, .int .u32 x] W fun e w' => ∃ v0 v2 : Value, e = .returned (.agg #[v0, .int .u32 (regP r n p), v2]) ∧ Gst w0 w' W.heap.size w'.heap.size v0 v2 (regR r n x) (regM r n ram) ∧ Below W.heap.size W w' := by
  have hu28 := Try.underlying28
  have H0 := Aside0.mk h0
  have H2 := Aside0.mk h2
  have HB := Aside0.mk hB
  have HC := Aside0.mk (clone_pure r p ram hr hl hb (ram.length + 1) (by omega))
  have HW := Aside0.mk (within_pure n 0 15)
  have hl16 : (r.length : Int) ≤ 9000000 := by omega
  have HC0 := Aside0.mk hc0
  have HC2 := Aside0.mk hc2
  clear h0 h2 hB hb
  unfold regP regR regM
  by_cases c1 : r.length = 16
  · have c1' : (r.length : Int) = 16 := by omega
    have c1b : ((r.length : Int) != 16) = false := bne_eq_false_iff_eq.mpr c1'
    by_cases c3 : 0 ≤ n ∧ n ≤ 15
    · have e : regOk r n = true := by unfold regOk; rw [decide_eq_true c1, decide_eq_true c3]; rfl
      rw [e, if_pos rfl, if_pos rfl, if_pos rfl]
      rw [decide_eq_true c3] at HW
      have C1 := Aside0.mk c1
      have C3 := Aside0.mk c3
      clear c1 c1' c3 e
      go_enter Try.func13, Try.ntmps13
      go_wp2_with (first | (go_at_call 43; refine (impl_within.calls n 0 15 true _ HW.out).mono ?_; rintro e w1 ⟨rfl, ⟨nd, rfl⟩⟩; (try first | exact ⟨rfl, _, World.drewN_drewN _ _ _⟩ | exact ⟨rfl, _, Eq.trans (World.drewN_drewN _ _ _) (congrArg (World.drewN _) (Nat.add_assoc _ _ _))⟩)) | (go_at_call 44; refine (impl_cloneGuest.calls (ram.length + 1) A0 c0 r p A2 c2 ram r p ram _ (cq H0.out) HC0.out (cq H2.out) HC2.out HC.out).mono ?_; rintro e w2 ⟨v0, v2, rfl, hR, hS, hb'⟩; obtain ⟨A3, c3, rfl⟩ := Kd.R_slice hR; obtain ⟨A4, c4, rfl⟩ := Kd.S_slice hS; have K6 := Aside0.mk (blk_below (bq (at2_1 (w := W) (o0 := .cells #[.slice A0 r.length c0, .int .u32 p, .slice A2 ram.length c2] 28) (o1 := .cells #[.slice none 0 0, .int .u32 0, .slice none 0 0] 28))) hb'); have hs2 : W.heap.size + 1 < w2.heap.size := (by have := blk_lt K6.out; exact this); have ne6 : W.heap.size + 1 ≠ w2.heap.size := (by omega); have x0 := kc K6.out 0 rfl; have x1 := kc K6.out 1 rfl; have x2 := kc K6.out 2 rfl; have y0 := blk_frozen K6.out 0; have y1 := blk_frozen K6.out 1; have y2 := blk_frozen K6.out 2; have HG2 := Aside0.mk (Gst.new hR hS (pw_below_drewN (below_alloc (below_alloc HB.out _) _) _)); have HF2 := Aside0.mk (Fr.step ((((Fr.refl (fun _ => False) W).alloc _).alloc _).drewN _) hb'); clear hR hS hb') | (go_at_call 45; refine (set_calls w0 _ _ _ w2.heap.size (.slice A3 r.length c3) (.slice A4 ram.length c4) r p ram n x (gq HG2.out) at1_0 C3.out.1 (by have := C1.out; have := C3.out; omega)).mono ?_; rintro e w3 ⟨rfl, hG3, hb3, hF3⟩; have HG3 := Aside0.mk hG3; have K3 := Aside0.mk hb3; have HF3 := Aside0.mk ((Fr.of_below (fun _ => False) (below_alloc (Below.refl _ w2) (.cells #[.slice A3 r.length c3, .int .u32 p, .slice A4 ram.length c4] 28))).mono (T := fun k => (((W.alloc (.cells #[.slice A0 r.length c0, .int .u32 p, .slice A2 ram.length c2] 28)).alloc (.cells #[.slice none 0 0, .int .u32 0, .slice none 0 0] 28)).drewN nd).heap.size ≤ k ∧ k < w2.heap.size) (fun _ h => h.elim) |>.trans hF3 (fun _ h => .inl h)); have K63 := Aside0.mk (HF3.out.blk K6.out (fun h => absurd h.1 (by simp))); clear hG3 hb3 hF3 x0 x1 x2 y0 y1 y2; have z0 := kc K3.out 0 rfl; have z1 := kc K3.out 1 rfl; have z2 := kc K3.out 2 rfl; have x0 := kc K63.out 0 rfl; have x1 := kc K63.out 1 rfl; have x2 := kc K63.out 2 rfl; have y0 := blk_frozen K63.out 0; have y1 := blk_frozen K63.out 1; have y2 := blk_frozen K63.out 2))
      refine bodyPost_ret (results_cell_row rfl _ _ (W.heap.size + 1) 28 #[.slice A3 r.length c3, .int .u32 p, .slice A4 ram.length c4] (0, 0) _ rfl (blk_put (blk_put (blk_put K63.out 0 _ rfl) 1 _ rfl) 2 _ rfl) Try.underlying28 rfl (by kernel_rfl)) rfl ?_
      have F9 : Fr (fun k => k = W.heap.size + 1) w3 (((w3.setCell ⟨W.heap.size + 1, 0, none⟩ (.slice A3 r.length c3)).setCell ⟨W.heap.size + 1, 1, none⟩ (.int .u32 p)).setCell ⟨W.heap.size + 1, 2, none⟩ (.slice A4 ram.length c4)) := Fr.put3 (S := fun k => k = W.heap.size + 1) (Fr.refl _ w3) (.inl rfl) _ _ _
      have hz : (((W.alloc (.cells #[.slice A0 r.length c0, .int .u32 p, .slice A2 ram.length c2] 28)).alloc (.cells #[.slice none 0 0, .int .u32 0, .slice none 0 0] 28)).drewN nd).heap.size = W.heap.size + 2 := by simp
      have G9 := HG3.out.fr F9 (fun k h1 h2 e => by rw [hz] at h1; omega)
      have FA : Fr (fun k => W.heap.size ≤ k) W w3 := (HF2.out.mono (fun _ h => h.elim)).trans HF3.out (fun k h => .inl (by have := h.1; rw [hz] at this; omega))
      have FB := FA.trans F9 (fun k h => .inl (by omega))
      exact ⟨_, _, rfl, G9.wide (by rw [hz]; omega) (Nat.le_trans HF3.out.size F9.size) (Nat.le_refl _) HB.out.size, FB.below (fun _ h => h) (Nat.le_refl _)⟩
    · have e : regOk r n = false := by unfold regOk; rw [decide_eq_true c1, decide_eq_false c3]; rfl
      rw [e, if_neg (by decide), if_neg (by decide), if_neg (by decide)]
      rw [decide_eq_false c3] at HW
      clear c1 c1' c3 e
      go_enter Try.func13, Try.ntmps13
      go_wp2_with (go_at_call 43; refine (impl_within.calls n 0 15 false _ HW.out).mono ?_; rintro e w1 ⟨rfl, ⟨nd, rfl⟩⟩; (try first | exact ⟨rfl, _, World.drewN_drewN _ _ _⟩ | exact ⟨rfl, _, Eq.trans (World.drewN_drewN _ _ _) (congrArg (World.drewN _) (Nat.add_assoc _ _ _))⟩))
      refine bodyPost_ret (results_cell_row rfl _ _ (W.heap.size + 1) 28 #[.slice none 0 0, .int .u32 0, .slice none 0 0] (0, 0) _ rfl (blk_put (cs := #[.slice none 0 0, .int .u32 0, .slice none 0 0]) (blk_put (cs := #[.slice none 0 0, .int .u32 0, .slice none 0 0]) (blk_put (cs := #[.slice none 0 0, .int .u32 0, .slice none 0 0]) (bq (at2_1 (w := W) (o0 := .cells #[.slice A0 r.length c0, .int .u32 p, .slice A2 ram.length c2] 28) (o1 := .cells #[.slice none 0 0, .int .u32 0, .slice none 0 0] 28))) 0 _ rfl) 1 _ rfl) 2 _ rfl) Try.underlying28 rfl (by kernel_rfl)) rfl ?_
      have FA : Fr (fun k => W.heap.size ≤ k) W ((W.alloc (.cells #[.slice A0 r.length c0, .int .u32 p, .slice A2 ram.length c2] 28)).alloc (.cells #[.slice none 0 0, .int .u32 0, .slice none 0 0] 28)) := ((Fr.refl _ W).alloc _).alloc _
      exact ⟨.slice none 0 0, .slice none 0 0, rfl, ⟨Kd.R_nil _ _ _ _ _, Kd.S_nil _ _ _ _ _, HB.out.size, Nat.le_refl _⟩, (Fr.put3 (fq FA) (.inl (Nat.le_succ _)) _ _ _).below (fun _ h => h) (Nat.le_refl _)⟩
  · have e : regOk r n = false := by unfold regOk; rw [decide_eq_false c1]; rfl
    have c1b : ((r.length : Int) != 16) = true := bne_iff_ne.mpr (by omega)
    rw [e, if_neg (by decide), if_neg (by decide), if_neg (by decide)]
    clear c1 e
    go_enter Try.func13, Try.ntmps13
    go_wp2
    refine bodyPost_ret (results_cell_row rfl _ _ (W.heap.size + 1) 28 #[.slice none 0 0, .int .u32 0, .slice none 0 0] (0, 0) _ rfl at2_1 Try.underlying28 rfl (by kernel_rfl)) rfl ?_
    have FA : Fr (fun k => W.heap.size ≤ k) W ((W.alloc (.cells #[.slice A0 r.length c0, .int .u32 p, .slice A2 ram.length c2] 28)).alloc (.cells #[.slice none 0 0, .int .u32 0, .slice none 0 0] 28)) := ((Fr.refl _ W).alloc _).alloc _
    exact ⟨.slice none 0 0, .slice none 0 0, rfl, ⟨Kd.R_nil _ _ _ _ _, Kd.S_nil _ _ _ _ _, HB.out.size, Nat.le_refl _⟩, FA.below (fun _ h => h) (Nat.le_refl _)⟩
end Go.Proofs.Ytbcpkigeginmnaa.GF
