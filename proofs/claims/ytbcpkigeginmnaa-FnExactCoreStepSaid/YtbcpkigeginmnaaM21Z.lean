/- The program's memory ops, walked by hand. -/
import Derived.Test.YtbcpkigeginmnaaM12Z
import Derived.Test.YtbcpkigeginmnaaGFx9Z
import Derived.Test.YtbcpkigeginmnaaM20Z
import Derived.Test.YtbcpkigeginmnaaM14Z
import Derived.Test.YtbcpkigeginmnaaM15Z
import Derived.Test.YtbcpkigeginmnaaM16Z
import Derived.Test.YtbcpkigeginmnaaM18Z
import Derived.Test.YtbcpkigeginmnaaM17Z
import Derived.Deep.RegionHeld3
set_option linter.unusedVariables false
set_option linter.unusedSimpArgs false
section
namespace Go.Proofs.Ytbcpkigeginmnaa.GF
open Go.RowKit Go.Proofs.YtbcpkigeginmnaaW.PrintWords Go.Proofs.YtbcpkigeginmnaaW.PrintLast Go.Proofs.YtbcpkigeginmnaaW.PrintMore Go.Proofs.Ytbcpkigeginmnaa.Q Go.Proofs.Ytbcpkigeginmnaa.Hnd Go.Proofs.Ytbcpkigeginmnaa.Lst
structure PutAt (K : Nat) (l : List S70) (ram : List (List Int)) (a x : Int) (s i o : Nat) (bs : List Int) : Prop where
  ats : spec_l07At.f K l (wrap64 a) = some (i : Int)
  ati : impl_windowAt.f l (wrap64 a) = some (i : Int)
  fai : impl_faultAt.f K l a (s : Int) 2 = some 0
  fas : spec_FaultAt.f K l a (s : Int) 2 = some 0
  bss : spec_BytesOf.f x = some bs
  bsi : impl_BytesOf.f x = some bs
  i1 : i < l.length
  i2 : i < ram.length
  ho : wrap64 a - (rd_T70 l (i : Int)).f0 = (o : Int)
  s0 : 0 < s
  s4 : s ≤ 4
  b4 : bs.length = 4
  os : o + s ≤ (rd_L2 ram (i : Int)).length
  le : (rd_L2 ram (i : Int)).length ≤ 9000000
structure CameP (w W : World) (A : Option Addr) (c : Nat) (l : List S70) (A0 : Option Addr) (c0 : Nat) (r : List Int) (A2 : Option Addr) (c2 : Nat) (ram : List (List Int)) : Prop where
  cw : Kd.C k70 W A l.length l
  lw : l.length ≤ c
  r0 : Kd.C (Kd.int .u32) W A0 r.length r
  l0 : r.length ≤ c0
  r2 : Kd.C (Kd.slice 5 (Kd.int .u8)) W A2 ram.length ram
  l2 : ram.length ≤ c2
  b0 : r.length ≤ 9000000
  b2 : ram.length ≤ 9000000
  bb : ∀ x ∈ ram, x.length ≤ 9000000
  be : Below w.heap.size w W
theorem Gst.lower {w0 w1 W : World} {lo hi : Nat} {v0 v2 : Value} {r : List Int} {ram : List (List Int)} (h : Gst w0 W lo hi v0 v2 r ram) (hb : w1.heap.size ≤ w0.heap.size) : Gst w1 W lo hi v0 v2 r ram :=
  ⟨Kd.R_lower h.r0 hb, Kd.S_lower h.r2 hb, Nat.le_trans hb h.ge, h.le⟩
section
variable {w W : World} {A : Option Addr} {c : Nat} {l : List S70} {A0 : Option Addr} {c0 : Nat} {r : List Int} {p : Int} {A2 : Option Addr} {c2 : Nat} {ram : List (List Int)} {K : Nat} {a s x : Int}
end
end Go.Proofs.Ytbcpkigeginmnaa.GF
end
section
namespace Go.Proofs.Ytbcpkigeginmnaa.GF
open Go.RowKit Go.Proofs.YtbcpkigeginmnaaW.PrintWords Go.Proofs.YtbcpkigeginmnaaW.PrintLast Go.Proofs.YtbcpkigeginmnaaW.PrintMore Go.Proofs.Ytbcpkigeginmnaa.Q Go.Proofs.Ytbcpkigeginmnaa.Hnd Go.Proofs.Ytbcpkigeginmnaa.Lst
set_option maxHeartbeats 8000000 in
set_option maxRecDepth 100000 in
theorem set_any (w0 W : World) (lo hi g ty : Nat) (bx : Array Value) (v0 v2 : Value) (r : List Int) (ram : List (List Int)) (n x : Int) (hG : Gst w0 W lo hi v0 v2 r ram) (hb : W.heap[g]? = some (.cells bx ty (0, 0))) (hb0 : bx[0]? = some v0) (hty : ty ≠ 23) (hgo : ¬ (lo ≤ g ∧ g < hi)) (h0 : 0 ≤ n) (h1 : n < r.length) :
    Calls Try.prog 45 #[.pointer (some ⟨g, 0, none⟩), .int .i64 n, .int .u32 x] W fun e w' => e = .returned (.tuple #[]) ∧ Gst w0 w' lo hi v0 v2 (setR r n x) ram ∧ w'.heap[g]? = some (.cells bx ty (0, 0)) ∧ Fr (fun k => lo ≤ k ∧ k < hi) W w' := by
  have HG := Aside0.mk hG
  have HB := Aside0.mk hb
  by_cases c0 : n = 0
  · subst c0
    have e1 : setR r 0 x = r := by unfold setR; rw [if_pos rfl]
    rw [e1]
    clear hG hb
    go_enter Try.func45, Try.ntmps45
    go_wp2
    (first | go_end0 | ((try simp only [Exit.inBlock, Exit.then]); refine bodyPost_ret (results_none rfl _ _ _) rfl ?_))
    exact ⟨rfl, HG.out, HB.out, Fr.refl _ _⟩
  · have e1 : setR r n x = r.set n.toNat x := by unfold setR; rw [if_neg c0]
    rw [e1]
    have c0b : (n == 0) = false := beq_eq_false_iff_ne.mpr c0
    have c0n : (n != 0) = true := bne_iff_ne.mpr c0
    obtain ⟨go, co, rfl, hgo', hlt, cells, hcell⟩ := Kd.R_form hG.r0 (by omega)
    obtain ⟨hx, hf⟩ := Kd.R_celln 0 hG.r0 n h0 h1
    have hput := Kd.R_putg hG.r0 n x
    have hr := hG.r0.1 go rfl
    have hne : g ≠ go := fun h => hgo (h ▸ hr)
    have k0 := kc hb 0 hb0
    have S2 := Kd.S_apart' hG.r2 (Kd.R_typed hG.r0) (by decide)
    have HP := Aside0.mk hput
    have HS2 := Aside0.mk S2
    have HR := Aside0.mk hr
    have q0 := decide_eq_true h0
    have q1 := decide_eq_true h1
    clear hG hb hput S2 hcell hr
    go_enter Try.func45, Try.ntmps45
    go_wp2
    (first | go_end0 | ((try simp only [Exit.inBlock, Exit.then]); refine bodyPost_ret (results_none rfl _ _ _) rfl ?_))
    have F1 : Fr (fun k => lo ≤ k ∧ k < hi) W (W.setCell ⟨go, n.toNat, none⟩ (.int .u32 x)) := (Fr.refl _ W).set (.inl HR.out) _
    refine ⟨rfl, ⟨HP.out.1, Kd.S_drop (Kd.S_far HS2.out (fun k hk e => hk.2 (by subst e; rfl)) _), HG.out.ge, Nat.le_trans HG.out.le F1.size⟩, blk_far HB.out hne _, F1⟩
abbrev stepC (v0 : Value) (p : Int) (v2 : Value) (fa op tc : Int) (wr ca : Bool) : Array Value := #[v0, .int .u32 p, v2, .int .i64 fa, .int .i64 op, .int .i64 tc, .bool wr, .bool ca]
def DoOk (w0 W : World) (lo hi gs : Nat) (v0 v2 : Value) (R : List Int) (P : Int) (M : List (List Int)) (op tc : Int) (wr : Bool) (e : Ending) (w' : World) : Prop :=
  e = .returned (.int .i64 0) ∧ Gst w0 w' lo hi v0 v2 R M ∧ w'.heap[gs]? = some (.cells (stepC v0 P v2 0 op tc wr false) 52 (0, 0)) ∧ Fr (fun k => (lo ≤ k ∧ k < hi) ∨ k = gs) W w'
def DoBad (W : World) (lo hi gs : Nat) (t : Int) (e : Ending) (w' : World) : Prop := e = .returned (.int .i64 t) ∧ Fr (fun k => (lo ≤ k ∧ k < hi) ∨ k = gs) W w'
structure DoIn (w0 w9 W : World) (lo hi gs : Nat) (v0 v2 : Value) (r : List Int) (p : Int) (ram : List (List Int)) (op : Int) (A : Option Addr) (c : Nat) (l : List S70) : Prop where
  g : Gst w0 W lo hi v0 v2 r ram
  b : W.heap[gs]? = some (.cells (stepC v0 p v2 0 op (-1) false false) 52 (0, 0))
  n : ¬ (lo ≤ gs ∧ gs < hi)
  r16 : r.length = 16
  cw : Kd.C k70 w0 A l.length l
  lw : l.length ≤ c
  g9 : Gst w0 w9 lo hi v0 v2 r ram
  b09 : Below w0.heap.size w0 w9
  b9 : Below w9.heap.size w9 W
  s9 : w9.heap.size ≤ gs
theorem reg_at {w0 W : World} {lo hi : Nat} {v0 v2 : Value} {r : List Int} {ram : List (List Int)} (h : Gst w0 W lo hi v0 v2 r ram) (h16 : r.length = 16) : ∃ go co, v0 = .slice (some ⟨go, 0, none⟩) 16 co ∧ go < W.heap.size ∧ (lo ≤ go ∧ go < hi) ∧ ∀ i : Int, 0 ≤ i → i ≤ 15 → W.cell? ⟨go, i.toNat, none⟩ = some (.int .u32 (rd r i)) := by
  obtain ⟨go, co, rfl, _, hlt, _⟩ := Kd.R_form h.r0 (by omega)
  refine ⟨go, co, by rw [h16], hlt, h.r0.1 go rfl, fun i h0 h1 => ?_⟩
  exact (Kd.R_celln 0 h.r0 i h0 (by omega)).1
structure DoAt (w0 W w1 : World) (lo hi gs : Nat) (v0 v2 : Value) (r : List Int) (P : Int) (ram : List (List Int)) (op tc : Int) (wr : Bool) (ib : Array Value) : Prop where
  ki : w1.heap[W.heap.size]? = some (.cells ib 89 (0, 0))
  ks : w1.heap[gs]? = some (.cells (stepC v0 P v2 0 op tc wr false) 52 (0, 0))
  g : Gst w0 w1 lo hi v0 v2 r ram
  f : Fr (fun k => (lo ≤ k ∧ k < hi) ∨ k = gs) W w1
  ng : gs < W.heap.size
  hg : hi ≤ W.heap.size
  ns : ¬ (lo ≤ gs ∧ gs < hi)
section
variable {w0 w9 W w1 w2 : World} {lo hi gs : Nat} {v0 v2 : Value} {r r' : List Int} {p P P' : Int} {ram ram' : List (List Int)} {op tc tc' : Int} {wr wr' : Bool} {ib : Array Value} {A : Option Addr} {c : Nat} {l : List S70} {nq : Nat}
theorem do_start (h : DoIn w0 w9 W lo hi gs v0 v2 r p ram op A c l) (hd : Below (((W.alloc (.cells ib 89)).drewN nq).setCell ⟨gs, 1, none⟩ (.int .u32 P)).heap.size (((W.alloc (.cells ib 89)).drewN nq).setCell ⟨gs, 1, none⟩ (.int .u32 P)) w1) : DoAt w0 W w1 lo hi gs v0 v2 r P ram op (-1) false ib := by
  have hl := blk_lt h.b
  have F0 : Fr (fun k => k = gs) W (((W.alloc (.cells ib 89)).drewN nq).setCell ⟨gs, 1, none⟩ (.int .u32 P)) := (((Fr.refl (fun k => k = gs) W).alloc (.cells ib 89)).drewN nq).set (p := ⟨gs, 1, none⟩) (.inl rfl) _
  have F1 := F0.step hd
  refine ⟨blk_below (blk_far (bq at1_0) (by intro e; simp at e; omega) _) hd, blk_below (blk_put (bq h.b) 1 _ rfl) hd, h.g.fr F1 (fun k h1 h2 h3 => h.n (h3 ▸ ⟨h1, h2⟩)), F1.mono (fun k hk => .inr hk), hl, h.g.le, h.n⟩
theorem do_start2 (hd : Below (((W.alloc (.cells ib 89)).drewN nq).setCell ⟨gs, 1, none⟩ (.int .u32 P)).heap.size (((W.alloc (.cells ib 89)).drewN nq).setCell ⟨gs, 1, none⟩ (.int .u32 P)) w1) : Fr (fun k => k = gs) W w1 :=
  ((((Fr.refl (fun k => k = gs) W).alloc (.cells ib 89)).drewN nq).set (p := ⟨gs, 1, none⟩) (.inl rfl) _).step hd
theorem reg_of {W : World} {go co : Nat} (h : Gst w0 W lo hi (.slice (some ⟨go, 0, none⟩) 16 co) v2 r ram) (h16 : r.length = 16) (i : Int) (h0 : 0 ≤ i) (h1 : i ≤ 15) : W.cell? ⟨go, i.toNat, none⟩ = some (.int .u32 (rd r i)) := by
  have h2 := h.r0
  rw [← h16] at h2
  exact (Kd.R_celln 0 h2 i h0 (by omega)).1
theorem DoAt.below (h : DoAt w0 W w1 lo hi gs v0 v2 r P ram op tc wr ib) (hb : Below w1.heap.size w1 w2) : DoAt w0 W w2 lo hi gs v0 v2 r P ram op tc wr ib :=
  ⟨blk_below h.ki hb, blk_below h.ks hb, h.g.below hb, h.f.step hb, h.ng, h.hg, h.ns⟩
theorem DoAt.set_ (h : DoAt w0 W w1 lo hi gs v0 v2 r P ram op tc wr ib) (hG : Gst w0 w2 lo hi v0 v2 r' ram') (hk : w2.heap[gs]? = some (.cells (stepC v0 P v2 0 op tc wr false) 52 (0, 0))) (hF : Fr (fun k => lo ≤ k ∧ k < hi) w1 w2) : DoAt w0 W w2 lo hi gs v0 v2 r' P ram' op tc wr ib :=
  ⟨hF.blk h.ki (by have := h.hg; omega), hk, hG, h.f.trans hF (fun k hk => .inl (.inl hk)), h.ng, h.hg, h.ns⟩
theorem DoAt.pc (h : DoAt w0 W w1 lo hi gs v0 v2 r P ram op tc wr ib) : DoAt w0 W (w1.setCell ⟨gs, 1, none⟩ (.int .u32 P')) lo hi gs v0 v2 r P' ram op tc wr ib := by
  have F : Fr (fun k => k = gs) w1 (w1.setCell ⟨gs, 1, none⟩ (.int .u32 P')) := (Fr.refl (fun k => k = gs) w1).set (p := ⟨gs, 1, none⟩) (.inl rfl) _
  exact ⟨F.blk h.ki (by have := h.ng; omega), blk_put h.ks 1 _ rfl, h.g.fr F (fun k h1 h2 h3 => h.ns (h3 ▸ ⟨h1, h2⟩)), h.f.trans F (fun k hk => .inl (.inr hk)), h.ng, h.hg, h.ns⟩
theorem DoAt.ok (h : DoAt w0 W w1 lo hi gs v0 v2 r P ram op tc wr ib) [q : Quiet w1 w2] : DoOk w0 W lo hi gs v0 v2 r P ram op tc wr (.returned (.int .i64 0)) w2 :=
  ⟨rfl, gq h.g, bq h.ks, fq h.f⟩
end
structure MemIn (w0 w9 W : World) (lo hi gs : Nat) (v0 v2 : Value) (r : List Int) (P : Int) (ram : List (List Int)) (op : Int) (A : Option Addr) (c : Nat) (l : List S70) : Prop where
  g : Gst w0 W lo hi v0 v2 r ram
  ks : W.heap[gs]? = some (.cells (stepC v0 P v2 0 op (-1) false false) 52 (0, 0))
  ns : ¬ (lo ≤ gs ∧ gs < hi)
  r16 : r.length = 16
  cw : Kd.C k70 w0 A l.length l
  lw : l.length ≤ c
  g9 : Gst w0 w9 lo hi v0 v2 r ram
  b09 : Below w0.heap.size w0 w9
  b9 : Below w9.heap.size w9 W
  s9 : w9.heap.size ≤ gs
section
variable {w0 w9 W w1 w2 : World} {lo hi gs : Nat} {v0 v2 : Value} {r r' : List Int} {p P P' : Int} {ram ram' : List (List Int)} {op tc tc' : Int} {wr wr' : Bool} {ib : Array Value} {A : Option Addr} {c : Nat} {l : List S70} {nq : Nat}
theorem MemIn.of_do (h : DoIn w0 w9 W lo hi gs v0 v2 r p ram op A c l) (d : DoAt w0 W w1 lo hi gs v0 v2 r P ram op (-1) false ib) (f : Fr (fun k => k = gs) W w1) : MemIn w0 w9 w1 lo hi gs v0 v2 r P ram op A c l :=
  ⟨d.g, d.ks, d.ns, h.r16, h.cw, h.lw, h.g9, h.b09, h.b9.trans (f.below (fun i hi => by have := h.s9; omega) h.b9.size), h.s9⟩
theorem MemIn.isB (h : MemIn w0 w9 W lo hi gs v0 v2 r P ram op A c l) {bx : Array Value} (hb : w1.heap[gs]? = some (.cells bx 52 (0, 0))) (h0 : bx[0]? = some v0) (h1 : bx[1]? = some (.int .u32 P)) (h2 : bx[2]? = some v2) : IsB w9 w1 gs bx 52 r P ram := by
  obtain ⟨A0, c0, A2, c2, rfl, rfl, _, _, q3, q4⟩ := h.g9.form
  exact ⟨hb, h.s9, A0, c0, A2, c2, h0, h1, h2, q3, q4⟩
theorem MemIn.b9' (h : MemIn w0 w9 W lo hi gs v0 v2 r P ram op A c l) (f : Fr (fun k => k = gs) W w1) : Below w9.heap.size w9 w1 := h.b9.trans (f.below (fun i hi => by have := h.s9; omega) h.b9.size)
theorem MemIn.win (h : MemIn w0 w9 W lo hi gs v0 v2 r P ram op A c l) (f : Fr (fun k => k = gs) W w1) : ∀ W_, KeepBut w1 W_ gs none → Kd.C k70 W_ A l.length l := Kd.C_foot_came k70_heap (Kd.C_below h.cw h.b09) (h.b9' f) h.s9
theorem MemIn.below0 (h : MemIn w0 w9 W lo hi gs v0 v2 r P ram op A c l) (f : Fr (fun k => k = gs) W w1) : Below w0.heap.size w0 w1 := h.b09.trans (by
  have h2 := h.b9' f
  exact ⟨h2.os, h2.tape, h2.output, h2.size, fun k hk => h2.block k (Nat.lt_of_lt_of_le hk h.b09.size)⟩)
theorem keep_fr {g : Nat} (hk : KeepBut w1 w2 g none) (h1 : Below w9.heap.size w9 w1) (h2 : Below w9.heap.size w9 w2) : Fr (fun k => k = g) w1 w2 :=
  ⟨h2.os.trans h1.os.symm, h2.tape.trans h1.tape.symm, h2.output.trans h1.output.symm, hk.1, fun k hlt hn => hk.2 k hlt hn (by simp)⟩
end
end Go.Proofs.Ytbcpkigeginmnaa.GF
end
section
namespace Go.Proofs.Ytbcpkigeginmnaa.GF
open Go.RowKit Go.Proofs.YtbcpkigeginmnaaW.PrintWords Go.Proofs.YtbcpkigeginmnaaW.PrintLast Go.Proofs.YtbcpkigeginmnaaW.PrintMore Go.Proofs.Ytbcpkigeginmnaa.Q Go.Proofs.Ytbcpkigeginmnaa.Hnd Go.Proofs.Ytbcpkigeginmnaa.Lst
section
variable {w0 w9 W w1 : World} {lo hi gs : Nat} {v0 v2 : Value} {r : List Int} {P : Int} {ram : List (List Int)} {op ad tc : Int} {wr : Bool} {ib : Array Value} {A : Option Addr} {c : Nat} {l : List S70}
theorem mem_start (h : MemIn w0 w9 W lo hi gs v0 v2 r P ram op A c l) : DoAt w0 W (((W.setCell ⟨gs, 5, none⟩ (.int .i64 ad)).setCell ⟨gs, 6, none⟩ (.bool wr)).alloc (.cells ib 89)) lo hi gs v0 v2 r P ram op ad wr ib := by
  have hl := blk_lt h.ks
  have F0 : Fr (fun k => k = gs) W (((W.setCell ⟨gs, 5, none⟩ (.int .i64 ad)).setCell ⟨gs, 6, none⟩ (.bool wr)).alloc (.cells ib 89)) := ((((Fr.refl (fun k => k = gs) W).set (p := ⟨gs, 5, none⟩) (.inl rfl) _).set (p := ⟨gs, 6, none⟩) (.inl rfl) _).alloc (.cells ib 89))
  have hz : ((W.setCell ⟨gs, 5, none⟩ (.int .i64 ad)).setCell ⟨gs, 6, none⟩ (.bool wr)).heap.size = W.heap.size := by simp
  exact ⟨by rw [← hz]; exact at1_0, bq (blk_put (blk_put h.ks 5 _ rfl) 6 _ rfl), h.g.fr F0 (fun k h1 h2 h3 => h.ns (h3 ▸ ⟨h1, h2⟩)), F0.mono (fun k hk => .inr hk), hl, h.g.le, h.ns⟩
theorem mem_fr : Fr (fun k => k = gs) W (((W.setCell ⟨gs, 5, none⟩ (.int .i64 ad)).setCell ⟨gs, 6, none⟩ (.bool wr)).alloc (.cells ib 89)) := ((((Fr.refl (fun k => k = gs) W).set (p := ⟨gs, 5, none⟩) (.inl rfl) _).set (p := ⟨gs, 6, none⟩) (.inl rfl) _).alloc (.cells ib 89))
theorem DoAt.keep {w2 : World} (h : DoAt w0 W w1 lo hi gs v0 v2 r P ram op tc wr ib) (hk : w2.heap[gs]? = some (.cells (stepC v0 P v2 0 op tc wr false) 52 (0, 0))) (f : Fr (fun k => k = gs) w1 w2) : DoAt w0 W w2 lo hi gs v0 v2 r P ram op tc wr ib :=
  ⟨f.blk h.ki (by have := h.ng; omega), hk, h.g.fr f (fun k h1 h2 h3 => h.ns (h3 ▸ ⟨h1, h2⟩)), h.f.trans f (fun k hk => .inl (.inr hk)), h.ng, h.hg, h.ns⟩
end
set_option maxHeartbeats 2000000 in
set_option maxRecDepth 100000 in
theorem mem_15_ok (w0 w9 W : World) (lo hi gs : Nat) (v0 v2 : Value) (r : List Int) (P : Int) (ram : List (List Int)) (A : Option Addr) (c : Nat) (l : List S70) (a b cc im ad : Int) (x : Int) (K : Nat) (hl : impl_Guest_load.f K r P ram l ad 4 1 = some (x, 0, P)) (h : MemIn w0 w9 W lo hi gs v0 v2 r P ram 15 A c l) (ha : 0 ≤ a ∧ a ≤ 15) (d0 : 0 ≤ ad) (d1 : ad < 4294967296) :
    Calls Try.prog 101 #[.pointer (some ⟨gs, 0, none⟩), .slice A l.length c, .agg #[.int .i64 15, .int .i64 a, .int .i64 b, .int .i64 cc, .int .i64 im], .int .u32 ad] W (DoOk w0 W lo hi gs v0 v2 (setR r a x) P ram 15 ad false) := by
  have hu89 := Try.underlying89
  have hu52 := Try.underlying52
  have hu28 := Try.underlying28
  obtain ⟨go, co, rfl, hlt, hin, hcel⟩ := reg_at h.g h.r16
  have x0 := kc h.ks 0 rfl
  have x5 := kc h.ks 5 rfl
  have x6 := kc h.ks 6 rfl
  have f5 := blk_frozen h.ks 5
  have f6 := blk_frozen h.ks 6
  have hw1 := World.new_ne W _ x0
  have hw2 := World.new_ne W _ x5
  have H := Aside0.mk h
  have HL := Aside0.mk hl
  have HA := Aside0.mk ha
  have HIN := Aside0.mk hin
  have HNE := Aside0.mk (show go ≠ gs from fun e => h.ns (e ▸ hin))
  have HR16 := Aside0.mk h.r16
  have a0 : 0 ≤ a := ha.1
  have a1 : a < 16 := by omega
  have hgsl := blk_lt h.ks
  clear h hl ha hcel hin 
  go_enter Try.func101, Try.ntmps101
  go_wp2_with (first | (go_at_call 59; have D1 := Aside0.mk (mem_start (ib := #[.int .i64 15, .int .i64 a, .int .i64 b, .int .i64 cc, .int .i64 im]) (ad := ad) (wr := false) H.out); have FX := Aside0.mk (mem_fr (W := W) (gs := gs) (ib := #[.int .i64 15, .int .i64 a, .int .i64 b, .int .i64 cc, .int .i64 im]) (ad := ad) (wr := false)); refine (load_any K gs 52 (stepC (.slice (some ⟨go, 0, none⟩) 16 co) P v2 0 15 ad false false) r P ram A c l ad 4 1 x 0 P w9 _ (H.out.isB D1.out.ks rfl rfl rfl) (H.out.b9' FX.out) (H.out.win FX.out) H.out.lw HL.out).mono ?_; rintro e w1 ⟨rfl, hI, hb, hk⟩; have D2 := Aside0.mk (D1.out.keep hI.1 (keep_fr hk (H.out.b9' FX.out) hb)); clear hI hb hk; (try clear x0 x5 x6 f5 f6 hw1 hw2); have y0 := kc D2.out.ki 0 rfl; have y1 := kc D2.out.ki 1 rfl; have y2 := kc D2.out.ki 2 rfl; have y3 := kc D2.out.ki 3 rfl; have y4 := kc D2.out.ki 4 rfl; have s0 := kc D2.out.ks 0 rfl; have s6 := kc D2.out.ks 6 rfl) | (go_at_call 45; refine (set_any w0 _ lo hi gs 52 _ _ v2 r ram a _ D2.out.g D2.out.ks rfl (by decide) D2.out.ns HA.out.1 (by have := HA.out; have := HR16.out; omega)).mono ?_; rintro e w3 ⟨rfl, hG, hk, hF⟩; have D3 := Aside0.mk (D2.out.set_ hG hk hF); clear hG hk hF; (try clear y0 y1 y2 y3 y4 s0 s6); have y0 := kc D3.out.ki 0 rfl; have y1 := kc D3.out.ki 1 rfl; have y2 := kc D3.out.ki 2 rfl; have y3 := kc D3.out.ki 3 rfl; have y4 := kc D3.out.ki 4 rfl; have s0 := kc D3.out.ks 0 rfl; have s6 := kc D3.out.ks 6 rfl))
  refine bodyPost_ret (v := .int .i64 0) (by simp [results, Try.results101, go_sem]) rfl ?_
  exact D3.out.ok
set_option maxHeartbeats 2000000 in
set_option maxRecDepth 100000 in
theorem mem_15_no (w0 w9 W : World) (lo hi gs : Nat) (v0 v2 : Value) (r : List Int) (P : Int) (ram : List (List Int)) (A : Option Addr) (c : Nat) (l : List S70) (a b cc im ad : Int) (t : Int) (ht : t ≠ 0) (K : Nat) (hl : impl_Guest_load.f K r P ram l ad 4 1 = some (0, t, P)) (h : MemIn w0 w9 W lo hi gs v0 v2 r P ram 15 A c l) (ha : 0 ≤ a ∧ a ≤ 15) (d0 : 0 ≤ ad) (d1 : ad < 4294967296) :
    Calls Try.prog 101 #[.pointer (some ⟨gs, 0, none⟩), .slice A l.length c, .agg #[.int .i64 15, .int .i64 a, .int .i64 b, .int .i64 cc, .int .i64 im], .int .u32 ad] W (DoBad W lo hi gs t) := by
  have hu89 := Try.underlying89
  have hu52 := Try.underlying52
  have hu28 := Try.underlying28
  obtain ⟨go, co, rfl, hlt, hin, hcel⟩ := reg_at h.g h.r16
  have x0 := kc h.ks 0 rfl
  have x5 := kc h.ks 5 rfl
  have x6 := kc h.ks 6 rfl
  have f5 := blk_frozen h.ks 5
  have f6 := blk_frozen h.ks 6
  have hw1 := World.new_ne W _ x0
  have hw2 := World.new_ne W _ x5
  have H := Aside0.mk h
  have HL := Aside0.mk hl
  have HA := Aside0.mk ha
  have HIN := Aside0.mk hin
  have HNE := Aside0.mk (show go ≠ gs from fun e => h.ns (e ▸ hin))
  have HR16 := Aside0.mk h.r16
  have a0 : 0 ≤ a := ha.1
  have a1 : a < 16 := by omega
  have hgsl := blk_lt h.ks
  have HT := Aside0.mk ht
  clear h hl ha hcel hin ht
  go_enter Try.func101, Try.ntmps101
  go_wp2_with (first | (go_at_call 59; have D1 := Aside0.mk (mem_start (ib := #[.int .i64 15, .int .i64 a, .int .i64 b, .int .i64 cc, .int .i64 im]) (ad := ad) (wr := false) H.out); have FX := Aside0.mk (mem_fr (W := W) (gs := gs) (ib := #[.int .i64 15, .int .i64 a, .int .i64 b, .int .i64 cc, .int .i64 im]) (ad := ad) (wr := false)); refine (load_any K gs 52 (stepC (.slice (some ⟨go, 0, none⟩) 16 co) P v2 0 15 ad false false) r P ram A c l ad 4 1 0 t P w9 _ (H.out.isB D1.out.ks rfl rfl rfl) (H.out.b9' FX.out) (H.out.win FX.out) H.out.lw HL.out).mono ?_; rintro e w1 ⟨rfl, hI, hb, hk⟩; have D2 := Aside0.mk (D1.out.keep hI.1 (keep_fr hk (H.out.b9' FX.out) hb)); clear hI hb hk; (try clear x0 x5 x6 f5 f6 hw1 hw2); have y0 := kc D2.out.ki 0 rfl; have y1 := kc D2.out.ki 1 rfl; have y2 := kc D2.out.ki 2 rfl; have y3 := kc D2.out.ki 3 rfl; have y4 := kc D2.out.ki 4 rfl; have s0 := kc D2.out.ks 0 rfl; have s6 := kc D2.out.ks 6 rfl) | (go_at_call 45; refine (set_any w0 _ lo hi gs 52 _ _ v2 r ram a _ D2.out.g D2.out.ks rfl (by decide) D2.out.ns HA.out.1 (by have := HA.out; have := HR16.out; omega)).mono ?_; rintro e w3 ⟨rfl, hG, hk, hF⟩; have D3 := Aside0.mk (D2.out.set_ hG hk hF); clear hG hk hF; (try clear y0 y1 y2 y3 y4 s0 s6); have y0 := kc D3.out.ki 0 rfl; have y1 := kc D3.out.ki 1 rfl; have y2 := kc D3.out.ki 2 rfl; have y3 := kc D3.out.ki 3 rfl; have y4 := kc D3.out.ki 4 rfl; have s0 := kc D3.out.ks 0 rfl; have s6 := kc D3.out.ks 6 rfl))
  refine bodyPost_ret (v := .int .i64 t) (by simp [results, Try.results101, go_sem]) rfl ?_
  exact ⟨rfl, fq D3.out.f⟩
set_option maxHeartbeats 2000000 in
set_option maxRecDepth 100000 in
theorem mem_17_ok (w0 w9 W : World) (lo hi gs : Nat) (v0 v2 : Value) (r : List Int) (P : Int) (ram : List (List Int)) (A : Option Addr) (c : Nat) (l : List S70) (a b cc im ad : Int) (x : Int) (K : Nat) (hl : impl_Guest_load.f K r P ram l ad 1 1 = some (x, 0, P)) (h : MemIn w0 w9 W lo hi gs v0 v2 r P ram 17 A c l) (ha : 0 ≤ a ∧ a ≤ 15) (d0 : 0 ≤ ad) (d1 : ad < 4294967296) :
    Calls Try.prog 101 #[.pointer (some ⟨gs, 0, none⟩), .slice A l.length c, .agg #[.int .i64 17, .int .i64 a, .int .i64 b, .int .i64 cc, .int .i64 im], .int .u32 ad] W (DoOk w0 W lo hi gs v0 v2 (setR r a x) P ram 17 ad false) := by
  have hu89 := Try.underlying89
  have hu52 := Try.underlying52
  have hu28 := Try.underlying28
  obtain ⟨go, co, rfl, hlt, hin, hcel⟩ := reg_at h.g h.r16
  have x0 := kc h.ks 0 rfl
  have x5 := kc h.ks 5 rfl
  have x6 := kc h.ks 6 rfl
  have f5 := blk_frozen h.ks 5
  have f6 := blk_frozen h.ks 6
  have hw1 := World.new_ne W _ x0
  have hw2 := World.new_ne W _ x5
  have H := Aside0.mk h
  have HL := Aside0.mk hl
  have HA := Aside0.mk ha
  have HIN := Aside0.mk hin
  have HNE := Aside0.mk (show go ≠ gs from fun e => h.ns (e ▸ hin))
  have HR16 := Aside0.mk h.r16
  have a0 : 0 ≤ a := ha.1
  have a1 : a < 16 := by omega
  have hgsl := blk_lt h.ks
  clear h hl ha hcel hin 
  go_enter Try.func101, Try.ntmps101
  go_wp2_with (first | (go_at_call 59; have D1 := Aside0.mk (mem_start (ib := #[.int .i64 17, .int .i64 a, .int .i64 b, .int .i64 cc, .int .i64 im]) (ad := ad) (wr := false) H.out); have FX := Aside0.mk (mem_fr (W := W) (gs := gs) (ib := #[.int .i64 17, .int .i64 a, .int .i64 b, .int .i64 cc, .int .i64 im]) (ad := ad) (wr := false)); refine (load_any K gs 52 (stepC (.slice (some ⟨go, 0, none⟩) 16 co) P v2 0 17 ad false false) r P ram A c l ad 1 1 x 0 P w9 _ (H.out.isB D1.out.ks rfl rfl rfl) (H.out.b9' FX.out) (H.out.win FX.out) H.out.lw HL.out).mono ?_; rintro e w1 ⟨rfl, hI, hb, hk⟩; have D2 := Aside0.mk (D1.out.keep hI.1 (keep_fr hk (H.out.b9' FX.out) hb)); clear hI hb hk; (try clear x0 x5 x6 f5 f6 hw1 hw2); have y0 := kc D2.out.ki 0 rfl; have y1 := kc D2.out.ki 1 rfl; have y2 := kc D2.out.ki 2 rfl; have y3 := kc D2.out.ki 3 rfl; have y4 := kc D2.out.ki 4 rfl; have s0 := kc D2.out.ks 0 rfl; have s6 := kc D2.out.ks 6 rfl) | (go_at_call 45; refine (set_any w0 _ lo hi gs 52 _ _ v2 r ram a _ D2.out.g D2.out.ks rfl (by decide) D2.out.ns HA.out.1 (by have := HA.out; have := HR16.out; omega)).mono ?_; rintro e w3 ⟨rfl, hG, hk, hF⟩; have D3 := Aside0.mk (D2.out.set_ hG hk hF); clear hG hk hF; (try clear y0 y1 y2 y3 y4 s0 s6); have y0 := kc D3.out.ki 0 rfl; have y1 := kc D3.out.ki 1 rfl; have y2 := kc D3.out.ki 2 rfl; have y3 := kc D3.out.ki 3 rfl; have y4 := kc D3.out.ki 4 rfl; have s0 := kc D3.out.ks 0 rfl; have s6 := kc D3.out.ks 6 rfl))
  refine bodyPost_ret (v := .int .i64 0) (by simp [results, Try.results101, go_sem]) rfl ?_
  exact D3.out.ok
set_option maxHeartbeats 2000000 in
set_option maxRecDepth 100000 in
theorem mem_17_no (w0 w9 W : World) (lo hi gs : Nat) (v0 v2 : Value) (r : List Int) (P : Int) (ram : List (List Int)) (A : Option Addr) (c : Nat) (l : List S70) (a b cc im ad : Int) (t : Int) (ht : t ≠ 0) (K : Nat) (hl : impl_Guest_load.f K r P ram l ad 1 1 = some (0, t, P)) (h : MemIn w0 w9 W lo hi gs v0 v2 r P ram 17 A c l) (ha : 0 ≤ a ∧ a ≤ 15) (d0 : 0 ≤ ad) (d1 : ad < 4294967296) :
    Calls Try.prog 101 #[.pointer (some ⟨gs, 0, none⟩), .slice A l.length c, .agg #[.int .i64 17, .int .i64 a, .int .i64 b, .int .i64 cc, .int .i64 im], .int .u32 ad] W (DoBad W lo hi gs t) := by
  have hu89 := Try.underlying89
  have hu52 := Try.underlying52
  have hu28 := Try.underlying28
  obtain ⟨go, co, rfl, hlt, hin, hcel⟩ := reg_at h.g h.r16
  have x0 := kc h.ks 0 rfl
  have x5 := kc h.ks 5 rfl
  have x6 := kc h.ks 6 rfl
  have f5 := blk_frozen h.ks 5
  have f6 := blk_frozen h.ks 6
  have hw1 := World.new_ne W _ x0
  have hw2 := World.new_ne W _ x5
  have H := Aside0.mk h
  have HL := Aside0.mk hl
  have HA := Aside0.mk ha
  have HIN := Aside0.mk hin
  have HNE := Aside0.mk (show go ≠ gs from fun e => h.ns (e ▸ hin))
  have HR16 := Aside0.mk h.r16
  have a0 : 0 ≤ a := ha.1
  have a1 : a < 16 := by omega
  have hgsl := blk_lt h.ks
  have HT := Aside0.mk ht
  clear h hl ha hcel hin ht
  go_enter Try.func101, Try.ntmps101
  go_wp2_with (first | (go_at_call 59; have D1 := Aside0.mk (mem_start (ib := #[.int .i64 17, .int .i64 a, .int .i64 b, .int .i64 cc, .int .i64 im]) (ad := ad) (wr := false) H.out); have FX := Aside0.mk (mem_fr (W := W) (gs := gs) (ib := #[.int .i64 17, .int .i64 a, .int .i64 b, .int .i64 cc, .int .i64 im]) (ad := ad) (wr := false)); refine (load_any K gs 52 (stepC (.slice (some ⟨go, 0, none⟩) 16 co) P v2 0 17 ad false false) r P ram A c l ad 1 1 0 t P w9 _ (H.out.isB D1.out.ks rfl rfl rfl) (H.out.b9' FX.out) (H.out.win FX.out) H.out.lw HL.out).mono ?_; rintro e w1 ⟨rfl, hI, hb, hk⟩; have D2 := Aside0.mk (D1.out.keep hI.1 (keep_fr hk (H.out.b9' FX.out) hb)); clear hI hb hk; (try clear x0 x5 x6 f5 f6 hw1 hw2); have y0 := kc D2.out.ki 0 rfl; have y1 := kc D2.out.ki 1 rfl; have y2 := kc D2.out.ki 2 rfl; have y3 := kc D2.out.ki 3 rfl; have y4 := kc D2.out.ki 4 rfl; have s0 := kc D2.out.ks 0 rfl; have s6 := kc D2.out.ks 6 rfl) | (go_at_call 45; refine (set_any w0 _ lo hi gs 52 _ _ v2 r ram a _ D2.out.g D2.out.ks rfl (by decide) D2.out.ns HA.out.1 (by have := HA.out; have := HR16.out; omega)).mono ?_; rintro e w3 ⟨rfl, hG, hk, hF⟩; have D3 := Aside0.mk (D2.out.set_ hG hk hF); clear hG hk hF; (try clear y0 y1 y2 y3 y4 s0 s6); have y0 := kc D3.out.ki 0 rfl; have y1 := kc D3.out.ki 1 rfl; have y2 := kc D3.out.ki 2 rfl; have y3 := kc D3.out.ki 3 rfl; have y4 := kc D3.out.ki 4 rfl; have s0 := kc D3.out.ks 0 rfl; have s6 := kc D3.out.ks 6 rfl))
  refine bodyPost_ret (v := .int .i64 t) (by simp [results, Try.results101, go_sem]) rfl ?_
  exact ⟨rfl, fq D3.out.f⟩
set_option maxHeartbeats 2000000 in
set_option maxRecDepth 100000 in
theorem mem_16_ok (w0 w9 W : World) (lo hi gs : Nat) (v0 v2 : Value) (r : List Int) (P : Int) (ram : List (List Int)) (A : Option Addr) (c : Nat) (l : List S70) (a b cc im ad : Int) (i o K : Nat) (bs : List Int) (hl : PutAt K l ram ad (rd r a) 4 i o bs) (h : MemIn w0 w9 W lo hi gs v0 v2 r P ram 16 A c l) (ha : 0 ≤ a ∧ a ≤ 15) (d0 : 0 ≤ ad) (d1 : ad < 4294967296) :
    Calls Try.prog 101 #[.pointer (some ⟨gs, 0, none⟩), .slice A l.length c, .agg #[.int .i64 16, .int .i64 a, .int .i64 b, .int .i64 cc, .int .i64 im], .int .u32 ad] W (DoOk w0 W lo hi gs v0 v2 r P (stM ram i o bs 4) 16 ad true) := by
  have hu89 := Try.underlying89
  have hu52 := Try.underlying52
  have hu28 := Try.underlying28
  obtain ⟨go, co, rfl, hlt, hin, hcel⟩ := reg_at h.g h.r16
  have x0 := kc h.ks 0 rfl
  have x5 := kc h.ks 5 rfl
  have x6 := kc h.ks 6 rfl
  have f5 := blk_frozen h.ks 5
  have f6 := blk_frozen h.ks 6
  have hw1 := World.new_ne W _ x0
  have hw2 := World.new_ne W _ x5
  have H := Aside0.mk h
  have HL := Aside0.mk hl
  have HA := Aside0.mk ha
  have HIN := Aside0.mk hin
  have HNE := Aside0.mk (show go ≠ gs from fun e => h.ns (e ▸ hin))
  have HR16 := Aside0.mk h.r16
  have a0 : 0 ≤ a := ha.1
  have a1 : a < 16 := by omega
  have hgsl := blk_lt h.ks
  have ca := hcel a ha.1 ha.2
  have hne : gs ≠ go := fun e => h.ns (e ▸ hin)
  have hw3 := World.new_ne W _ ca
  clear h hl ha hcel hin 
  go_enter Try.func101, Try.ntmps101
  have D1 := Aside0.mk (mem_start (ib := #[.int .i64 16, .int .i64 a, .int .i64 b, .int .i64 cc, .int .i64 im]) (ad := ad) (wr := true) H.out)
  have FX := Aside0.mk (mem_fr (W := W) (gs := gs) (ib := #[.int .i64 16, .int .i64 a, .int .i64 b, .int .i64 cc, .int .i64 im]) (ad := ad) (wr := true))
  have t0 := kc D1.out.ks 0 rfl
  have t1 := kc D1.out.ki 1 rfl
  have t2 := reg_of D1.out.g HR16.out a HA.out.1 HA.out.2
  go_wp2
  go_region_held3 (fun w' => w'.cell? ⟨gs, 0, none⟩ = some (.slice (some ⟨go, 0, none⟩) 16 co) ∧ w'.cell? ⟨W.heap.size, 1, none⟩ = some (.int .i64 a) ∧ w'.cell? ⟨go, a.toNat, none⟩ = some (.int .u32 (rd r a))) (first | exact ⟨t0, t1, t2⟩ | exact ⟨z0, z1, z2⟩ | go_keep) ((first | (go_at_call 63; refine (store_calls w0 _ lo hi gs 52 (stepC (.slice (some ⟨go, 0, none⟩) 16 co) P v2 0 16 ad true false) _ v2 r ram A c l ad (rd r a) 4 i o K bs (lq (H.out.below0 FX.out)) (gq D1.out.g) H.out.cw H.out.lw (bq D1.out.ks) rfl D1.out.ns HL.out.fai HL.out.ati HL.out.bsi HL.out.i1 HL.out.i2 HL.out.ho HL.out.s0 HL.out.s4 HL.out.b4 HL.out.os HL.out.le).mono ?_; rintro e w1 ⟨rfl, hG, hF⟩; have D2 := Aside0.mk (((D1.out.below (Quiet.go))).set_ hG (hF.blk (bq D1.out.ks) D1.out.ns) hF); clear hG hF; have z0 := kc D2.out.ks 0 rfl; have z1 := kc D2.out.ki 1 rfl; have z2 := reg_of D2.out.g HR16.out a HA.out.1 HA.out.2)))
  go_wp2
  refine bodyPost_ret (v := .int .i64 0) (by simp [results, Try.results101, go_sem]) rfl ?_
  exact D2.out.ok
set_option maxHeartbeats 2000000 in
set_option maxRecDepth 100000 in
theorem mem_16_no (w0 w9 W : World) (lo hi gs : Nat) (v0 v2 : Value) (r : List Int) (P : Int) (ram : List (List Int)) (A : Option Addr) (c : Nat) (l : List S70) (a b cc im ad : Int) (t : Int) (ht : t ≠ 0) (K : Nat) (hl : impl_faultAt.f K l ad 4 2 = some t) (h : MemIn w0 w9 W lo hi gs v0 v2 r P ram 16 A c l) (ha : 0 ≤ a ∧ a ≤ 15) (d0 : 0 ≤ ad) (d1 : ad < 4294967296) :
    Calls Try.prog 101 #[.pointer (some ⟨gs, 0, none⟩), .slice A l.length c, .agg #[.int .i64 16, .int .i64 a, .int .i64 b, .int .i64 cc, .int .i64 im], .int .u32 ad] W (DoBad W lo hi gs t) := by
  have hu89 := Try.underlying89
  have hu52 := Try.underlying52
  have hu28 := Try.underlying28
  obtain ⟨go, co, rfl, hlt, hin, hcel⟩ := reg_at h.g h.r16
  have x0 := kc h.ks 0 rfl
  have x5 := kc h.ks 5 rfl
  have x6 := kc h.ks 6 rfl
  have f5 := blk_frozen h.ks 5
  have f6 := blk_frozen h.ks 6
  have hw1 := World.new_ne W _ x0
  have hw2 := World.new_ne W _ x5
  have H := Aside0.mk h
  have HL := Aside0.mk hl
  have HA := Aside0.mk ha
  have HIN := Aside0.mk hin
  have HNE := Aside0.mk (show go ≠ gs from fun e => h.ns (e ▸ hin))
  have HR16 := Aside0.mk h.r16
  have a0 : 0 ≤ a := ha.1
  have a1 : a < 16 := by omega
  have hgsl := blk_lt h.ks
  have ca := hcel a ha.1 ha.2
  have hne : gs ≠ go := fun e => h.ns (e ▸ hin)
  have hw3 := World.new_ne W _ ca
  have HT := Aside0.mk ht
  clear h hl ha hcel hin ht
  go_enter Try.func101, Try.ntmps101
  have D1 := Aside0.mk (mem_start (ib := #[.int .i64 16, .int .i64 a, .int .i64 b, .int .i64 cc, .int .i64 im]) (ad := ad) (wr := true) H.out)
  have FX := Aside0.mk (mem_fr (W := W) (gs := gs) (ib := #[.int .i64 16, .int .i64 a, .int .i64 b, .int .i64 cc, .int .i64 im]) (ad := ad) (wr := true))
  have t0 := kc D1.out.ks 0 rfl
  have t1 := kc D1.out.ki 1 rfl
  have t2 := reg_of D1.out.g HR16.out a HA.out.1 HA.out.2
  go_wp2
  go_region_held3 (fun w' => w'.cell? ⟨gs, 0, none⟩ = some (.slice (some ⟨go, 0, none⟩) 16 co) ∧ w'.cell? ⟨W.heap.size, 1, none⟩ = some (.int .i64 a) ∧ w'.cell? ⟨go, a.toNat, none⟩ = some (.int .u32 (rd r a))) (first | exact ⟨t0, t1, t2⟩ | exact ⟨z0, z1, z2⟩ | go_keep) ((first | (go_at_call 63; refine (store_fault w0 _ gs A c l ad (rd r a) 4 t K (lq (H.out.below0 FX.out)) H.out.cw H.out.lw HL.out HT.out).mono ?_; rintro e w1 ⟨rfl, hb⟩; have D2 := Aside0.mk (D1.out.below (Below.trans Quiet.go hb)); clear hb; have z0 := kc D2.out.ks 0 rfl; have z1 := kc D2.out.ki 1 rfl; have z2 := reg_of D2.out.g HR16.out a HA.out.1 HA.out.2)))
  go_wp2
  refine bodyPost_ret (v := .int .i64 t) (by simp [results, Try.results101, go_sem]) rfl ?_
  exact ⟨rfl, fq D2.out.f⟩
set_option maxHeartbeats 2000000 in
set_option maxRecDepth 100000 in
theorem mem_18_ok (w0 w9 W : World) (lo hi gs : Nat) (v0 v2 : Value) (r : List Int) (P : Int) (ram : List (List Int)) (A : Option Addr) (c : Nat) (l : List S70) (a b cc im ad : Int) (i o K : Nat) (bs : List Int) (hl : PutAt K l ram ad (rd r a) 1 i o bs) (h : MemIn w0 w9 W lo hi gs v0 v2 r P ram 18 A c l) (ha : 0 ≤ a ∧ a ≤ 15) (d0 : 0 ≤ ad) (d1 : ad < 4294967296) :
    Calls Try.prog 101 #[.pointer (some ⟨gs, 0, none⟩), .slice A l.length c, .agg #[.int .i64 18, .int .i64 a, .int .i64 b, .int .i64 cc, .int .i64 im], .int .u32 ad] W (DoOk w0 W lo hi gs v0 v2 r P (stM ram i o bs 1) 18 ad true) := by
  have hu89 := Try.underlying89
  have hu52 := Try.underlying52
  have hu28 := Try.underlying28
  obtain ⟨go, co, rfl, hlt, hin, hcel⟩ := reg_at h.g h.r16
  have x0 := kc h.ks 0 rfl
  have x5 := kc h.ks 5 rfl
  have x6 := kc h.ks 6 rfl
  have f5 := blk_frozen h.ks 5
  have f6 := blk_frozen h.ks 6
  have hw1 := World.new_ne W _ x0
  have hw2 := World.new_ne W _ x5
  have H := Aside0.mk h
  have HL := Aside0.mk hl
  have HA := Aside0.mk ha
  have HIN := Aside0.mk hin
  have HNE := Aside0.mk (show go ≠ gs from fun e => h.ns (e ▸ hin))
  have HR16 := Aside0.mk h.r16
  have a0 : 0 ≤ a := ha.1
  have a1 : a < 16 := by omega
  have hgsl := blk_lt h.ks
  have ca := hcel a ha.1 ha.2
  have hne : gs ≠ go := fun e => h.ns (e ▸ hin)
  have hw3 := World.new_ne W _ ca
  clear h hl ha hcel hin 
  go_enter Try.func101, Try.ntmps101
  have D1 := Aside0.mk (mem_start (ib := #[.int .i64 18, .int .i64 a, .int .i64 b, .int .i64 cc, .int .i64 im]) (ad := ad) (wr := true) H.out)
  have FX := Aside0.mk (mem_fr (W := W) (gs := gs) (ib := #[.int .i64 18, .int .i64 a, .int .i64 b, .int .i64 cc, .int .i64 im]) (ad := ad) (wr := true))
  have t0 := kc D1.out.ks 0 rfl
  have t1 := kc D1.out.ki 1 rfl
  have t2 := reg_of D1.out.g HR16.out a HA.out.1 HA.out.2
  go_wp2
  go_region_held3 (fun w' => w'.cell? ⟨gs, 0, none⟩ = some (.slice (some ⟨go, 0, none⟩) 16 co) ∧ w'.cell? ⟨W.heap.size, 1, none⟩ = some (.int .i64 a) ∧ w'.cell? ⟨go, a.toNat, none⟩ = some (.int .u32 (rd r a))) (first | exact ⟨t0, t1, t2⟩ | exact ⟨z0, z1, z2⟩ | go_keep) ((first | (go_at_call 63; refine (store_calls w0 _ lo hi gs 52 (stepC (.slice (some ⟨go, 0, none⟩) 16 co) P v2 0 18 ad true false) _ v2 r ram A c l ad (rd r a) 1 i o K bs (lq (H.out.below0 FX.out)) (gq D1.out.g) H.out.cw H.out.lw (bq D1.out.ks) rfl D1.out.ns HL.out.fai HL.out.ati HL.out.bsi HL.out.i1 HL.out.i2 HL.out.ho HL.out.s0 HL.out.s4 HL.out.b4 HL.out.os HL.out.le).mono ?_; rintro e w1 ⟨rfl, hG, hF⟩; have D2 := Aside0.mk (((D1.out.below (Quiet.go))).set_ hG (hF.blk (bq D1.out.ks) D1.out.ns) hF); clear hG hF; have z0 := kc D2.out.ks 0 rfl; have z1 := kc D2.out.ki 1 rfl; have z2 := reg_of D2.out.g HR16.out a HA.out.1 HA.out.2)))
  go_wp2
  refine bodyPost_ret (v := .int .i64 0) (by simp [results, Try.results101, go_sem]) rfl ?_
  exact D2.out.ok
set_option maxHeartbeats 2000000 in
set_option maxRecDepth 100000 in
theorem mem_18_no (w0 w9 W : World) (lo hi gs : Nat) (v0 v2 : Value) (r : List Int) (P : Int) (ram : List (List Int)) (A : Option Addr) (c : Nat) (l : List S70) (a b cc im ad : Int) (t : Int) (ht : t ≠ 0) (K : Nat) (hl : impl_faultAt.f K l ad 1 2 = some t) (h : MemIn w0 w9 W lo hi gs v0 v2 r P ram 18 A c l) (ha : 0 ≤ a ∧ a ≤ 15) (d0 : 0 ≤ ad) (d1 : ad < 4294967296) :
    Calls Try.prog 101 #[.pointer (some ⟨gs, 0, none⟩), .slice A l.length c, .agg #[.int .i64 18, .int .i64 a, .int .i64 b, .int .i64 cc, .int .i64 im], .int .u32 ad] W (DoBad W lo hi gs t) := by
  have hu89 := Try.underlying89
  have hu52 := Try.underlying52
  have hu28 := Try.underlying28
  obtain ⟨go, co, rfl, hlt, hin, hcel⟩ := reg_at h.g h.r16
  have x0 := kc h.ks 0 rfl
  have x5 := kc h.ks 5 rfl
  have x6 := kc h.ks 6 rfl
  have f5 := blk_frozen h.ks 5
  have f6 := blk_frozen h.ks 6
  have hw1 := World.new_ne W _ x0
  have hw2 := World.new_ne W _ x5
  have H := Aside0.mk h
  have HL := Aside0.mk hl
  have HA := Aside0.mk ha
  have HIN := Aside0.mk hin
  have HNE := Aside0.mk (show go ≠ gs from fun e => h.ns (e ▸ hin))
  have HR16 := Aside0.mk h.r16
  have a0 : 0 ≤ a := ha.1
  have a1 : a < 16 := by omega
  have hgsl := blk_lt h.ks
  have ca := hcel a ha.1 ha.2
  have hne : gs ≠ go := fun e => h.ns (e ▸ hin)
  have hw3 := World.new_ne W _ ca
  have HT := Aside0.mk ht
  clear h hl ha hcel hin ht
  go_enter Try.func101, Try.ntmps101
  have D1 := Aside0.mk (mem_start (ib := #[.int .i64 18, .int .i64 a, .int .i64 b, .int .i64 cc, .int .i64 im]) (ad := ad) (wr := true) H.out)
  have FX := Aside0.mk (mem_fr (W := W) (gs := gs) (ib := #[.int .i64 18, .int .i64 a, .int .i64 b, .int .i64 cc, .int .i64 im]) (ad := ad) (wr := true))
  have t0 := kc D1.out.ks 0 rfl
  have t1 := kc D1.out.ki 1 rfl
  have t2 := reg_of D1.out.g HR16.out a HA.out.1 HA.out.2
  go_wp2
  go_region_held3 (fun w' => w'.cell? ⟨gs, 0, none⟩ = some (.slice (some ⟨go, 0, none⟩) 16 co) ∧ w'.cell? ⟨W.heap.size, 1, none⟩ = some (.int .i64 a) ∧ w'.cell? ⟨go, a.toNat, none⟩ = some (.int .u32 (rd r a))) (first | exact ⟨t0, t1, t2⟩ | exact ⟨z0, z1, z2⟩ | go_keep) ((first | (go_at_call 63; refine (store_fault w0 _ gs A c l ad (rd r a) 1 t K (lq (H.out.below0 FX.out)) H.out.cw H.out.lw HL.out HT.out).mono ?_; rintro e w1 ⟨rfl, hb⟩; have D2 := Aside0.mk (D1.out.below (Below.trans Quiet.go hb)); clear hb; have z0 := kc D2.out.ks 0 rfl; have z1 := kc D2.out.ki 1 rfl; have z2 := reg_of D2.out.g HR16.out a HA.out.1 HA.out.2)))
  go_wp2
  refine bodyPost_ret (v := .int .i64 t) (by simp [results, Try.results101, go_sem]) rfl ?_
  exact ⟨rfl, fq D2.out.f⟩
end Go.Proofs.Ytbcpkigeginmnaa.GF
end
