/- Poke of the reference and of the program, walked by hand. -/
import Derived.Test.YtbcpkigeginmnaaGFx7K
import Derived.Test.YtbcpkigeginmnaaGFx9K
import Derived.Test.YtbcpkigeginmnaaGFx16K
import Derived.Test.YtbcpkigeginmnaaGFx18K
import Derived.Test.YtbcpkigeginmnaaGFx20K
import Derived.Test.YtbcpkigeginmnaaMrgK
import Derived.Test.YtbcpkigeginmnaaPstK
namespace Go.Proofs.Ytbcpkigeginmnaa.GF
open Go.RowKit Go.Proofs.YtbcpkigeginmnaaW.PrintWords Go.Proofs.YtbcpkigeginmnaaW.PrintLast Go.Proofs.YtbcpkigeginmnaaW.PrintMore Go.Proofs.Ytbcpkigeginmnaa.Q Go.Proofs.Ytbcpkigeginmnaa.Hnd Go.Proofs.Ytbcpkigeginmnaa.Lst
set_option linter.unusedVariables false
set_option linter.unusedSimpArgs false
/-- A place that meets no fault, as both texts come to it: the window, where in it, and the word's bytes. -/
structure PutAt (K : Nat) (l : List S70) (ram : List (List Int)) (a x : Int) (s i o : Nat) (bs : List Int) : Prop where
  ats : spec_l07At.f K l (wrap64 a) = some (i : Int)
  ati : impl_windowAt.f l (wrap64 a) = some (i : Int)
  fai : impl_faultAt.f K l a (s : Int) 2 = some 0
  fas : spec_FaultAt.f K l a (s : Int) 2 = some 0
  bss : spec_BytesOf.f x = some bs
  bsi : impl_BytesOf.f x = some bs
  i1 : i < l.length
  i2 : i < ram.length
  ho : wrap64 a - (rd_T70 l (i : Int)).f0 = (o : Int)
  s0 : 0 < s
  s4 : s ≤ 4
  b4 : bs.length = 4
  os : o + s ≤ (rd_L2 ram (i : Int)).length
  le : (rd_L2 ram (i : Int)).length ≤ 9000000
/-- What Poke answers, both texts alike. -/
inductive PokF (K : Nat) (l : List S70) (r : List Int) (p : Int) (ram : List (List Int)) (a s x : Int) : List Int → Int → List (List Int) → Int → Prop
  | bad (hs : spec_GuestOk.f K l r p ram = some false) (hi : impl_isGuest.f K l r p ram = some false) : PokF K l r p ram a s x [] 0 [] 9
  | fault (t : Int) (hs : spec_GuestOk.f K l r p ram = some true) (hi : impl_isGuest.f K l r p ram = some true) (fs : spec_FaultAt.f K l a s 2 = some t) (fi : impl_faultAt.f K l a s 2 = some t) (ht : t ≠ 0) : PokF K l r p ram a s x r p ram t
  | put (n i o : Nat) (bs : List Int) (hn : s = (n : Int)) (hs : spec_GuestOk.f K l r p ram = some true) (hi : impl_isGuest.f K l r p ram = some true) (h : PutAt K l ram a x n i o bs) : PokF K l r p ram a s x r p (stM ram i o bs n) 0
/-- What came in: windows and a guest that are read. -/
structure CameP (w W : World) (A : Option Addr) (c : Nat) (l : List S70) (A0 : Option Addr) (c0 : Nat) (r : List Int) (A2 : Option Addr) (c2 : Nat) (ram : List (List Int)) : Prop where
  cw : Kd.C k70 W A l.length l
  lw : l.length ≤ c
  r0 : Kd.C (Kd.int .u32) W A0 r.length r
  l0 : r.length ≤ c0
  r2 : Kd.C (Kd.slice 5 (Kd.int .u8)) W A2 ram.length ram
  l2 : ram.length ≤ c2
  b0 : r.length ≤ 9000000
  b2 : ram.length ≤ 9000000
  bb : ∀ x ∈ ram, x.length ≤ 9000000
  be : Below w.heap.size w W
theorem Gst.lower {w0 w1 W : World} {lo hi : Nat} {v0 v2 : Value} {r : List Int} {ram : List (List Int)} (h : Gst w0 W lo hi v0 v2 r ram) (hb : w1.heap.size ≤ w0.heap.size) : Gst w1 W lo hi v0 v2 r ram :=
  ⟨Kd.R_lower h.r0 hb, Kd.S_lower h.r2 hb, Nat.le_trans hb h.ge, h.le⟩
def PokPost (w W : World) (R : List Int) (P : Int) (M : List (List Int)) (F : Int) (e : Ending) (w' : World) : Prop :=
  ∃ v0 v2 : Value, e = .returned (.tuple #[.agg #[v0, .int .u32 P, v2], .int .i64 F]) ∧ Gst w w' W.heap.size w'.heap.size v0 v2 R M ∧ Below W.heap.size W w'
section
variable {w W : World} {A : Option Addr} {c : Nat} {l : List S70} {A0 : Option Addr} {c0 : Nat} {r : List Int} {p : Int} {A2 : Option Addr} {c2 : Nat} {ram : List (List Int)} {K : Nat} {a s x : Int}
set_option maxHeartbeats 8000000 in
set_option maxRecDepth 100000 in
theorem specPoke_bad (h : CameP w W A c l A0 c0 r A2 c2 ram) (hs : spec_GuestOk.f K l r p ram = some false) :
    Calls Try.prog 29 #[.slice A l.length c, .agg #[.slice A0 r.length c0, .int .u32 p, .slice A2 ram.length c2], .int .u32 a, .int .i64 s, .int .u32 x] W (PokPost w W [] 0 [] 9) := by
  have hu28 := Try.underlying28
  have H := Aside0.mk h
  have HS := Aside0.mk hs
  clear h hs
  go_enter Try.func29, Try.ntmps29
  go_wp2_with (go_at_call 18; refine (spec_GuestOk.calls K A c l A0 c0 r p A2 c2 ram false _ (cq H.out.cw) H.out.lw (cq H.out.r0) H.out.l0 (cq H.out.r2) H.out.l2 HS.out).mono ?_; rintro e w1 ⟨rfl, hb'⟩; have KG1 := Aside0.mk (blk_below (at2_0 (w := W) (o0 := .cells #[.slice A0 r.length c0, .int .u32 p, .slice A2 ram.length c2] 28) (o1 := .cells #[.slice none 0 0, .int .u32 0, .slice none 0 0] 28)) hb'); have K1 := Aside0.mk (blk_below (at2_1 (w := W) (o0 := .cells #[.slice A0 r.length c0, .int .u32 p, .slice A2 ram.length c2] 28) (o1 := .cells #[.slice none 0 0, .int .u32 0, .slice none 0 0] 28)) hb'); have F1 := Aside0.mk (((Fr.refl (fun _ => False) W).alloc (.cells #[.slice A0 r.length c0, .int .u32 p, .slice A2 ram.length c2] 28) |>.alloc (.cells #[.slice none 0 0, .int .u32 0, .slice none 0 0] 28)).step hb'); have ls1 : W.heap.size + 1 < w1.heap.size := blk_lt K1.out; clear hb'; have g0 := kc KG1.out 0 rfl; have g1 := kc KG1.out 1 rfl; have g2 := kc KG1.out 2 rfl; have x0 := kc K1.out 0 rfl; have x1 := kc K1.out 1 rfl; have x2 := kc K1.out 2 rfl; have y0 := blk_frozen K1.out 0; have y1 := blk_frozen K1.out 1; have y2 := blk_frozen K1.out 2)
  refine bodyPost_ret (results_ct rfl _ _ (W.heap.size + 1) 28 #[.slice none 0 0, .int .u32 0, .slice none 0 0] (0, 0) _ rfl (blk_put (blk_put (blk_put K1.out 0 _ rfl) 1 _ rfl) 2 _ rfl) Try.underlying28 rfl (by kernel_rfl)) rfl ?_
  exact ⟨.slice none 0 0, .slice none 0 0, rfl, ⟨Kd.R_nil _ _ _ _ _, Kd.S_nil _ _ _ _ _, H.out.be.size, Nat.le_refl _⟩, (Fr.put3 (F1.out.mono (T := fun k => W.heap.size ≤ k) (fun _ h => h.elim)) (.inl (Nat.le_succ _)) _ _ _).below (fun _ h => h) (Nat.le_refl _)⟩
set_option maxHeartbeats 8000000 in
set_option maxRecDepth 100000 in
theorem specPoke_fault (h : CameP w W A c l A0 c0 r A2 c2 ram) (hs : spec_GuestOk.f K l r p ram = some true) (t : Int) (hf : spec_FaultAt.f K l a s 2 = some t) (ht : t ≠ 0) :
    Calls Try.prog 29 #[.slice A l.length c, .agg #[.slice A0 r.length c0, .int .u32 p, .slice A2 ram.length c2], .int .u32 a, .int .i64 s, .int .u32 x] W (PokPost w W r p ram t) := by
  have hu28 := Try.underlying28
  have H := Aside0.mk h
  have HS := Aside0.mk hs
  have HC := Aside0.mk (copy_pure r p ram h.b0 h.b2 h.bb (ram.length + 1) (by omega))
  have HF := Aside0.mk hf
  have HT := Aside0.mk ht
  have tb : (t == 0) = false := beq_eq_false_iff_ne.mpr ht
  have tb2 : (t != 0) = true := bne_iff_ne.mpr ht
  clear h hs hf ht
  go_enter Try.func29, Try.ntmps29
  go_wp2_with (first | (go_at_call 18; refine (spec_GuestOk.calls K A c l A0 c0 r p A2 c2 ram true _ (cq H.out.cw) H.out.lw (cq H.out.r0) H.out.l0 (cq H.out.r2) H.out.l2 HS.out).mono ?_; rintro e w1 ⟨rfl, hb'⟩; have KG1 := Aside0.mk (blk_below (at2_0 (w := W) (o0 := .cells #[.slice A0 r.length c0, .int .u32 p, .slice A2 ram.length c2] 28) (o1 := .cells #[.slice none 0 0, .int .u32 0, .slice none 0 0] 28)) hb'); have K1 := Aside0.mk (blk_below (at2_1 (w := W) (o0 := .cells #[.slice A0 r.length c0, .int .u32 p, .slice A2 ram.length c2] 28) (o1 := .cells #[.slice none 0 0, .int .u32 0, .slice none 0 0] 28)) hb'); have F1 := Aside0.mk (((Fr.refl (fun _ => False) W).alloc (.cells #[.slice A0 r.length c0, .int .u32 p, .slice A2 ram.length c2] 28) |>.alloc (.cells #[.slice none 0 0, .int .u32 0, .slice none 0 0] 28)).step hb'); have ls1 : W.heap.size + 1 < w1.heap.size := blk_lt K1.out; clear hb'; have g0 := kc KG1.out 0 rfl; have g1 := kc KG1.out 1 rfl; have g2 := kc KG1.out 2 rfl; have x0 := kc K1.out 0 rfl; have x1 := kc K1.out 1 rfl; have x2 := kc K1.out 2 rfl; have y0 := blk_frozen K1.out 0; have y1 := blk_frozen K1.out 1; have y2 := blk_frozen K1.out 2) | (go_at_call 39; refine (spec_l08Copy.calls (ram.length + 1) A0 c0 r p A2 c2 ram r p ram _ (cq (Kd.C_below H.out.r0 (F1.out.below (fun _ h => h.elim) (Nat.le_refl _)))) H.out.l0 (cq (Kd.C_below H.out.r2 (F1.out.below (fun _ h => h.elim) (Nat.le_refl _)))) H.out.l2 HC.out).mono ?_; rintro e w2 ⟨v0, v2, rfl, hR, hS, hb'⟩; obtain ⟨A3, c3, rfl⟩ := Kd.R_slice hR; obtain ⟨A4, c4, rfl⟩ := Kd.S_slice hS; have HG2 := Aside0.mk (Gst.new (w0 := W) hR hS (lq (F1.out.below (fun _ h => h.elim) (Nat.le_refl _)))); have K2 := Aside0.mk (blk_below (bq K1.out) hb'); have F2 := Aside0.mk ((fq F1.out).step hb'); have ls2 : W.heap.size + 1 < w2.heap.size := blk_lt K2.out; have ne2 : W.heap.size + 1 ≠ w2.heap.size := Nat.ne_of_lt ls2; have S12 := Aside0.mk (show w1.heap.size ≤ w2.heap.size by have := hb'.size; simpa using this); clear hR hS hb' g0 g1 g2 x0 x1 x2 y0 y1 y2; have x0 := kc K2.out 0 rfl; have x1 := kc K2.out 1 rfl; have x2 := kc K2.out 2 rfl; have y0 := blk_frozen K2.out 0; have y1 := blk_frozen K2.out 1; have y2 := blk_frozen K2.out 2) | (go_at_call 60; refine (spec_FaultAt.calls K A c l a s 2 t _ (cq (Kd.C_below H.out.cw (F2.out.below (fun _ h => h.elim) (Nat.le_refl _)))) H.out.lw HF.out).mono ?_; rintro e w3 ⟨rfl, hb'⟩; have K3 := Aside0.mk (blk_below (bq K2.out) hb'); have KO3 := Aside0.mk (blk_below (at1_0 (w := w2) (o0 := .cells #[.slice A3 r.length c3, .int .u32 p, .slice A4 ram.length c4] 28)) hb'); have HG3 := Aside0.mk ((gq HG2.out).below hb'); have F3 := Aside0.mk ((fq F2.out).step hb'); clear hb' x0 x1 x2 y0 y1 y2; have x0 := kc K3.out 0 rfl; have x1 := kc K3.out 1 rfl; have x2 := kc K3.out 2 rfl; have y0 := blk_frozen K3.out 0; have y1 := blk_frozen K3.out 1; have y2 := blk_frozen K3.out 2; have z0 := kc KO3.out 0 rfl; have z1 := kc KO3.out 1 rfl; have z2 := kc KO3.out 2 rfl))
  have hz2 := S12.out
  have hgs : W.heap.size + 2 ≤ w1.heap.size := ls1
  refine bodyPost_ret (results_ct rfl _ _ (W.heap.size + 1) 28 #[.slice A3 r.length c3, .int .u32 p, .slice A4 ram.length c4] (0, 0) _ rfl (blk_put (blk_put (blk_put K3.out 0 _ rfl) 1 _ rfl) 2 _ rfl) Try.underlying28 rfl (by kernel_rfl)) rfl ?_
  have F9 : Fr (fun k => k = W.heap.size + 1) w3 (((w3.setCell ⟨W.heap.size + 1, 0, none⟩ (.slice A3 r.length c3)).setCell ⟨W.heap.size + 1, 1, none⟩ (.int .u32 p)).setCell ⟨W.heap.size + 1, 2, none⟩ (.slice A4 ram.length c4)) := Fr.put3 (S := fun k => k = W.heap.size + 1) (Fr.refl _ w3) (.inl rfl) _ _ _
  have G9 := HG3.out.fr F9 (fun k h1 h2 e => by omega)
  have FB := (F3.out.mono (T := fun k => W.heap.size ≤ k) (fun k h => h.elim)).trans F9 (fun k h => .inl (by omega))
  exact ⟨_, _, rfl, (G9.wide (by omega) (Nat.le_trans HG3.out.le F9.size) (Nat.le_refl _) (Nat.le_refl _)).lower H.out.be.size, FB.below (fun _ h => h) (Nat.le_refl _)⟩
set_option maxHeartbeats 8000000 in
set_option maxRecDepth 100000 in
theorem specPoke_put (h : CameP w W A c l A0 c0 r A2 c2 ram) (hs : spec_GuestOk.f K l r p ram = some true) (n i o : Nat) (bs : List Int) (hn : s = (n : Int)) (hp : PutAt K l ram a x n i o bs) :
    Calls Try.prog 29 #[.slice A l.length c, .agg #[.slice A0 r.length c0, .int .u32 p, .slice A2 ram.length c2], .int .u32 a, .int .i64 s, .int .u32 x] W (PokPost w W r p (stM ram i o bs n) 0) := by
  subst hn
  have hu28 := Try.underlying28
  have H := Aside0.mk h
  have HS := Aside0.mk hs
  have HC := Aside0.mk (copy_pure r p ram h.b0 h.b2 h.bb (ram.length + 1) (by omega))
  have HP := Aside0.mk hp
  have HF := Aside0.mk hp.fas
  clear h hs hp
  go_enter Try.func29, Try.ntmps29
  go_wp2_with (first | (go_at_call 18; refine (spec_GuestOk.calls K A c l A0 c0 r p A2 c2 ram true _ (cq H.out.cw) H.out.lw (cq H.out.r0) H.out.l0 (cq H.out.r2) H.out.l2 HS.out).mono ?_; rintro e w1 ⟨rfl, hb'⟩; have KG1 := Aside0.mk (blk_below (at2_0 (w := W) (o0 := .cells #[.slice A0 r.length c0, .int .u32 p, .slice A2 ram.length c2] 28) (o1 := .cells #[.slice none 0 0, .int .u32 0, .slice none 0 0] 28)) hb'); have K1 := Aside0.mk (blk_below (at2_1 (w := W) (o0 := .cells #[.slice A0 r.length c0, .int .u32 p, .slice A2 ram.length c2] 28) (o1 := .cells #[.slice none 0 0, .int .u32 0, .slice none 0 0] 28)) hb'); have F1 := Aside0.mk (((Fr.refl (fun _ => False) W).alloc (.cells #[.slice A0 r.length c0, .int .u32 p, .slice A2 ram.length c2] 28) |>.alloc (.cells #[.slice none 0 0, .int .u32 0, .slice none 0 0] 28)).step hb'); have ls1 : W.heap.size + 1 < w1.heap.size := blk_lt K1.out; clear hb'; have g0 := kc KG1.out 0 rfl; have g1 := kc KG1.out 1 rfl; have g2 := kc KG1.out 2 rfl; have x0 := kc K1.out 0 rfl; have x1 := kc K1.out 1 rfl; have x2 := kc K1.out 2 rfl; have y0 := blk_frozen K1.out 0; have y1 := blk_frozen K1.out 1; have y2 := blk_frozen K1.out 2) | (go_at_call 39; refine (spec_l08Copy.calls (ram.length + 1) A0 c0 r p A2 c2 ram r p ram _ (cq (Kd.C_below H.out.r0 (F1.out.below (fun _ h => h.elim) (Nat.le_refl _)))) H.out.l0 (cq (Kd.C_below H.out.r2 (F1.out.below (fun _ h => h.elim) (Nat.le_refl _)))) H.out.l2 HC.out).mono ?_; rintro e w2 ⟨v0, v2, rfl, hR, hS, hb'⟩; obtain ⟨A3, c3, rfl⟩ := Kd.R_slice hR; obtain ⟨A4, c4, rfl⟩ := Kd.S_slice hS; have HG2 := Aside0.mk (Gst.new (w0 := W) hR hS (lq (F1.out.below (fun _ h => h.elim) (Nat.le_refl _)))); have K2 := Aside0.mk (blk_below (bq K1.out) hb'); have F2 := Aside0.mk ((fq F1.out).step hb'); have ls2 : W.heap.size + 1 < w2.heap.size := blk_lt K2.out; have ne2 : W.heap.size + 1 ≠ w2.heap.size := Nat.ne_of_lt ls2; have S12 := Aside0.mk (show w1.heap.size ≤ w2.heap.size by have := hb'.size; simpa using this); clear hR hS hb' g0 g1 g2 x0 x1 x2 y0 y1 y2; have x0 := kc K2.out 0 rfl; have x1 := kc K2.out 1 rfl; have x2 := kc K2.out 2 rfl; have y0 := blk_frozen K2.out 0; have y1 := blk_frozen K2.out 1; have y2 := blk_frozen K2.out 2) | (go_at_call 60; refine (spec_FaultAt.calls K A c l a (n : Int) 2 0 _ (cq (Kd.C_below H.out.cw (F2.out.below (fun _ h => h.elim) (Nat.le_refl _)))) H.out.lw HF.out).mono ?_; rintro e w3 ⟨rfl, hb'⟩; have K3 := Aside0.mk (blk_below (bq K2.out) hb'); have KO3 := Aside0.mk (blk_below (at1_0 (w := w2) (o0 := .cells #[.slice A3 r.length c3, .int .u32 p, .slice A4 ram.length c4] 28)) hb'); have HG3 := Aside0.mk ((gq HG2.out).below hb'); have F3 := Aside0.mk ((fq F2.out).step hb'); clear hb' x0 x1 x2 y0 y1 y2; have x0 := kc K3.out 0 rfl; have x1 := kc K3.out 1 rfl; have x2 := kc K3.out 2 rfl; have y0 := blk_frozen K3.out 0; have y1 := blk_frozen K3.out 1; have y2 := blk_frozen K3.out 2; have z0 := kc KO3.out 0 rfl; have z1 := kc KO3.out 1 rfl; have z2 := kc KO3.out 2 rfl) | (go_at_call 62; refine (put_calls W _ w1.heap.size w2.heap.size (.slice A3 r.length c3) (.slice A4 ram.length c4) r p ram A c l (wrap64 a) x n i o K bs (F3.out.below (fun _ h => h.elim) (Nat.le_refl _)) HG3.out H.out.cw H.out.lw HP.out.ats HP.out.bss HP.out.i1 HP.out.i2 HP.out.ho HP.out.s4 HP.out.b4 HP.out.os HP.out.le).mono ?_; rintro e w4 ⟨rfl, hG, hF⟩; have sm : ∀ k, ¬ (w1.heap.size ≤ k ∧ k < w2.heap.size) → True := fun _ _ => trivial; have K4 := Aside0.mk (hF.blk K3.out (fun h => by have := h.1; have := ls1; simp at *; omega)); have KO4 := Aside0.mk (hF.blk KO3.out (fun h => Nat.lt_irrefl _ h.2)); have HG4 := Aside0.mk hG; have F4 := Aside0.mk ((F3.out.mono (T := fun k => W.heap.size ≤ k) (fun _ h => h.elim)).trans hF (fun k h => .inl (by have := h.1; have := ls1; simp at *; omega))); clear sm hG hF x0 x1 x2 y0 y1 y2; (try clear z0 z1 z2); have x0 := kc K4.out 0 rfl; have x1 := kc K4.out 1 rfl; have x2 := kc K4.out 2 rfl; have y0 := blk_frozen K4.out 0; have y1 := blk_frozen K4.out 1; have y2 := blk_frozen K4.out 2; have z0 := kc KO4.out 0 rfl; have z1 := kc KO4.out 1 rfl; have z2 := kc KO4.out 2 rfl))
  have hz2 := S12.out
  have hgs : W.heap.size + 2 ≤ w1.heap.size := ls1
  refine bodyPost_ret (results_ct rfl _ _ (W.heap.size + 1) 28 #[.slice A3 r.length c3, .int .u32 p, .slice A4 ram.length c4] (0, 0) _ rfl (blk_put (blk_put (blk_put K4.out 0 _ rfl) 1 _ rfl) 2 _ rfl) Try.underlying28 rfl (by kernel_rfl)) rfl ?_
  have F9 : Fr (fun k => k = W.heap.size + 1) w4 (((w4.setCell ⟨W.heap.size + 1, 0, none⟩ (.slice A3 r.length c3)).setCell ⟨W.heap.size + 1, 1, none⟩ (.int .u32 p)).setCell ⟨W.heap.size + 1, 2, none⟩ (.slice A4 ram.length c4)) := Fr.put3 (S := fun k => k = W.heap.size + 1) (Fr.refl _ w4) (.inl rfl) _ _ _
  have G9 := HG4.out.fr F9 (fun k h1 h2 e => by omega)
  have FB := (F4.out.mono (T := fun k => W.heap.size ≤ k) (fun k h => h)).trans F9 (fun k h => .inl (by omega))
  exact ⟨_, _, rfl, (G9.wide (by omega) (Nat.le_trans HG4.out.le F9.size) (Nat.le_refl _) (Nat.le_refl _)).lower H.out.be.size, FB.below (fun _ h => h) (Nat.le_refl _)⟩
set_option maxHeartbeats 8000000 in
set_option maxRecDepth 100000 in
theorem implPoke_bad (h : CameP w W A c l A0 c0 r A2 c2 ram) (hs : impl_isGuest.f K l r p ram = some false) :
    Calls Try.prog 30 #[.slice A l.length c, .agg #[.slice A0 r.length c0, .int .u32 p, .slice A2 ram.length c2], .int .u32 a, .int .i64 s, .int .u32 x] W (PokPost w W [] 0 [] 9) := by
  have hu28 := Try.underlying28
  have H := Aside0.mk h
  have HS := Aside0.mk hs
  clear h hs
  go_enter Try.func30, Try.ntmps30
  go_wp2_with (go_at_call 54; refine (impl_isGuest.calls K A c l A0 c0 r p A2 c2 ram false _ (cq H.out.cw) H.out.lw (cq H.out.r0) H.out.l0 (cq H.out.r2) H.out.l2 HS.out).mono ?_; rintro e w1 ⟨rfl, hb'⟩; have KG1 := Aside0.mk (blk_below (at2_0 (w := W) (o0 := .cells #[.slice A0 r.length c0, .int .u32 p, .slice A2 ram.length c2] 28) (o1 := .cells #[.slice none 0 0, .int .u32 0, .slice none 0 0] 28)) hb'); have K1 := Aside0.mk (blk_below (at2_1 (w := W) (o0 := .cells #[.slice A0 r.length c0, .int .u32 p, .slice A2 ram.length c2] 28) (o1 := .cells #[.slice none 0 0, .int .u32 0, .slice none 0 0] 28)) hb'); have F1 := Aside0.mk (((Fr.refl (fun _ => False) W).alloc (.cells #[.slice A0 r.length c0, .int .u32 p, .slice A2 ram.length c2] 28) |>.alloc (.cells #[.slice none 0 0, .int .u32 0, .slice none 0 0] 28)).step hb'); have ls1 : W.heap.size + 1 < w1.heap.size := blk_lt K1.out; clear hb'; have g0 := kc KG1.out 0 rfl; have g1 := kc KG1.out 1 rfl; have g2 := kc KG1.out 2 rfl; have x0 := kc K1.out 0 rfl; have x1 := kc K1.out 1 rfl; have x2 := kc K1.out 2 rfl; have y0 := blk_frozen K1.out 0; have y1 := blk_frozen K1.out 1; have y2 := blk_frozen K1.out 2)
  refine bodyPost_ret (results_ct rfl _ _ (W.heap.size + 1) 28 #[.slice none 0 0, .int .u32 0, .slice none 0 0] (0, 0) _ rfl (blk_put (blk_put (blk_put K1.out 0 _ rfl) 1 _ rfl) 2 _ rfl) Try.underlying28 rfl (by kernel_rfl)) rfl ?_
  exact ⟨.slice none 0 0, .slice none 0 0, rfl, ⟨Kd.R_nil _ _ _ _ _, Kd.S_nil _ _ _ _ _, H.out.be.size, Nat.le_refl _⟩, (Fr.put3 (F1.out.mono (T := fun k => W.heap.size ≤ k) (fun _ h => h.elim)) (.inl (Nat.le_succ _)) _ _ _).below (fun _ h => h) (Nat.le_refl _)⟩
set_option maxHeartbeats 8000000 in
set_option maxRecDepth 100000 in
theorem implPoke_fault (h : CameP w W A c l A0 c0 r A2 c2 ram) (hs : impl_isGuest.f K l r p ram = some true) (t : Int) (hf : impl_faultAt.f K l a s 2 = some t) (ht : t ≠ 0) :
    Calls Try.prog 30 #[.slice A l.length c, .agg #[.slice A0 r.length c0, .int .u32 p, .slice A2 ram.length c2], .int .u32 a, .int .i64 s, .int .u32 x] W (PokPost w W r p ram t) := by
  have hu28 := Try.underlying28
  have H := Aside0.mk h
  have HS := Aside0.mk hs
  have HC := Aside0.mk (clone_pure r p ram h.b0 h.b2 h.bb (ram.length + 1) (by omega))
  have HF := Aside0.mk hf
  have HT := Aside0.mk ht
  have tb : (t == 0) = false := beq_eq_false_iff_ne.mpr ht
  have tb2 : (t != 0) = true := bne_iff_ne.mpr ht
  clear h hs hf ht
  go_enter Try.func30, Try.ntmps30
  go_wp2_with (first | (go_at_call 54; refine (impl_isGuest.calls K A c l A0 c0 r p A2 c2 ram true _ (cq H.out.cw) H.out.lw (cq H.out.r0) H.out.l0 (cq H.out.r2) H.out.l2 HS.out).mono ?_; rintro e w1 ⟨rfl, hb'⟩; have KG1 := Aside0.mk (blk_below (at2_0 (w := W) (o0 := .cells #[.slice A0 r.length c0, .int .u32 p, .slice A2 ram.length c2] 28) (o1 := .cells #[.slice none 0 0, .int .u32 0, .slice none 0 0] 28)) hb'); have K1 := Aside0.mk (blk_below (at2_1 (w := W) (o0 := .cells #[.slice A0 r.length c0, .int .u32 p, .slice A2 ram.length c2] 28) (o1 := .cells #[.slice none 0 0, .int .u32 0, .slice none 0 0] 28)) hb'); have F1 := Aside0.mk (((Fr.refl (fun _ => False) W).alloc (.cells #[.slice A0 r.length c0, .int .u32 p, .slice A2 ram.length c2] 28) |>.alloc (.cells #[.slice none 0 0, .int .u32 0, .slice none 0 0] 28)).step hb'); have ls1 : W.heap.size + 1 < w1.heap.size := blk_lt K1.out; clear hb'; have g0 := kc KG1.out 0 rfl; have g1 := kc KG1.out 1 rfl; have g2 := kc KG1.out 2 rfl; have x0 := kc K1.out 0 rfl; have x1 := kc K1.out 1 rfl; have x2 := kc K1.out 2 rfl; have y0 := blk_frozen K1.out 0; have y1 := blk_frozen K1.out 1; have y2 := blk_frozen K1.out 2) | (go_at_call 44; refine (impl_cloneGuest.calls (ram.length + 1) A0 c0 r p A2 c2 ram r p ram _ (cq (Kd.C_below H.out.r0 (F1.out.below (fun _ h => h.elim) (Nat.le_refl _)))) H.out.l0 (cq (Kd.C_below H.out.r2 (F1.out.below (fun _ h => h.elim) (Nat.le_refl _)))) H.out.l2 HC.out).mono ?_; rintro e w2 ⟨v0, v2, rfl, hR, hS, hb'⟩; obtain ⟨A3, c3, rfl⟩ := Kd.R_slice hR; obtain ⟨A4, c4, rfl⟩ := Kd.S_slice hS; have HG2 := Aside0.mk (Gst.new (w0 := W) hR hS (lq (F1.out.below (fun _ h => h.elim) (Nat.le_refl _)))); have K2 := Aside0.mk (blk_below (bq K1.out) hb'); have F2 := Aside0.mk ((fq F1.out).step hb'); have ls2 : W.heap.size + 1 < w2.heap.size := blk_lt K2.out; have ne2 : W.heap.size + 1 ≠ w2.heap.size := Nat.ne_of_lt ls2; have S12 := Aside0.mk (show w1.heap.size ≤ w2.heap.size by have := hb'.size; simpa using this); clear hR hS hb' g0 g1 g2 x0 x1 x2 y0 y1 y2; have x0 := kc K2.out 0 rfl; have x1 := kc K2.out 1 rfl; have x2 := kc K2.out 2 rfl; have y0 := blk_frozen K2.out 0; have y1 := blk_frozen K2.out 1; have y2 := blk_frozen K2.out 2) | (go_at_call 63; refine (store_fault W _ w2.heap.size A c l a x s t K (lq (F2.out.below (fun _ h => h.elim) (Nat.le_refl _))) H.out.cw H.out.lw HF.out HT.out).mono ?_; rintro e w3 ⟨rfl, hb'⟩; have K3 := Aside0.mk (blk_below (bq K2.out) hb'); have KO3 := Aside0.mk (blk_below (at1_0 (w := w2) (o0 := .cells #[.slice A3 r.length c3, .int .u32 p, .slice A4 ram.length c4] 28)) hb'); have HG3 := Aside0.mk ((gq HG2.out).below hb'); have F3 := Aside0.mk ((fq F2.out).step hb'); clear hb' x0 x1 x2 y0 y1 y2; have x0 := kc K3.out 0 rfl; have x1 := kc K3.out 1 rfl; have x2 := kc K3.out 2 rfl; have y0 := blk_frozen K3.out 0; have y1 := blk_frozen K3.out 1; have y2 := blk_frozen K3.out 2; have z0 := kc KO3.out 0 rfl; have z1 := kc KO3.out 1 rfl; have z2 := kc KO3.out 2 rfl))
  have hz2 := S12.out
  have hgs : W.heap.size + 2 ≤ w1.heap.size := ls1
  refine bodyPost_ret (results_ct rfl _ _ (W.heap.size + 1) 28 #[.slice A3 r.length c3, .int .u32 p, .slice A4 ram.length c4] (0, 0) _ rfl (blk_put (blk_put (blk_put K3.out 0 _ rfl) 1 _ rfl) 2 _ rfl) Try.underlying28 rfl (by kernel_rfl)) rfl ?_
  have F9 : Fr (fun k => k = W.heap.size + 1) w3 (((w3.setCell ⟨W.heap.size + 1, 0, none⟩ (.slice A3 r.length c3)).setCell ⟨W.heap.size + 1, 1, none⟩ (.int .u32 p)).setCell ⟨W.heap.size + 1, 2, none⟩ (.slice A4 ram.length c4)) := Fr.put3 (S := fun k => k = W.heap.size + 1) (Fr.refl _ w3) (.inl rfl) _ _ _
  have G9 := HG3.out.fr F9 (fun k h1 h2 e => by omega)
  have FB := (F3.out.mono (T := fun k => W.heap.size ≤ k) (fun k h => h.elim)).trans F9 (fun k h => .inl (by omega))
  exact ⟨_, _, rfl, (G9.wide (by omega) (Nat.le_trans HG3.out.le F9.size) (Nat.le_refl _) (Nat.le_refl _)).lower H.out.be.size, FB.below (fun _ h => h) (Nat.le_refl _)⟩
set_option maxHeartbeats 8000000 in
set_option maxRecDepth 100000 in
theorem implPoke_put (h : CameP w W A c l A0 c0 r A2 c2 ram) (hs : impl_isGuest.f K l r p ram = some true) (n i o : Nat) (bs : List Int) (hn : s = (n : Int)) (hp : PutAt K l ram a x n i o bs) :
    Calls Try.prog 30 #[.slice A l.length c, .agg #[.slice A0 r.length c0, .int .u32 p, .slice A2 ram.length c2], .int .u32 a, .int .i64 s, .int .u32 x] W (PokPost w W r p (stM ram i o bs n) 0) := by
  subst hn
  have hu28 := Try.underlying28
  have H := Aside0.mk h
  have HS := Aside0.mk hs
  have HC := Aside0.mk (clone_pure r p ram h.b0 h.b2 h.bb (ram.length + 1) (by omega))
  have HP := Aside0.mk hp
  have HF := Aside0.mk hp.fas
  clear h hs hp
  go_enter Try.func30, Try.ntmps30
  go_wp2_with (first | (go_at_call 54; refine (impl_isGuest.calls K A c l A0 c0 r p A2 c2 ram true _ (cq H.out.cw) H.out.lw (cq H.out.r0) H.out.l0 (cq H.out.r2) H.out.l2 HS.out).mono ?_; rintro e w1 ⟨rfl, hb'⟩; have KG1 := Aside0.mk (blk_below (at2_0 (w := W) (o0 := .cells #[.slice A0 r.length c0, .int .u32 p, .slice A2 ram.length c2] 28) (o1 := .cells #[.slice none 0 0, .int .u32 0, .slice none 0 0] 28)) hb'); have K1 := Aside0.mk (blk_below (at2_1 (w := W) (o0 := .cells #[.slice A0 r.length c0, .int .u32 p, .slice A2 ram.length c2] 28) (o1 := .cells #[.slice none 0 0, .int .u32 0, .slice none 0 0] 28)) hb'); have F1 := Aside0.mk (((Fr.refl (fun _ => False) W).alloc (.cells #[.slice A0 r.length c0, .int .u32 p, .slice A2 ram.length c2] 28) |>.alloc (.cells #[.slice none 0 0, .int .u32 0, .slice none 0 0] 28)).step hb'); have ls1 : W.heap.size + 1 < w1.heap.size := blk_lt K1.out; clear hb'; have g0 := kc KG1.out 0 rfl; have g1 := kc KG1.out 1 rfl; have g2 := kc KG1.out 2 rfl; have x0 := kc K1.out 0 rfl; have x1 := kc K1.out 1 rfl; have x2 := kc K1.out 2 rfl; have y0 := blk_frozen K1.out 0; have y1 := blk_frozen K1.out 1; have y2 := blk_frozen K1.out 2) | (go_at_call 44; refine (impl_cloneGuest.calls (ram.length + 1) A0 c0 r p A2 c2 ram r p ram _ (cq (Kd.C_below H.out.r0 (F1.out.below (fun _ h => h.elim) (Nat.le_refl _)))) H.out.l0 (cq (Kd.C_below H.out.r2 (F1.out.below (fun _ h => h.elim) (Nat.le_refl _)))) H.out.l2 HC.out).mono ?_; rintro e w2 ⟨v0, v2, rfl, hR, hS, hb'⟩; obtain ⟨A3, c3, rfl⟩ := Kd.R_slice hR; obtain ⟨A4, c4, rfl⟩ := Kd.S_slice hS; have HG2 := Aside0.mk (Gst.new (w0 := W) hR hS (lq (F1.out.below (fun _ h => h.elim) (Nat.le_refl _)))); have K2 := Aside0.mk (blk_below (bq K1.out) hb'); have F2 := Aside0.mk ((fq F1.out).step hb'); have ls2 : W.heap.size + 1 < w2.heap.size := blk_lt K2.out; have ne2 : W.heap.size + 1 ≠ w2.heap.size := Nat.ne_of_lt ls2; have S12 := Aside0.mk (show w1.heap.size ≤ w2.heap.size by have := hb'.size; simpa using this); clear hR hS hb' g0 g1 g2 x0 x1 x2 y0 y1 y2; have x0 := kc K2.out 0 rfl; have x1 := kc K2.out 1 rfl; have x2 := kc K2.out 2 rfl; have y0 := blk_frozen K2.out 0; have y1 := blk_frozen K2.out 1; have y2 := blk_frozen K2.out 2) | (go_at_call 63; refine (store_calls W _ w1.heap.size w2.heap.size w2.heap.size 28 #[.slice A3 r.length c3, .int .u32 p, .slice A4 ram.length c4] (.slice A3 r.length c3) (.slice A4 ram.length c4) r ram A c l a x n i o K bs (lq (F2.out.below (fun _ h => h.elim) (Nat.le_refl _))) (gq HG2.out) H.out.cw H.out.lw at1_0 rfl (fun h => Nat.lt_irrefl _ h.2) HP.out.fai HP.out.ati HP.out.bsi HP.out.i1 HP.out.i2 HP.out.ho HP.out.s0 HP.out.s4 HP.out.b4 HP.out.os HP.out.le).mono ?_; rintro e w4 ⟨rfl, hG, hF⟩; have sm : ∀ k, ¬ (w1.heap.size ≤ k ∧ k < w2.heap.size) → True := fun _ _ => trivial; have K4 := Aside0.mk (hF.blk (bq K2.out) (fun h => by have := h.1; have := ls1; simp at *; omega)); have KO4 := Aside0.mk (hF.blk at1_0 (fun h => Nat.lt_irrefl _ h.2)); have HG4 := Aside0.mk hG; have F4 := Aside0.mk (((fq F2.out).mono (T := fun k => W.heap.size ≤ k) (fun _ h => h.elim)).trans hF (fun k h => .inl (by have := h.1; have := ls1; simp at *; omega))); clear sm hG hF x0 x1 x2 y0 y1 y2; (try clear z0 z1 z2); have x0 := kc K4.out 0 rfl; have x1 := kc K4.out 1 rfl; have x2 := kc K4.out 2 rfl; have y0 := blk_frozen K4.out 0; have y1 := blk_frozen K4.out 1; have y2 := blk_frozen K4.out 2; have z0 := kc KO4.out 0 rfl; have z1 := kc KO4.out 1 rfl; have z2 := kc KO4.out 2 rfl))
  have hz2 := S12.out
  have hgs : W.heap.size + 2 ≤ w1.heap.size := ls1
  refine bodyPost_ret (results_ct rfl _ _ (W.heap.size + 1) 28 #[.slice A3 r.length c3, .int .u32 p, .slice A4 ram.length c4] (0, 0) _ rfl (blk_put (blk_put (blk_put K4.out 0 _ rfl) 1 _ rfl) 2 _ rfl) Try.underlying28 rfl (by kernel_rfl)) rfl ?_
  have F9 : Fr (fun k => k = W.heap.size + 1) w4 (((w4.setCell ⟨W.heap.size + 1, 0, none⟩ (.slice A3 r.length c3)).setCell ⟨W.heap.size + 1, 1, none⟩ (.int .u32 p)).setCell ⟨W.heap.size + 1, 2, none⟩ (.slice A4 ram.length c4)) := Fr.put3 (S := fun k => k = W.heap.size + 1) (Fr.refl _ w4) (.inl rfl) _ _ _
  have G9 := HG4.out.fr F9 (fun k h1 h2 e => by omega)
  have FB := (F4.out.mono (T := fun k => W.heap.size ≤ k) (fun k h => h)).trans F9 (fun k h => .inl (by omega))
  exact ⟨_, _, rfl, (G9.wide (by omega) (Nat.le_trans HG4.out.le F9.size) (Nat.le_refl _) (Nat.le_refl _)).lower H.out.be.size, FB.below (fun _ h => h) (Nat.le_refl _)⟩
end
end Go.Proofs.Ytbcpkigeginmnaa.GF
