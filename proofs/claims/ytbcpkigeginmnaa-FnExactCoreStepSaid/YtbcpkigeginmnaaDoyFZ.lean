/- The program's step over one instruction, walked by hand, an op each. -/
import Derived.Test.YtbcpkigeginmnaaM21Z
set_option linter.unusedVariables false
set_option linter.unusedSimpArgs false
namespace Go.Proofs.Ytbcpkigeginmnaa.GF
open Go.RowKit Go.Proofs.YtbcpkigeginmnaaW.PrintWords Go.Proofs.YtbcpkigeginmnaaW.PrintLast Go.Proofs.YtbcpkigeginmnaaW.PrintMore Go.Proofs.Ytbcpkigeginmnaa.Q Go.Proofs.Ytbcpkigeginmnaa.Hnd Go.Proofs.Ytbcpkigeginmnaa.Lst
section
variable {w0 w9 W w1 w2 : World} {lo hi gs : Nat} {v0 v2 : Value} {r r' : List Int} {p P P' : Int} {ram ram' : List (List Int)} {op tc tc' : Int} {wr wr' : Bool} {ib : Array Value} {e : Ending}
theorem DoAt.mem (d : DoAt w0 W w1 lo hi gs v0 v2 r P ram op tc wr ib) (h : DoOk w0 w1 lo hi gs v0 v2 r' P ram' op tc' wr' e w2) : DoAt w0 W w2 lo hi gs v0 v2 r' P ram' op tc' wr' ib :=
  ⟨h.2.2.2.blk d.ki (fun hk => by have := d.ng; have := d.hg; omega), h.2.2.1, h.2.1, d.f.trans h.2.2.2 (fun k hk => .inl hk), d.ng, d.hg, d.ns⟩
theorem DoAt.cells {a b cc im : Int} (d : DoAt w0 W w1 lo hi gs v0 v2 r P ram op tc wr #[.int .i64 op, .int .i64 a, .int .i64 b, .int .i64 cc, .int .i64 im]) : w1.cell? ⟨W.heap.size, 0, none⟩ = some (.int .i64 op) ∧ w1.cell? ⟨W.heap.size, 1, none⟩ = some (.int .i64 a) ∧ w1.cell? ⟨W.heap.size, 2, none⟩ = some (.int .i64 b) ∧ w1.cell? ⟨W.heap.size, 3, none⟩ = some (.int .i64 cc) ∧ w1.cell? ⟨W.heap.size, 4, none⟩ = some (.int .i64 im) ∧ w1.cell? ⟨gs, 0, none⟩ = some v0 ∧ w1.cell? ⟨gs, 1, none⟩ = some (.int .u32 P) ∧ w1.frozen? ⟨gs, 1, none⟩ = false :=
  ⟨kc d.ki 0 rfl, kc d.ki 1 rfl, kc d.ki 2 rfl, kc d.ki 3 rfl, kc d.ki 4 rfl, kc d.ks 0 rfl, kc d.ks 1 rfl, blk_frozen d.ks 1⟩
end
inductive DoWay (l : List S70) (r : List Int) (p : Int) (ram : List (List Int)) (a b cc im cy op : Int) : List Int → Int → List (List Int) → Int → Bool → Prop
  | w0 (ho : op = 0) : DoWay l r p ram a b cc im cy op r ((p + 4) % 4294967296) ram (-1) false
  | w13 (ho : op = 13) : DoWay l r p ram a b cc im cy op (setR r a ((rd r b + im) % 4294967296)) ((p + 4) % 4294967296) ram (-1) false
  | w14 (ho : op = 14) : DoWay l r p ram a b cc im cy op (setR r a ((im % 4294967296) * 16384 % 4294967296)) ((p + 4) % 4294967296) ram (-1) false
  | w24 (ho : op = 24) : DoWay l r p ram a b cc im cy op (setR r a (cy % 4294967296)) ((p + 4) % 4294967296) ram (-1) false
  | w22 (ho : op = 22) : DoWay l r p ram a b cc im cy op (setR r a ((p + 4) % 4294967296)) ((p + 4 + 4 * (im % 4294967296)) % 4294967296) ram (-1) false
  | w23 (ho : op = 23) : DoWay l r p ram a b cc im cy op r ((rd r b + im) % 4294967296) ram (-1) false
  | w15 (ho : op = 15) (x : Int) (K : Nat) (hl : impl_Guest_load.f K r ((p + 4) % 4294967296) ram l ((rd r b + im) % 4294967296) 4 1 = some (x, 0, ((p + 4) % 4294967296))) : DoWay l r p ram a b cc im cy op (setR r a x) ((p + 4) % 4294967296) ram ((rd r b + im) % 4294967296) false
  | w16 (ho : op = 16) (i o K : Nat) (bs : List Int) (hl : PutAt K l ram ((rd r b + im) % 4294967296) (rd r a) 4 i o bs) : DoWay l r p ram a b cc im cy op r ((p + 4) % 4294967296) (stM ram i o bs 4) ((rd r b + im) % 4294967296) true
  | w17 (ho : op = 17) (x : Int) (K : Nat) (hl : impl_Guest_load.f K r ((p + 4) % 4294967296) ram l ((rd r b + im) % 4294967296) 1 1 = some (x, 0, ((p + 4) % 4294967296))) : DoWay l r p ram a b cc im cy op (setR r a x) ((p + 4) % 4294967296) ram ((rd r b + im) % 4294967296) false
  | w18 (ho : op = 18) (i o K : Nat) (bs : List Int) (hl : PutAt K l ram ((rd r b + im) % 4294967296) (rd r a) 1 i o bs) : DoWay l r p ram a b cc im cy op r ((p + 4) % 4294967296) (stM ram i o bs 1) ((rd r b + im) % 4294967296) true
  | walu (hop : impl_within.f op 1 12 = some true) (x : Int) (hx : impl_alu.f op (rd r b) (rd r cc) = some (x, 0)) : DoWay l r p ram a b cc im cy op (setR r a x) ((p + 4) % 4294967296) ram (-1) false
  | w19_t (ho : op = 19) (hx : impl_taken.f 19 (rd r a) (rd r b) = some true) : DoWay l r p ram a b cc im cy op r ((p + 4 + 4 * (im % 4294967296)) % 4294967296) ram (-1) false
  | w19_f (ho : op = 19) (hx : impl_taken.f 19 (rd r a) (rd r b) = some false) : DoWay l r p ram a b cc im cy op r ((p + 4) % 4294967296) ram (-1) false
  | w20_t (ho : op = 20) (hx : impl_taken.f 20 (rd r a) (rd r b) = some true) : DoWay l r p ram a b cc im cy op r ((p + 4 + 4 * (im % 4294967296)) % 4294967296) ram (-1) false
  | w20_f (ho : op = 20) (hx : impl_taken.f 20 (rd r a) (rd r b) = some false) : DoWay l r p ram a b cc im cy op r ((p + 4) % 4294967296) ram (-1) false
  | w21_t (ho : op = 21) (hx : impl_taken.f 21 (rd r a) (rd r b) = some true) : DoWay l r p ram a b cc im cy op r ((p + 4 + 4 * (im % 4294967296)) % 4294967296) ram (-1) false
  | w21_f (ho : op = 21) (hx : impl_taken.f 21 (rd r a) (rd r b) = some false) : DoWay l r p ram a b cc im cy op r ((p + 4) % 4294967296) ram (-1) false
set_option maxHeartbeats 40000000 in
set_option maxRecDepth 100000 in
theorem do_ok (w0 w9 W : World) (lo hi gs : Nat) (v0 v2 : Value) (r : List Int) (p : Int) (ram : List (List Int)) (A : Option Addr) (c : Nat) (l : List S70) (op a b cc im cy : Int) (h : DoIn w0 w9 W lo hi gs v0 v2 r p ram op A c l) (ha : 0 ≤ a ∧ a ≤ 15) (hb : 0 ≤ b ∧ b ≤ 15) (hcc : 0 ≤ cc ∧ cc ≤ 15) (R : List Int) (P : Int) (M : List (List Int)) (tc : Int) (wr : Bool) (hw : DoWay l r p ram a b cc im cy op R P M tc wr) :
    Calls Try.prog 91 #[.pointer (some ⟨gs, 0, none⟩), .slice A l.length c, .agg #[.int .i64 op, .int .i64 a, .int .i64 b, .int .i64 cc, .int .i64 im], .int .i64 cy] W (DoOk w0 W lo hi gs v0 v2 R P M op tc wr) := by
  have hu89 := Try.underlying89
  have hu52 := Try.underlying52
  have hu28 := Try.underlying28
  obtain ⟨go, co, rfl, hlt, hin, hcel⟩ := reg_at h.g h.r16
  have x0 := kc h.b 0 rfl
  have x1 := kc h.b 1 rfl
  have f1 := blk_frozen h.b 1
  have cb := hcel b hb.1 hb.2
  have hgl := blk_lt h.b
  have hne : gs ≠ go := fun e => h.n (e ▸ hin)
  obtain ⟨b0, b1⟩ := hb
  have hw1 := World.new_ne W _ x0
  have hw3 := World.new_ne W _ cb
  have H := Aside0.mk h
  have HA := Aside0.mk ha
  have HB := Aside0.mk (show 0 ≤ b ∧ b ≤ 15 from ⟨b0, b1⟩)
  have HCC := Aside0.mk hcc
  have HCEL := Aside0.mk hcel
  have HIN := Aside0.mk hin
  have HNE := Aside0.mk hne
  have bb : (b : Int) < 16 := by omega
  have T1 := Aside0.mk trivial
  have T2 := Aside0.mk trivial
  have a0 : 0 ≤ a := ha.1
  have a1 : a ≤ 15 := ha.2
  have aa : a < 16 := by omega
  have cc0 : 0 ≤ cc := hcc.1
  have cc1 : cc < 16 := by omega
  clear h ha hcel hin hcc
  go_enter Try.func91, Try.ntmps91
  go_wp2
  go_quiet (fail)
  cases hw with
  | w0 ho =>
    subst ho
    go_wp2_with (first | (go_at_call 43; clear T1; refine (impl_within.calls 0 1 12 false _ (by decide)).mono ?_; rintro e w1 ⟨rfl, hd⟩; (try clear x0 x1 cb hw1 hw3); have D1 := Aside0.mk (do_start H.out hd.below); clear hd; (try clear y0 y1 y2 y3 y4 s0 s1 g1); obtain ⟨y0, y1, y2, y3, y4, s0, s1, g1⟩ := D1.out.cells) | (go_at_call 43; clear T2; refine (impl_within.calls 0 15 18 false _ (by decide)).mono ?_; rintro e w2 ⟨rfl, hd⟩; (try clear x0 x1 cb hw1 hw3); have D2 := Aside0.mk (D1.out.below hd.below); clear hd; (try clear y0 y1 y2 y3 y4 s0 s1 g1); obtain ⟨y0, y1, y2, y3, y4, s0, s1, g1⟩ := D2.out.cells))
    refine bodyPost_ret (v := .int .i64 0) (by simp [results, Try.results91, go_sem]) rfl ?_
    exact D2.out.ok
  | w13 ho =>
    subst ho
    go_wp2_with (first | (go_at_call 43; clear T1; refine (impl_within.calls 13 1 12 false _ (by decide)).mono ?_; rintro e w1 ⟨rfl, hd⟩; (try clear x0 x1 cb hw1 hw3); have D1 := Aside0.mk (do_start H.out hd.below); clear hd; (try clear y0 y1 y2 y3 y4 s0 s1 g1); obtain ⟨y0, y1, y2, y3, y4, s0, s1, g1⟩ := D1.out.cells) | (go_at_call 43; clear T2; refine (impl_within.calls 13 15 18 false _ (by decide)).mono ?_; rintro e w2 ⟨rfl, hd⟩; (try clear x0 x1 cb hw1 hw3); have D2 := Aside0.mk (D1.out.below hd.below); clear hd; (try clear y0 y1 y2 y3 y4 s0 s1 g1); obtain ⟨y0, y1, y2, y3, y4, s0, s1, g1⟩ := D2.out.cells) | (go_at_call 45; refine (set_any w0 _ lo hi gs 52 _ _ v2 r ram a _ D2.out.g D2.out.ks rfl (by decide) H.out.n HA.out.1 (by have := HA.out; have := H.out.r16; omega)).mono ?_; rintro e w3 ⟨rfl, hG, hk, hF⟩; have D3 := Aside0.mk (D2.out.set_ hG hk hF); clear hG hk hF; (try clear y0 y1 y2 y3 y4 s0 s1 g1); obtain ⟨y0, y1, y2, y3, y4, s0, s1, g1⟩ := D3.out.cells))
    refine bodyPost_ret (v := .int .i64 0) (by simp [results, Try.results91, go_sem]) rfl ?_
    exact D3.out.ok
  | w14 ho =>
    subst ho
    go_wp2_with (first | (go_at_call 43; clear T1; refine (impl_within.calls 14 1 12 false _ (by decide)).mono ?_; rintro e w1 ⟨rfl, hd⟩; (try clear x0 x1 cb hw1 hw3); have D1 := Aside0.mk (do_start H.out hd.below); clear hd; (try clear y0 y1 y2 y3 y4 s0 s1 g1); obtain ⟨y0, y1, y2, y3, y4, s0, s1, g1⟩ := D1.out.cells) | (go_at_call 43; clear T2; refine (impl_within.calls 14 15 18 false _ (by decide)).mono ?_; rintro e w2 ⟨rfl, hd⟩; (try clear x0 x1 cb hw1 hw3); have D2 := Aside0.mk (D1.out.below hd.below); clear hd; (try clear y0 y1 y2 y3 y4 s0 s1 g1); obtain ⟨y0, y1, y2, y3, y4, s0, s1, g1⟩ := D2.out.cells) | (go_at_call 45; refine (set_any w0 _ lo hi gs 52 _ _ v2 r ram a _ D2.out.g D2.out.ks rfl (by decide) H.out.n HA.out.1 (by have := HA.out; have := H.out.r16; omega)).mono ?_; rintro e w3 ⟨rfl, hG, hk, hF⟩; have D3 := Aside0.mk (D2.out.set_ hG hk hF); clear hG hk hF; (try clear y0 y1 y2 y3 y4 s0 s1 g1); obtain ⟨y0, y1, y2, y3, y4, s0, s1, g1⟩ := D3.out.cells))
    refine bodyPost_ret (v := .int .i64 0) (by simp [results, Try.results91, go_sem]) rfl ?_
    exact D3.out.ok
  | w24 ho =>
    subst ho
    go_wp2_with (first | (go_at_call 43; clear T1; refine (impl_within.calls 24 1 12 false _ (by decide)).mono ?_; rintro e w1 ⟨rfl, hd⟩; (try clear x0 x1 cb hw1 hw3); have D1 := Aside0.mk (do_start H.out hd.below); clear hd; (try clear y0 y1 y2 y3 y4 s0 s1 g1); obtain ⟨y0, y1, y2, y3, y4, s0, s1, g1⟩ := D1.out.cells) | (go_at_call 43; clear T2; refine (impl_within.calls 24 15 18 false _ (by decide)).mono ?_; rintro e w2 ⟨rfl, hd⟩; (try clear x0 x1 cb hw1 hw3); have D2 := Aside0.mk (D1.out.below hd.below); clear hd; (try clear y0 y1 y2 y3 y4 s0 s1 g1); obtain ⟨y0, y1, y2, y3, y4, s0, s1, g1⟩ := D2.out.cells) | (go_at_call 45; refine (set_any w0 _ lo hi gs 52 _ _ v2 r ram a _ D2.out.g D2.out.ks rfl (by decide) H.out.n HA.out.1 (by have := HA.out; have := H.out.r16; omega)).mono ?_; rintro e w3 ⟨rfl, hG, hk, hF⟩; have D3 := Aside0.mk (D2.out.set_ hG hk hF); clear hG hk hF; (try clear y0 y1 y2 y3 y4 s0 s1 g1); obtain ⟨y0, y1, y2, y3, y4, s0, s1, g1⟩ := D3.out.cells))
    refine bodyPost_ret (v := .int .i64 0) (by simp [results, Try.results91, go_sem]) rfl ?_
    exact D3.out.ok
  | w22 ho =>
    subst ho
    go_wp2_with (first | (go_at_call 43; clear T1; refine (impl_within.calls 22 1 12 false _ (by decide)).mono ?_; rintro e w1 ⟨rfl, hd⟩; (try clear x0 x1 cb hw1 hw3); have D1 := Aside0.mk (do_start H.out hd.below); clear hd; (try clear y0 y1 y2 y3 y4 s0 s1 g1); obtain ⟨y0, y1, y2, y3, y4, s0, s1, g1⟩ := D1.out.cells) | (go_at_call 43; clear T2; refine (impl_within.calls 22 15 18 false _ (by decide)).mono ?_; rintro e w2 ⟨rfl, hd⟩; (try clear x0 x1 cb hw1 hw3); have D2 := Aside0.mk (D1.out.below hd.below); clear hd; (try clear y0 y1 y2 y3 y4 s0 s1 g1); obtain ⟨y0, y1, y2, y3, y4, s0, s1, g1⟩ := D2.out.cells) | (go_at_call 45; refine (set_any w0 _ lo hi gs 52 _ _ v2 r ram a _ D2.out.g D2.out.ks rfl (by decide) H.out.n HA.out.1 (by have := HA.out; have := H.out.r16; omega)).mono ?_; rintro e w3 ⟨rfl, hG, hk, hF⟩; have D3 := Aside0.mk (D2.out.set_ hG hk hF); clear hG hk hF; (try clear y0 y1 y2 y3 y4 s0 s1 g1); obtain ⟨y0, y1, y2, y3, y4, s0, s1, g1⟩ := D3.out.cells))
    refine bodyPost_ret (v := .int .i64 0) (by simp [results, Try.results91, go_sem]) rfl ?_
    exact D3.out.pc.ok
  | w23 ho =>
    subst ho
    go_wp2_with (first | (go_at_call 43; clear T1; refine (impl_within.calls 23 1 12 false _ (by decide)).mono ?_; rintro e w1 ⟨rfl, hd⟩; (try clear x0 x1 cb hw1 hw3); have D1 := Aside0.mk (do_start H.out hd.below); clear hd; (try clear y0 y1 y2 y3 y4 s0 s1 g1); obtain ⟨y0, y1, y2, y3, y4, s0, s1, g1⟩ := D1.out.cells) | (go_at_call 43; clear T2; refine (impl_within.calls 23 15 18 false _ (by decide)).mono ?_; rintro e w2 ⟨rfl, hd⟩; (try clear x0 x1 cb hw1 hw3); have D2 := Aside0.mk (D1.out.below hd.below); clear hd; (try clear y0 y1 y2 y3 y4 s0 s1 g1); obtain ⟨y0, y1, y2, y3, y4, s0, s1, g1⟩ := D2.out.cells))
    refine bodyPost_ret (v := .int .i64 0) (by simp [results, Try.results91, go_sem]) rfl ?_
    exact D2.out.pc.ok
  | w15 ho x K hl =>
    subst ho
    have HL := Aside0.mk hl
    clear hl
    go_wp2_with (first | (go_at_call 43; clear T1; refine (impl_within.calls 15 1 12 false _ (by decide)).mono ?_; rintro e w1 ⟨rfl, hd⟩; (try clear x0 x1 cb hw1 hw3); have D1 := Aside0.mk (do_start H.out hd.below); have F1 := Aside0.mk (do_start2 hd.below); clear hd; (try clear y0 y1 y2 y3 y4 s0 s1 g1); obtain ⟨y0, y1, y2, y3, y4, s0, s1, g1⟩ := D1.out.cells) | (go_at_call 43; clear T2; refine (impl_within.calls 15 15 18 true _ (by decide)).mono ?_; rintro e w2 ⟨rfl, hd⟩; (try clear x0 x1 cb hw1 hw3); have D2 := Aside0.mk (D1.out.below hd.below); have F2 := Aside0.mk (F1.out.step hd.below); clear hd; (try clear y0 y1 y2 y3 y4 s0 s1 g1); obtain ⟨y0, y1, y2, y3, y4, s0, s1, g1⟩ := D2.out.cells) | (go_at_call 101; refine (mem_15_ok w0 w9 _ lo hi gs _ v2 r ((p + 4) % 4294967296) ram A c l a b cc im ((rd r b + im) % 4294967296) x K HL.out (MemIn.of_do H.out D2.out F2.out) HA.out (by omega) (by omega)).mono ?_; rintro e w3 hh; obtain ⟨he, hr⟩ := hh; subst he; have D3 := Aside0.mk (D2.out.mem ⟨rfl, hr⟩); clear hr; (try clear y0 y1 y2 y3 y4 s0 s1 g1); obtain ⟨y0, y1, y2, y3, y4, s0, s1, g1⟩ := D3.out.cells))
    refine bodyPost_ret (v := .int .i64 0) (by simp [results, Try.results91, go_sem]) rfl ?_
    exact D3.out.ok
  | w16 ho i o K bs hl =>
    subst ho
    have HL := Aside0.mk hl
    clear hl
    go_wp2_with (first | (go_at_call 43; clear T1; refine (impl_within.calls 16 1 12 false _ (by decide)).mono ?_; rintro e w1 ⟨rfl, hd⟩; (try clear x0 x1 cb hw1 hw3); have D1 := Aside0.mk (do_start H.out hd.below); have F1 := Aside0.mk (do_start2 hd.below); clear hd; (try clear y0 y1 y2 y3 y4 s0 s1 g1); obtain ⟨y0, y1, y2, y3, y4, s0, s1, g1⟩ := D1.out.cells) | (go_at_call 43; clear T2; refine (impl_within.calls 16 15 18 true _ (by decide)).mono ?_; rintro e w2 ⟨rfl, hd⟩; (try clear x0 x1 cb hw1 hw3); have D2 := Aside0.mk (D1.out.below hd.below); have F2 := Aside0.mk (F1.out.step hd.below); clear hd; (try clear y0 y1 y2 y3 y4 s0 s1 g1); obtain ⟨y0, y1, y2, y3, y4, s0, s1, g1⟩ := D2.out.cells) | (go_at_call 101; refine (mem_16_ok w0 w9 _ lo hi gs _ v2 r ((p + 4) % 4294967296) ram A c l a b cc im ((rd r b + im) % 4294967296) i o K bs HL.out (MemIn.of_do H.out D2.out F2.out) HA.out (by omega) (by omega)).mono ?_; rintro e w3 hh; obtain ⟨he, hr⟩ := hh; subst he; have D3 := Aside0.mk (D2.out.mem ⟨rfl, hr⟩); clear hr; (try clear y0 y1 y2 y3 y4 s0 s1 g1); obtain ⟨y0, y1, y2, y3, y4, s0, s1, g1⟩ := D3.out.cells))
    refine bodyPost_ret (v := .int .i64 0) (by simp [results, Try.results91, go_sem]) rfl ?_
    exact D3.out.ok
  | w17 ho x K hl =>
    subst ho
    have HL := Aside0.mk hl
    clear hl
    go_wp2_with (first | (go_at_call 43; clear T1; refine (impl_within.calls 17 1 12 false _ (by decide)).mono ?_; rintro e w1 ⟨rfl, hd⟩; (try clear x0 x1 cb hw1 hw3); have D1 := Aside0.mk (do_start H.out hd.below); have F1 := Aside0.mk (do_start2 hd.below); clear hd; (try clear y0 y1 y2 y3 y4 s0 s1 g1); obtain ⟨y0, y1, y2, y3, y4, s0, s1, g1⟩ := D1.out.cells) | (go_at_call 43; clear T2; refine (impl_within.calls 17 15 18 true _ (by decide)).mono ?_; rintro e w2 ⟨rfl, hd⟩; (try clear x0 x1 cb hw1 hw3); have D2 := Aside0.mk (D1.out.below hd.below); have F2 := Aside0.mk (F1.out.step hd.below); clear hd; (try clear y0 y1 y2 y3 y4 s0 s1 g1); obtain ⟨y0, y1, y2, y3, y4, s0, s1, g1⟩ := D2.out.cells) | (go_at_call 101; refine (mem_17_ok w0 w9 _ lo hi gs _ v2 r ((p + 4) % 4294967296) ram A c l a b cc im ((rd r b + im) % 4294967296) x K HL.out (MemIn.of_do H.out D2.out F2.out) HA.out (by omega) (by omega)).mono ?_; rintro e w3 hh; obtain ⟨he, hr⟩ := hh; subst he; have D3 := Aside0.mk (D2.out.mem ⟨rfl, hr⟩); clear hr; (try clear y0 y1 y2 y3 y4 s0 s1 g1); obtain ⟨y0, y1, y2, y3, y4, s0, s1, g1⟩ := D3.out.cells))
    refine bodyPost_ret (v := .int .i64 0) (by simp [results, Try.results91, go_sem]) rfl ?_
    exact D3.out.ok
  | w18 ho i o K bs hl =>
    subst ho
    have HL := Aside0.mk hl
    clear hl
    go_wp2_with (first | (go_at_call 43; clear T1; refine (impl_within.calls 18 1 12 false _ (by decide)).mono ?_; rintro e w1 ⟨rfl, hd⟩; (try clear x0 x1 cb hw1 hw3); have D1 := Aside0.mk (do_start H.out hd.below); have F1 := Aside0.mk (do_start2 hd.below); clear hd; (try clear y0 y1 y2 y3 y4 s0 s1 g1); obtain ⟨y0, y1, y2, y3, y4, s0, s1, g1⟩ := D1.out.cells) | (go_at_call 43; clear T2; refine (impl_within.calls 18 15 18 true _ (by decide)).mono ?_; rintro e w2 ⟨rfl, hd⟩; (try clear x0 x1 cb hw1 hw3); have D2 := Aside0.mk (D1.out.below hd.below); have F2 := Aside0.mk (F1.out.step hd.below); clear hd; (try clear y0 y1 y2 y3 y4 s0 s1 g1); obtain ⟨y0, y1, y2, y3, y4, s0, s1, g1⟩ := D2.out.cells) | (go_at_call 101; refine (mem_18_ok w0 w9 _ lo hi gs _ v2 r ((p + 4) % 4294967296) ram A c l a b cc im ((rd r b + im) % 4294967296) i o K bs HL.out (MemIn.of_do H.out D2.out F2.out) HA.out (by omega) (by omega)).mono ?_; rintro e w3 hh; obtain ⟨he, hr⟩ := hh; subst he; have D3 := Aside0.mk (D2.out.mem ⟨rfl, hr⟩); clear hr; (try clear y0 y1 y2 y3 y4 s0 s1 g1); obtain ⟨y0, y1, y2, y3, y4, s0, s1, g1⟩ := D3.out.cells))
    refine bodyPost_ret (v := .int .i64 0) (by simp [results, Try.results91, go_sem]) rfl ?_
    exact D3.out.ok
  | walu hop x hx =>
    have HX := Aside0.mk hx
    have HOP := Aside0.mk hop
    clear hx hop
    go_wp2_with (go_at_call 43; clear T1; refine (impl_within.calls op 1 12 true _ HOP.out).mono ?_; rintro e w1 ⟨rfl, hd⟩; (try clear x0 x1 cb hw1 hw3); have D1 := Aside0.mk (do_start H.out hd.below); clear hd; (try clear y0 y1 y2 y3 y4 s0 s1 g1); obtain ⟨y0, y1, y2, y3, y4, s0, s1, g1⟩ := D1.out.cells; have t3 := reg_of D1.out.g H.out.r16 cc HCC.out.1 HCC.out.2)
    go_region_held3 (fun w' => w'.cell? ⟨W.heap.size, 0, none⟩ = some (.int .i64 op) ∧ w'.cell? ⟨gs, 0, none⟩ = some (.slice (some ⟨go, 0, none⟩) 16 co) ∧ w'.cell? ⟨W.heap.size, 3, none⟩ = some (.int .i64 cc) ∧ w'.cell? ⟨go, cc.toNat, none⟩ = some (.int .u32 (rd r cc))) (first | exact ⟨y0, s0, y3, t3⟩ | go_keep) ((first | (go_at_call 100; refine (impl_alu.calls op (rd r b) (rd r cc) x 0 _ HX.out).mono ?_; rintro e w2 ⟨rfl, hd⟩; have D2 := Aside0.mk (D1.out.below (Below.trans Quiet.go hd.below)); clear hd; (try clear y0 y1 y2 y3 y4 s0 s1 g1 t3); obtain ⟨y0, y1, y2, y3, y4, s0, s1, g1⟩ := D2.out.cells; have t3 := reg_of D2.out.g H.out.r16 cc HCC.out.1 HCC.out.2)))
    go_wp2_with (go_at_call 45; refine (set_any w0 _ lo hi gs 52 _ _ v2 r ram a _ D2.out.g D2.out.ks rfl (by decide) H.out.n HA.out.1 (by have := HA.out; have := H.out.r16; omega)).mono ?_; rintro e w3 ⟨rfl, hG, hk, hF⟩; have D3 := Aside0.mk (D2.out.set_ hG hk hF); clear hG hk hF; (try clear y0 y1 y2 y3 y4 s0 s1 g1); obtain ⟨y0, y1, y2, y3, y4, s0, s1, g1⟩ := D3.out.cells)
    refine bodyPost_ret (v := .int .i64 0) (by simp [results, Try.results91, go_sem]) rfl ?_
    exact D3.out.ok
  | w19_t ho hx =>
    subst ho
    have HX := Aside0.mk hx
    clear hx
    go_wp2_with (first | (go_at_call 43; clear T1; refine (impl_within.calls 19 1 12 false _ (by decide)).mono ?_; rintro e w1 ⟨rfl, hd⟩; (try clear x0 x1 cb hw1 hw3); have D1 := Aside0.mk (do_start H.out hd.below); clear hd; (try clear y0 y1 y2 y3 y4 s0 s1 g1); obtain ⟨y0, y1, y2, y3, y4, s0, s1, g1⟩ := D1.out.cells) | (go_at_call 43; clear T2; refine (impl_within.calls 19 15 18 false _ (by decide)).mono ?_; rintro e w2 ⟨rfl, hd⟩; (try clear x0 x1 cb hw1 hw3); have D2 := Aside0.mk (D1.out.below hd.below); clear hd; (try clear y0 y1 y2 y3 y4 s0 s1 g1); obtain ⟨y0, y1, y2, y3, y4, s0, s1, g1⟩ := D2.out.cells))
    have t3 := reg_of D2.out.g H.out.r16 a HA.out.1 HA.out.2
    go_region_held3 (fun w' => w'.cell? ⟨W.heap.size, 0, none⟩ = some (.int .i64 19) ∧ w'.cell? ⟨gs, 0, none⟩ = some (.slice (some ⟨go, 0, none⟩) 16 co) ∧ w'.cell? ⟨W.heap.size, 1, none⟩ = some (.int .i64 a) ∧ w'.cell? ⟨go, a.toNat, none⟩ = some (.int .u32 (rd r a))) (first | exact ⟨y0, s0, y1, t3⟩ | go_keep) ((first | (go_at_call 102; refine (impl_taken.calls 19 (rd r a) (rd r b) true _ HX.out).mono ?_; rintro e w3 ⟨rfl, hd⟩; have D3 := Aside0.mk (D2.out.below (Below.trans Quiet.go hd.below)); clear hd; (try clear y0 y1 y2 y3 y4 s0 s1 g1 t3); obtain ⟨y0, y1, y2, y3, y4, s0, s1, g1⟩ := D3.out.cells; have t3 := reg_of D3.out.g H.out.r16 a HA.out.1 HA.out.2)))
    go_wp2
    refine bodyPost_ret (v := .int .i64 0) (by simp [results, Try.results91, go_sem]) rfl ?_
    exact D3.out.pc.ok
  | w19_f ho hx =>
    subst ho
    have HX := Aside0.mk hx
    clear hx
    go_wp2_with (first | (go_at_call 43; clear T1; refine (impl_within.calls 19 1 12 false _ (by decide)).mono ?_; rintro e w1 ⟨rfl, hd⟩; (try clear x0 x1 cb hw1 hw3); have D1 := Aside0.mk (do_start H.out hd.below); clear hd; (try clear y0 y1 y2 y3 y4 s0 s1 g1); obtain ⟨y0, y1, y2, y3, y4, s0, s1, g1⟩ := D1.out.cells) | (go_at_call 43; clear T2; refine (impl_within.calls 19 15 18 false _ (by decide)).mono ?_; rintro e w2 ⟨rfl, hd⟩; (try clear x0 x1 cb hw1 hw3); have D2 := Aside0.mk (D1.out.below hd.below); clear hd; (try clear y0 y1 y2 y3 y4 s0 s1 g1); obtain ⟨y0, y1, y2, y3, y4, s0, s1, g1⟩ := D2.out.cells))
    have t3 := reg_of D2.out.g H.out.r16 a HA.out.1 HA.out.2
    go_region_held3 (fun w' => w'.cell? ⟨W.heap.size, 0, none⟩ = some (.int .i64 19) ∧ w'.cell? ⟨gs, 0, none⟩ = some (.slice (some ⟨go, 0, none⟩) 16 co) ∧ w'.cell? ⟨W.heap.size, 1, none⟩ = some (.int .i64 a) ∧ w'.cell? ⟨go, a.toNat, none⟩ = some (.int .u32 (rd r a))) (first | exact ⟨y0, s0, y1, t3⟩ | go_keep) ((first | (go_at_call 102; refine (impl_taken.calls 19 (rd r a) (rd r b) false _ HX.out).mono ?_; rintro e w3 ⟨rfl, hd⟩; have D3 := Aside0.mk (D2.out.below (Below.trans Quiet.go hd.below)); clear hd; (try clear y0 y1 y2 y3 y4 s0 s1 g1 t3); obtain ⟨y0, y1, y2, y3, y4, s0, s1, g1⟩ := D3.out.cells; have t3 := reg_of D3.out.g H.out.r16 a HA.out.1 HA.out.2)))
    go_wp2
    refine bodyPost_ret (v := .int .i64 0) (by simp [results, Try.results91, go_sem]) rfl ?_
    exact D3.out.ok
  | w20_t ho hx =>
    subst ho
    have HX := Aside0.mk hx
    clear hx
    go_wp2_with (first | (go_at_call 43; clear T1; refine (impl_within.calls 20 1 12 false _ (by decide)).mono ?_; rintro e w1 ⟨rfl, hd⟩; (try clear x0 x1 cb hw1 hw3); have D1 := Aside0.mk (do_start H.out hd.below); clear hd; (try clear y0 y1 y2 y3 y4 s0 s1 g1); obtain ⟨y0, y1, y2, y3, y4, s0, s1, g1⟩ := D1.out.cells) | (go_at_call 43; clear T2; refine (impl_within.calls 20 15 18 false _ (by decide)).mono ?_; rintro e w2 ⟨rfl, hd⟩; (try clear x0 x1 cb hw1 hw3); have D2 := Aside0.mk (D1.out.below hd.below); clear hd; (try clear y0 y1 y2 y3 y4 s0 s1 g1); obtain ⟨y0, y1, y2, y3, y4, s0, s1, g1⟩ := D2.out.cells))
    have t3 := reg_of D2.out.g H.out.r16 a HA.out.1 HA.out.2
    go_region_held3 (fun w' => w'.cell? ⟨W.heap.size, 0, none⟩ = some (.int .i64 20) ∧ w'.cell? ⟨gs, 0, none⟩ = some (.slice (some ⟨go, 0, none⟩) 16 co) ∧ w'.cell? ⟨W.heap.size, 1, none⟩ = some (.int .i64 a) ∧ w'.cell? ⟨go, a.toNat, none⟩ = some (.int .u32 (rd r a))) (first | exact ⟨y0, s0, y1, t3⟩ | go_keep) ((first | (go_at_call 102; refine (impl_taken.calls 20 (rd r a) (rd r b) true _ HX.out).mono ?_; rintro e w3 ⟨rfl, hd⟩; have D3 := Aside0.mk (D2.out.below (Below.trans Quiet.go hd.below)); clear hd; (try clear y0 y1 y2 y3 y4 s0 s1 g1 t3); obtain ⟨y0, y1, y2, y3, y4, s0, s1, g1⟩ := D3.out.cells; have t3 := reg_of D3.out.g H.out.r16 a HA.out.1 HA.out.2)))
    go_wp2
    refine bodyPost_ret (v := .int .i64 0) (by simp [results, Try.results91, go_sem]) rfl ?_
    exact D3.out.pc.ok
  | w20_f ho hx =>
    subst ho
    have HX := Aside0.mk hx
    clear hx
    go_wp2_with (first | (go_at_call 43; clear T1; refine (impl_within.calls 20 1 12 false _ (by decide)).mono ?_; rintro e w1 ⟨rfl, hd⟩; (try clear x0 x1 cb hw1 hw3); have D1 := Aside0.mk (do_start H.out hd.below); clear hd; (try clear y0 y1 y2 y3 y4 s0 s1 g1); obtain ⟨y0, y1, y2, y3, y4, s0, s1, g1⟩ := D1.out.cells) | (go_at_call 43; clear T2; refine (impl_within.calls 20 15 18 false _ (by decide)).mono ?_; rintro e w2 ⟨rfl, hd⟩; (try clear x0 x1 cb hw1 hw3); have D2 := Aside0.mk (D1.out.below hd.below); clear hd; (try clear y0 y1 y2 y3 y4 s0 s1 g1); obtain ⟨y0, y1, y2, y3, y4, s0, s1, g1⟩ := D2.out.cells))
    have t3 := reg_of D2.out.g H.out.r16 a HA.out.1 HA.out.2
    go_region_held3 (fun w' => w'.cell? ⟨W.heap.size, 0, none⟩ = some (.int .i64 20) ∧ w'.cell? ⟨gs, 0, none⟩ = some (.slice (some ⟨go, 0, none⟩) 16 co) ∧ w'.cell? ⟨W.heap.size, 1, none⟩ = some (.int .i64 a) ∧ w'.cell? ⟨go, a.toNat, none⟩ = some (.int .u32 (rd r a))) (first | exact ⟨y0, s0, y1, t3⟩ | go_keep) ((first | (go_at_call 102; refine (impl_taken.calls 20 (rd r a) (rd r b) false _ HX.out).mono ?_; rintro e w3 ⟨rfl, hd⟩; have D3 := Aside0.mk (D2.out.below (Below.trans Quiet.go hd.below)); clear hd; (try clear y0 y1 y2 y3 y4 s0 s1 g1 t3); obtain ⟨y0, y1, y2, y3, y4, s0, s1, g1⟩ := D3.out.cells; have t3 := reg_of D3.out.g H.out.r16 a HA.out.1 HA.out.2)))
    go_wp2
    refine bodyPost_ret (v := .int .i64 0) (by simp [results, Try.results91, go_sem]) rfl ?_
    exact D3.out.ok
  | w21_t ho hx =>
    subst ho
    have HX := Aside0.mk hx
    clear hx
    go_wp2_with (first | (go_at_call 43; clear T1; refine (impl_within.calls 21 1 12 false _ (by decide)).mono ?_; rintro e w1 ⟨rfl, hd⟩; (try clear x0 x1 cb hw1 hw3); have D1 := Aside0.mk (do_start H.out hd.below); clear hd; (try clear y0 y1 y2 y3 y4 s0 s1 g1); obtain ⟨y0, y1, y2, y3, y4, s0, s1, g1⟩ := D1.out.cells) | (go_at_call 43; clear T2; refine (impl_within.calls 21 15 18 false _ (by decide)).mono ?_; rintro e w2 ⟨rfl, hd⟩; (try clear x0 x1 cb hw1 hw3); have D2 := Aside0.mk (D1.out.below hd.below); clear hd; (try clear y0 y1 y2 y3 y4 s0 s1 g1); obtain ⟨y0, y1, y2, y3, y4, s0, s1, g1⟩ := D2.out.cells))
    have t3 := reg_of D2.out.g H.out.r16 a HA.out.1 HA.out.2
    go_region_held3 (fun w' => w'.cell? ⟨W.heap.size, 0, none⟩ = some (.int .i64 21) ∧ w'.cell? ⟨gs, 0, none⟩ = some (.slice (some ⟨go, 0, none⟩) 16 co) ∧ w'.cell? ⟨W.heap.size, 1, none⟩ = some (.int .i64 a) ∧ w'.cell? ⟨go, a.toNat, none⟩ = some (.int .u32 (rd r a))) (first | exact ⟨y0, s0, y1, t3⟩ | go_keep) ((first | (go_at_call 102; refine (impl_taken.calls 21 (rd r a) (rd r b) true _ HX.out).mono ?_; rintro e w3 ⟨rfl, hd⟩; have D3 := Aside0.mk (D2.out.below (Below.trans Quiet.go hd.below)); clear hd; (try clear y0 y1 y2 y3 y4 s0 s1 g1 t3); obtain ⟨y0, y1, y2, y3, y4, s0, s1, g1⟩ := D3.out.cells; have t3 := reg_of D3.out.g H.out.r16 a HA.out.1 HA.out.2)))
    go_wp2
    refine bodyPost_ret (v := .int .i64 0) (by simp [results, Try.results91, go_sem]) rfl ?_
    exact D3.out.pc.ok
  | w21_f ho hx =>
    subst ho
    have HX := Aside0.mk hx
    clear hx
    go_wp2_with (first | (go_at_call 43; clear T1; refine (impl_within.calls 21 1 12 false _ (by decide)).mono ?_; rintro e w1 ⟨rfl, hd⟩; (try clear x0 x1 cb hw1 hw3); have D1 := Aside0.mk (do_start H.out hd.below); clear hd; (try clear y0 y1 y2 y3 y4 s0 s1 g1); obtain ⟨y0, y1, y2, y3, y4, s0, s1, g1⟩ := D1.out.cells) | (go_at_call 43; clear T2; refine (impl_within.calls 21 15 18 false _ (by decide)).mono ?_; rintro e w2 ⟨rfl, hd⟩; (try clear x0 x1 cb hw1 hw3); have D2 := Aside0.mk (D1.out.below hd.below); clear hd; (try clear y0 y1 y2 y3 y4 s0 s1 g1); obtain ⟨y0, y1, y2, y3, y4, s0, s1, g1⟩ := D2.out.cells))
    have t3 := reg_of D2.out.g H.out.r16 a HA.out.1 HA.out.2
    go_region_held3 (fun w' => w'.cell? ⟨W.heap.size, 0, none⟩ = some (.int .i64 21) ∧ w'.cell? ⟨gs, 0, none⟩ = some (.slice (some ⟨go, 0, none⟩) 16 co) ∧ w'.cell? ⟨W.heap.size, 1, none⟩ = some (.int .i64 a) ∧ w'.cell? ⟨go, a.toNat, none⟩ = some (.int .u32 (rd r a))) (first | exact ⟨y0, s0, y1, t3⟩ | go_keep) ((first | (go_at_call 102; refine (impl_taken.calls 21 (rd r a) (rd r b) false _ HX.out).mono ?_; rintro e w3 ⟨rfl, hd⟩; have D3 := Aside0.mk (D2.out.below (Below.trans Quiet.go hd.below)); clear hd; (try clear y0 y1 y2 y3 y4 s0 s1 g1 t3); obtain ⟨y0, y1, y2, y3, y4, s0, s1, g1⟩ := D3.out.cells; have t3 := reg_of D3.out.g H.out.r16 a HA.out.1 HA.out.2)))
    go_wp2
    refine bodyPost_ret (v := .int .i64 0) (by simp [results, Try.results91, go_sem]) rfl ?_
    exact D3.out.ok
inductive DoNo (l : List S70) (r : List Int) (p : Int) (ram : List (List Int)) (a b cc im cy op : Int) : Int → Prop
  | w15 (ho : op = 15) (t : Int) (ht : t ≠ 0) (K : Nat) (hl : impl_Guest_load.f K r ((p + 4) % 4294967296) ram l ((rd r b + im) % 4294967296) 4 1 = some (0, t, ((p + 4) % 4294967296))) : DoNo l r p ram a b cc im cy op t
  | w16 (ho : op = 16) (t : Int) (ht : t ≠ 0) (K : Nat) (hl : impl_faultAt.f K l ((rd r b + im) % 4294967296) 4 2 = some t) : DoNo l r p ram a b cc im cy op t
  | w17 (ho : op = 17) (t : Int) (ht : t ≠ 0) (K : Nat) (hl : impl_Guest_load.f K r ((p + 4) % 4294967296) ram l ((rd r b + im) % 4294967296) 1 1 = some (0, t, ((p + 4) % 4294967296))) : DoNo l r p ram a b cc im cy op t
  | w18 (ho : op = 18) (t : Int) (ht : t ≠ 0) (K : Nat) (hl : impl_faultAt.f K l ((rd r b + im) % 4294967296) 1 2 = some t) : DoNo l r p ram a b cc im cy op t
  | walu (hop : impl_within.f op 1 12 = some true) (x t : Int) (hx : impl_alu.f op (rd r b) (rd r cc) = some (x, t)) : DoNo l r p ram a b cc im cy op t
set_option maxHeartbeats 40000000 in
set_option maxRecDepth 100000 in
theorem do_no (w0 w9 W : World) (lo hi gs : Nat) (v0 v2 : Value) (r : List Int) (p : Int) (ram : List (List Int)) (A : Option Addr) (c : Nat) (l : List S70) (op a b cc im cy : Int) (h : DoIn w0 w9 W lo hi gs v0 v2 r p ram op A c l) (ha : 0 ≤ a ∧ a ≤ 15) (hb : 0 ≤ b ∧ b ≤ 15) (hcc : 0 ≤ cc ∧ cc ≤ 15) (t : Int) (hw : DoNo l r p ram a b cc im cy op t) :
    Calls Try.prog 91 #[.pointer (some ⟨gs, 0, none⟩), .slice A l.length c, .agg #[.int .i64 op, .int .i64 a, .int .i64 b, .int .i64 cc, .int .i64 im], .int .i64 cy] W (DoBad W lo hi gs t) := by
  have hu89 := Try.underlying89
  have hu52 := Try.underlying52
  have hu28 := Try.underlying28
  obtain ⟨go, co, rfl, hlt, hin, hcel⟩ := reg_at h.g h.r16
  have x0 := kc h.b 0 rfl
  have x1 := kc h.b 1 rfl
  have f1 := blk_frozen h.b 1
  have cb := hcel b hb.1 hb.2
  have hgl := blk_lt h.b
  have hne : gs ≠ go := fun e => h.n (e ▸ hin)
  obtain ⟨b0, b1⟩ := hb
  have hw1 := World.new_ne W _ x0
  have hw3 := World.new_ne W _ cb
  have H := Aside0.mk h
  have HA := Aside0.mk ha
  have HB := Aside0.mk (show 0 ≤ b ∧ b ≤ 15 from ⟨b0, b1⟩)
  have HCC := Aside0.mk hcc
  have HCEL := Aside0.mk hcel
  have HIN := Aside0.mk hin
  have HNE := Aside0.mk hne
  have bb : (b : Int) < 16 := by omega
  have T1 := Aside0.mk trivial
  have T2 := Aside0.mk trivial
  have a0 : 0 ≤ a := ha.1
  have a1 : a ≤ 15 := ha.2
  have aa : a < 16 := by omega
  have cc0 : 0 ≤ cc := hcc.1
  have cc1 : cc < 16 := by omega
  clear h ha hcel hin hcc
  go_enter Try.func91, Try.ntmps91
  go_wp2
  go_quiet (fail)
  cases hw with
  | w15 ho _ ht K hl =>
    subst ho
    have HL := Aside0.mk hl
    clear hl
    have HT := Aside0.mk ht
    clear ht
    go_wp2_with (first | (go_at_call 43; clear T1; refine (impl_within.calls 15 1 12 false _ (by decide)).mono ?_; rintro e w1 ⟨rfl, hd⟩; (try clear x0 x1 cb hw1 hw3); have D1 := Aside0.mk (do_start H.out hd.below); have F1 := Aside0.mk (do_start2 hd.below); clear hd; (try clear y0 y1 y2 y3 y4 s0 s1 g1); obtain ⟨y0, y1, y2, y3, y4, s0, s1, g1⟩ := D1.out.cells) | (go_at_call 43; clear T2; refine (impl_within.calls 15 15 18 true _ (by decide)).mono ?_; rintro e w2 ⟨rfl, hd⟩; (try clear x0 x1 cb hw1 hw3); have D2 := Aside0.mk (D1.out.below hd.below); have F2 := Aside0.mk (F1.out.step hd.below); clear hd; (try clear y0 y1 y2 y3 y4 s0 s1 g1); obtain ⟨y0, y1, y2, y3, y4, s0, s1, g1⟩ := D2.out.cells) | (go_at_call 101; refine (mem_15_no w0 w9 _ lo hi gs _ v2 r ((p + 4) % 4294967296) ram A c l a b cc im ((rd r b + im) % 4294967296) t HT.out K HL.out (MemIn.of_do H.out D2.out F2.out) HA.out (by omega) (by omega)).mono ?_; rintro e w3 hh; obtain ⟨he, hr⟩ := hh; subst he; have F3 := Aside0.mk (D2.out.f.trans hr (fun k hk => .inl hk)); clear hr))
    refine bodyPost_ret (v := .int .i64 t) (by simp [results, Try.results91, go_sem]) rfl ?_
    exact ⟨rfl, fq F3.out⟩
  | w16 ho _ ht K hl =>
    subst ho
    have HL := Aside0.mk hl
    clear hl
    have HT := Aside0.mk ht
    clear ht
    go_wp2_with (first | (go_at_call 43; clear T1; refine (impl_within.calls 16 1 12 false _ (by decide)).mono ?_; rintro e w1 ⟨rfl, hd⟩; (try clear x0 x1 cb hw1 hw3); have D1 := Aside0.mk (do_start H.out hd.below); have F1 := Aside0.mk (do_start2 hd.below); clear hd; (try clear y0 y1 y2 y3 y4 s0 s1 g1); obtain ⟨y0, y1, y2, y3, y4, s0, s1, g1⟩ := D1.out.cells) | (go_at_call 43; clear T2; refine (impl_within.calls 16 15 18 true _ (by decide)).mono ?_; rintro e w2 ⟨rfl, hd⟩; (try clear x0 x1 cb hw1 hw3); have D2 := Aside0.mk (D1.out.below hd.below); have F2 := Aside0.mk (F1.out.step hd.below); clear hd; (try clear y0 y1 y2 y3 y4 s0 s1 g1); obtain ⟨y0, y1, y2, y3, y4, s0, s1, g1⟩ := D2.out.cells) | (go_at_call 101; refine (mem_16_no w0 w9 _ lo hi gs _ v2 r ((p + 4) % 4294967296) ram A c l a b cc im ((rd r b + im) % 4294967296) t HT.out K HL.out (MemIn.of_do H.out D2.out F2.out) HA.out (by omega) (by omega)).mono ?_; rintro e w3 hh; obtain ⟨he, hr⟩ := hh; subst he; have F3 := Aside0.mk (D2.out.f.trans hr (fun k hk => .inl hk)); clear hr))
    refine bodyPost_ret (v := .int .i64 t) (by simp [results, Try.results91, go_sem]) rfl ?_
    exact ⟨rfl, fq F3.out⟩
  | w17 ho _ ht K hl =>
    subst ho
    have HL := Aside0.mk hl
    clear hl
    have HT := Aside0.mk ht
    clear ht
    go_wp2_with (first | (go_at_call 43; clear T1; refine (impl_within.calls 17 1 12 false _ (by decide)).mono ?_; rintro e w1 ⟨rfl, hd⟩; (try clear x0 x1 cb hw1 hw3); have D1 := Aside0.mk (do_start H.out hd.below); have F1 := Aside0.mk (do_start2 hd.below); clear hd; (try clear y0 y1 y2 y3 y4 s0 s1 g1); obtain ⟨y0, y1, y2, y3, y4, s0, s1, g1⟩ := D1.out.cells) | (go_at_call 43; clear T2; refine (impl_within.calls 17 15 18 true _ (by decide)).mono ?_; rintro e w2 ⟨rfl, hd⟩; (try clear x0 x1 cb hw1 hw3); have D2 := Aside0.mk (D1.out.below hd.below); have F2 := Aside0.mk (F1.out.step hd.below); clear hd; (try clear y0 y1 y2 y3 y4 s0 s1 g1); obtain ⟨y0, y1, y2, y3, y4, s0, s1, g1⟩ := D2.out.cells) | (go_at_call 101; refine (mem_17_no w0 w9 _ lo hi gs _ v2 r ((p + 4) % 4294967296) ram A c l a b cc im ((rd r b + im) % 4294967296) t HT.out K HL.out (MemIn.of_do H.out D2.out F2.out) HA.out (by omega) (by omega)).mono ?_; rintro e w3 hh; obtain ⟨he, hr⟩ := hh; subst he; have F3 := Aside0.mk (D2.out.f.trans hr (fun k hk => .inl hk)); clear hr))
    refine bodyPost_ret (v := .int .i64 t) (by simp [results, Try.results91, go_sem]) rfl ?_
    exact ⟨rfl, fq F3.out⟩
  | w18 ho _ ht K hl =>
    subst ho
    have HL := Aside0.mk hl
    clear hl
    have HT := Aside0.mk ht
    clear ht
    go_wp2_with (first | (go_at_call 43; clear T1; refine (impl_within.calls 18 1 12 false _ (by decide)).mono ?_; rintro e w1 ⟨rfl, hd⟩; (try clear x0 x1 cb hw1 hw3); have D1 := Aside0.mk (do_start H.out hd.below); have F1 := Aside0.mk (do_start2 hd.below); clear hd; (try clear y0 y1 y2 y3 y4 s0 s1 g1); obtain ⟨y0, y1, y2, y3, y4, s0, s1, g1⟩ := D1.out.cells) | (go_at_call 43; clear T2; refine (impl_within.calls 18 15 18 true _ (by decide)).mono ?_; rintro e w2 ⟨rfl, hd⟩; (try clear x0 x1 cb hw1 hw3); have D2 := Aside0.mk (D1.out.below hd.below); have F2 := Aside0.mk (F1.out.step hd.below); clear hd; (try clear y0 y1 y2 y3 y4 s0 s1 g1); obtain ⟨y0, y1, y2, y3, y4, s0, s1, g1⟩ := D2.out.cells) | (go_at_call 101; refine (mem_18_no w0 w9 _ lo hi gs _ v2 r ((p + 4) % 4294967296) ram A c l a b cc im ((rd r b + im) % 4294967296) t HT.out K HL.out (MemIn.of_do H.out D2.out F2.out) HA.out (by omega) (by omega)).mono ?_; rintro e w3 hh; obtain ⟨he, hr⟩ := hh; subst he; have F3 := Aside0.mk (D2.out.f.trans hr (fun k hk => .inl hk)); clear hr))
    refine bodyPost_ret (v := .int .i64 t) (by simp [results, Try.results91, go_sem]) rfl ?_
    exact ⟨rfl, fq F3.out⟩
  | walu hop x _ hx =>
    have HX := Aside0.mk hx
    have HOP := Aside0.mk hop
    clear hx hop
    go_wp2_with (go_at_call 43; clear T1; refine (impl_within.calls op 1 12 true _ HOP.out).mono ?_; rintro e w1 ⟨rfl, hd⟩; (try clear x0 x1 cb hw1 hw3); have D1 := Aside0.mk (do_start H.out hd.below); clear hd; (try clear y0 y1 y2 y3 y4 s0 s1 g1); obtain ⟨y0, y1, y2, y3, y4, s0, s1, g1⟩ := D1.out.cells; have t3 := reg_of D1.out.g H.out.r16 cc HCC.out.1 HCC.out.2)
    go_region_held3 (fun w' => w'.cell? ⟨W.heap.size, 0, none⟩ = some (.int .i64 op) ∧ w'.cell? ⟨gs, 0, none⟩ = some (.slice (some ⟨go, 0, none⟩) 16 co) ∧ w'.cell? ⟨W.heap.size, 3, none⟩ = some (.int .i64 cc) ∧ w'.cell? ⟨go, cc.toNat, none⟩ = some (.int .u32 (rd r cc))) (first | exact ⟨y0, s0, y3, t3⟩ | go_keep) ((first | (go_at_call 100; refine (impl_alu.calls op (rd r b) (rd r cc) x t _ HX.out).mono ?_; rintro e w2 ⟨rfl, hd⟩; have D2 := Aside0.mk (D1.out.below (Below.trans Quiet.go hd.below)); clear hd; (try clear y0 y1 y2 y3 y4 s0 s1 g1 t3); obtain ⟨y0, y1, y2, y3, y4, s0, s1, g1⟩ := D2.out.cells; have t3 := reg_of D2.out.g H.out.r16 cc HCC.out.1 HCC.out.2)))
    go_wp2_with (go_at_call 45; refine (set_any w0 _ lo hi gs 52 _ _ v2 r ram a _ D2.out.g D2.out.ks rfl (by decide) H.out.n HA.out.1 (by have := HA.out; have := H.out.r16; omega)).mono ?_; rintro e w3 ⟨rfl, hG, hk, hF⟩; have D3 := Aside0.mk (D2.out.set_ hG hk hF); clear hG hk hF; (try clear y0 y1 y2 y3 y4 s0 s1 g1); obtain ⟨y0, y1, y2, y3, y4, s0, s1, g1⟩ := D3.out.cells)
    refine bodyPost_ret (v := .int .i64 t) (by simp [results, Try.results91, go_sem]) rfl ?_
    exact ⟨rfl, fq D3.out.f⟩
end Go.Proofs.Ytbcpkigeginmnaa.GF
