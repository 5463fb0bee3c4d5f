/- (*Cache).use, walked by hand: the line was there. -/
import Derived.Test.YtglehilfemfiiaaCcgU
namespace Go.Proofs.Ytglehilfemfiiaa.GU
open Go.RowKit Go.Proofs.YtglehilfemfiiaaW.PrintWords Go.Proofs.YtglehilfemfiiaaW.PrintLast Go.Proofs.YtglehilfemfiiaaW.PrintMore Go.Proofs.Ytglehilfemfiiaa.Q Go.Proofs.Ytglehilfemfiiaa.Hnd
set_option linter.unusedVariables false
set_option linter.unusedSimpArgs false
theorem gen_world {P : World → Prop} {W : World} (S : World → Prop) (hS : S W) (h : ∀ W', S W' → P W') : P W := h W hS
/-- Between: the cache, the row, the way that is moved, in block gw. -/
structure MID (cp : Nat) (sp : List Value) (B : Nat) (W X : World) (gc gr g gw : Nat) (s0 s1 s2 : Int) (vs : List Value) (rows : List (List S118)) (n c : Nat) (l : List S118) (y0 : Int) (d : Bool) : Prop where
  be : Below W.heap.size W X
  cs : CS cp sp B X gc gr s0 s1 s2 vs rows
  row : Kd.R k118 118 X B (fun _ => True) (.slice (some ⟨g, 0, none⟩) n c) l
  kw : X.heap[gw]? = some (.cells #[.int .i64 y0, .bool d] 118 (0, 0))
  n1 : gw ≠ g
  n2 : gw ≠ gr
  n3 : gw ≠ gc
theorem mid_of {cp : Nat} {sp : List Value} {B gc gr g : Nat} {W w1 : World} {s0 s1 s2 : Int} {vs : List Value} {rows : List (List S118)} {n c : Nat} {l : List S118} {y0 : Int} {d : Bool} (hb : Below W.heap.size W w1) (h : CS cp sp B w1 gc gr s0 s1 s2 vs rows) (hr : Kd.R k118 118 w1 B (fun _ => True) (.slice (some ⟨g, 0, none⟩) n c) l) :
    MID cp sp B W (w1.alloc (.cells #[.int .i64 y0, .bool d] 118)) gc gr g w1.heap.size s0 s1 s2 vs rows n c l y0 d :=
  ⟨below_step hb (below_alloc (Below.refl _ _) _), h.step (below_alloc (Below.refl _ _) _), Kd.R_below hr (below_alloc (Below.refl _ _) _), at1_0, fun e => by have := Kd.R_lt hr g rfl; omega, fun e => by have := blk_lt h.tab; omega, fun e => by have := blk_lt h.box; omega⟩
theorem upq {cp : Nat} {sp : List Value} {B gc gr r : Nat} {W W1 W' : World} {s0 s1 s2 : Int} {vs : List Value} {rows : List (List S118)} {u : Bool × Bool × List S118} {e : Ending} (h : UsePost cp sp B W gc gr s0 s1 s2 vs rows r u e W1) [q : Quiet W1 W'] : UsePost cp sp B W gc gr s0 s1 s2 vs rows r u e W' := by
  obtain ⟨h1, vs', h2, h3, h4⟩ := h
  exact ⟨h1, vs', h2, h3.step q.go, fq h4⟩
theorem sq {W W' : World} [q : Quiet W W'] : W.heap.size ≤ W'.heap.size := q.go.size
set_option maxHeartbeats 2000000 in
set_option maxRecDepth 100000 in
theorem use_hit {cp : Nat} {sp : List Value} (B gc gr : Nat) (s0 s1 s2 a : Int) (wr : Bool) (vs : List Value) (rows : List (List S118)) (W : World) (hcs : CS cp sp B W gc gr s0 s1 s2 vs rows) (ha : 0 ≤ a) (ha2 : a ≤ 65535) (h0 : 1 ≤ s0) (h2 : 1 ≤ s2) (hvn : vs.length ≤ 1000)
    (r : Nat) (hr : a / s2 % s0 = (r : Int)) (hrl : r < vs.length) (t : Int) (ht : a / s2 / s0 = t) (v : Value) (l : List S118) (hv : vs[r]? = some v) (hl : rows[r]? = some l) (hll : l.length < 900) (i : Nat) (hi : l.findIdx? (tagB t) = some i) :
    Calls Try.prog 62 #[.pointer (some ⟨gc, 0, none⟩), .int .i64 a, .bool wr] W (UsePost cp sp B W gc gr s0 s1 s2 vs rows r (true, false, ⟨(rd_T118 l i).f0, (rd_T118 l i).f1 || wr⟩ :: l.eraseIdx i)) := by
  have hu70 := Try.underlying70
  have hu118 := Try.underlying118
  obtain ⟨e1, hq0, hq1⟩ := tdiv_pos ha ha2 h2
  obtain ⟨e2, hq2, hq3⟩ := tdiv_pos hq0 hq1 h0
  have hrd : rd_L3 rows (r : Int) = l := by unfold rd_L3; rw [Int.toNat_natCast, List.getD_eq_getElem?_getD, hl]; rfl
  have hrow : Int.tmod (wrap64 (Int.tdiv a s2)) s0 = (r : Int) := by rw [e1, Int.tmod_eq_emod_of_nonneg hq0, hr]
  have hfind := find_calls s0 s1 s2 a (some ⟨gr, 0, none⟩) cp rows r W (hcs.C hvn) (by omega) (by omega) hrow (by rw [hcs.len]; exact hrl)
  have hidx : idxW (tagB t) l = (i : Int) := by unfold idxW; rw [hi]
  have hil : i < l.length := by
    rw [List.findIdx?_eq_some_iff_getElem] at hi
    exact hi.1
  rw [hrd, e1, e2, ht, hidx, hcs.len] at hfind
  have hR := hcs.row r v l hv hl
  obtain ⟨g, c, rfl, hbg, _, _⟩ := Kd.R_form hR (by omega)
  obtain ⟨m, hm⟩ : ∃ m, l.length = m + 1 := ⟨l.length - 1, by omega⟩
  rw [hm] at hR hv
  have hlc := (R_cells hR).2.2.1
  have c0 := kc hcs.box 0 rfl
  have c1 := kc hcs.box 1 rfl
  have c2 := kc hcs.box 2 rfl
  have c3 := kc hcs.box 3 rfl
  have n1 := hcs.box_tab
  have n2 : gc ≠ g := hcs.ne_box hv rfl
  have n3 : gr ≠ g := hcs.ne_tab hv rfl
  have HCS := Aside0.mk hcs
  have HV := Aside0.mk hv
  have HM := Aside0.mk hm
  obtain ⟨N, hN⟩ : ∃ N, N = vs.length := ⟨_, rfl⟩
  rw [← hN] at hfind hvn hrl c3
  have HN := Aside0.mk hN
  have HL := Aside0.mk hll
  obtain ⟨y, hy⟩ : ∃ y, y = rd_T118 l (i : Int) := ⟨_, rfl⟩
  rw [← hy]
  have HY := Aside0.mk hy
  have HR := Aside0.mk (show Kd.R k118 118 W B (fun _ => True) (.slice (some ⟨g, 0, none⟩) (m + 1) c) l from hR)
  obtain ⟨y0, y1⟩ := y
  dsimp only
  have him : i ≤ m := by omega
  have hrz : (r : Int) < (N : Int) := by omega
  clear hcs hr ht hv hl hll hi hrd hrow hidx hR hm hN hy e1 e2 hq0 hq1 hq2 hq3 hil
  have hw : IntKind.i64.wrap ((i : Int) + 1) = (i : Int) + 1 := by have h := HM.out; have h2 := HL.out; rw [IntKind.wrap_i64]; omega
  have HW := Aside0.mk hw
  have HLE := Aside0.mk (show (l.eraseIdx i).length < 1000 by have h := HL.out; have := List.length_eraseIdx_le l i; omega)
  clear hw
  cases y1 with
  | false =>
    simp only [Bool.false_or]
    go_enter Try.func62, Try.ntmps62
    go_wp2_with (go_at_call 93; refine hfind.mono ?_; rintro e w1 ⟨rfl, hb1⟩; have HB1 := Aside0.mk hb1; have H1 := Aside0.mk (HCS.out.step hb1); have HR1 := Aside0.mk (Kd.R_below HR.out hb1); clear hb1; have d3 : w1.cell? ⟨gc, 3, none⟩ = some (.slice (some ⟨gr, 0, none⟩) N cp) := (by rw [HN.out]; exact kc H1.out.box 3 rfl); have dt : w1.cell? ⟨gr, r, none⟩ = some (.slice (some ⟨g, 0, none⟩) (m + 1) c) := tab_cell H1.out.tab HV.out; obtain ⟨ce, hcl, hM, hcc, hfr⟩ := Kd.R_elem HR1.out z118 (i : Int) (by omega) (by omega); obtain rfl := k118_openM hM; have d0 : w1.cell? ⟨g, i * 2, none⟩ = some (.int .i64 y0) := (hcc 0 _ rfl).trans (by rw [show l.getD (i : Int).toNat z118 = ⟨y0, _⟩ from HY.out.symm]); have d1 : w1.cell? ⟨g, i * 2 + 1, none⟩ = some (.bool _) := (hcc 1 _ rfl).trans (by rw [show l.getD (i : Int).toNat z118 = ⟨y0, _⟩ from HY.out.symm]); clear hcl hM hcc hfr)
    refine gen_world (P := fun X => Code.wp _ _ _ _ X) (S := fun X => MID cp sp B W X gc gr g w1.heap.size s0 s1 s2 vs rows (m + 1) c l y0 wr) (mid_of HB1.out H1.out HR1.out) ?_
    intro W2 HQ0
    have HQ := Aside0.mk HQ0
    clear HQ0
    have n5 := HQ.out.n1
    have n6 := HQ.out.n2
    have n7 := HQ.out.n3
    obtain ⟨gw, hgw⟩ : ∃ gw, gw = w1.heap.size := ⟨_, rfl⟩
    rw [← hgw] at HQ n5 n6 n7 ⊢
    clear hgw
    have n8 : g ≠ gr := Ne.symm n3
    have p0 := kc HQ.out.kw 0 rfl
    have p1 := kc HQ.out.kw 1 rfl
    have p3 : W2.cell? ⟨gc, 3, none⟩ = some (.slice (some ⟨gr, 0, none⟩) N cp) := by rw [HN.out]; exact kc HQ.out.cs.box 3 rfl
    have n9 : gr ≠ gw := Ne.symm n6
    have n10 : gr ≠ gc := Ne.symm n1
    have hw := HW.out
    have hgl : g < W2.heap.size := Kd.R_lt HQ.out.row g rfl
    go_region_held3 (fun w' => w'.cell? ⟨gw, 0, none⟩ = some (.int .i64 y0) ∧ w'.cell? ⟨gw, 1, none⟩ = some (.bool wr) ∧ w'.cell? ⟨gc, 3, none⟩ = some (.slice (some ⟨gr, 0, none⟩) N cp)) (go_keep)
      ((first | (go_at_call 100; refine (delY_calls g c m i _ l _ B (fun _ => True) (rq HQ.out.row) (by omega) rfl (Nat.le_trans HQ.out.cs.hB sq)).mono ?_; rintro e w3 ⟨rfl, hr3, hf3⟩; have HR3 := Aside0.mk hr3; have F3 := Aside0.mk ((fq (Fr.refl (fun k => k = g) W2)).trans hf3 (fun i hi => .inl hi)); have K3 := Aside0.mk (F3.out.blk HQ.out.kw n5); have X3 := Aside0.mk (F3.out.blk HQ.out.cs.box n2); clear p0 p1 p3; have p0 := kc K3.out 0 rfl; have p1 := kc K3.out 1 rfl; have p3 : w3.cell? ⟨gc, 3, none⟩ = some (.slice (some ⟨gr, 0, none⟩) N cp) := (by rw [HN.out]; exact kc X3.out 3 rfl); have HF3 := Aside0.mk hf3; have hs3 := F3.out.size; clear hr3 hf3) | (go_at_call 99; refine (ins_calls _ m c _ ⟨y0, wr⟩ (l.eraseIdx i) _ B ?rr ?vv ?nn ?bb ?ll).mono ?_; (case rr => exact rq HR3.out); (case vv => first | exact at1_0 | exact blk_drew at1_0 | exact HF3.out.blk at1_0 (Nat.ne_of_gt hgl) | exact HF3.out.blk (blk_drew at1_0) (Nat.ne_of_gt hgl) | exact blk_drew (HF3.out.blk (blk_drew at1_0) (Nat.ne_of_gt hgl))); (case nn => exact (fun e => by have e2 : g = _ := Option.some.inj e; omega)); (case bb => exact Nat.le_trans (Nat.le_trans HQ.out.cs.hB hs3) sq); (case ll => exact HLE.out); rintro e w4 ⟨v4, rfl, hr4, hf4, ho4⟩; obtain ⟨A4, c4, rfl⟩ := Kd.R_slice hr4; have HR4 := Aside0.mk hr4; have F4 := Aside0.mk ((((fq F3.out)).mono (fun k hk => by subst hk; rfl) : Fr (fun k => (Value.slice (some ⟨g, 0, none⟩) (m + 1) c).ownBlock = some k) W2 _).trans hf4 (fun k hk => .inl hk)); have HO4 := Aside0.mk (fun k hk => (ho4 k hk).imp id (fun h => Nat.le_trans (Nat.le_trans hs3 sq) h)); have K4 := Aside0.mk (F4.out.blk HQ.out.kw (fun e => n5 (Option.some.inj e).symm)); have X4 := Aside0.mk (F4.out.blk HQ.out.cs.box (fun e => n2 (Option.some.inj e).symm)); have T4 := Aside0.mk (F4.out.blk HQ.out.cs.tab (fun e => n3 (Option.some.inj e).symm)); clear p0 p1 p3; have p0 := kc K4.out 0 rfl; have p1 := kc K4.out 1 rfl; have p3 : w4.cell? ⟨gc, 3, none⟩ = some (.slice (some ⟨gr, 0, none⟩) N cp) := (by rw [HN.out]; exact kc X4.out 3 rfl); have t4 : w4.cell? ⟨gr, r, none⟩ = some (.slice (some ⟨g, 0, none⟩) (m + 1) c) := tab_cell T4.out HV.out; have tf4 := blk_frozen T4.out r; clear hr4 hf4 ho4)))
    all_goals
      have HX := Aside0.mk (usepost_of (u := (true, false, ⟨y0, wr⟩ :: l.eraseIdx i)) HCS.out HQ.out.be HV.out F4.out HR4.out HO4.out rfl)
      go_wp2
      go_ret2
      first
      | exact HX.out
      | (show UsePost cp sp B W gc gr s0 s1 s2 vs rows r _ _ _; exact upq HX.out)
  | true =>
    simp only [Bool.true_or]
    go_enter Try.func62, Try.ntmps62
    go_wp2_with (go_at_call 93; refine hfind.mono ?_; rintro e w1 ⟨rfl, hb1⟩; have HB1 := Aside0.mk hb1; have H1 := Aside0.mk (HCS.out.step hb1); have HR1 := Aside0.mk (Kd.R_below HR.out hb1); clear hb1; have d3 : w1.cell? ⟨gc, 3, none⟩ = some (.slice (some ⟨gr, 0, none⟩) N cp) := (by rw [HN.out]; exact kc H1.out.box 3 rfl); have dt : w1.cell? ⟨gr, r, none⟩ = some (.slice (some ⟨g, 0, none⟩) (m + 1) c) := tab_cell H1.out.tab HV.out; obtain ⟨ce, hcl, hM, hcc, hfr⟩ := Kd.R_elem HR1.out z118 (i : Int) (by omega) (by omega); obtain rfl := k118_openM hM; have d0 : w1.cell? ⟨g, i * 2, none⟩ = some (.int .i64 y0) := (hcc 0 _ rfl).trans (by rw [show l.getD (i : Int).toNat z118 = ⟨y0, _⟩ from HY.out.symm]); have d1 : w1.cell? ⟨g, i * 2 + 1, none⟩ = some (.bool _) := (hcc 1 _ rfl).trans (by rw [show l.getD (i : Int).toNat z118 = ⟨y0, _⟩ from HY.out.symm]); clear hcl hM hcc hfr)
    refine gen_world (P := fun X => Code.wp _ _ _ _ X) (S := fun X => MID cp sp B W X gc gr g w1.heap.size s0 s1 s2 vs rows (m + 1) c l y0 true) (mid_of HB1.out H1.out HR1.out) ?_
    intro W2 HQ0
    have HQ := Aside0.mk HQ0
    clear HQ0
    have n5 := HQ.out.n1
    have n6 := HQ.out.n2
    have n7 := HQ.out.n3
    obtain ⟨gw, hgw⟩ : ∃ gw, gw = w1.heap.size := ⟨_, rfl⟩
    rw [← hgw] at HQ n5 n6 n7 ⊢
    clear hgw
    have n8 : g ≠ gr := Ne.symm n3
    have p0 := kc HQ.out.kw 0 rfl
    have p1 := kc HQ.out.kw 1 rfl
    have p3 : W2.cell? ⟨gc, 3, none⟩ = some (.slice (some ⟨gr, 0, none⟩) N cp) := by rw [HN.out]; exact kc HQ.out.cs.box 3 rfl
    have n9 : gr ≠ gw := Ne.symm n6
    have n10 : gr ≠ gc := Ne.symm n1
    have hw := HW.out
    have hgl : g < W2.heap.size := Kd.R_lt HQ.out.row g rfl
    go_region_held3 (fun w' => w'.cell? ⟨gw, 0, none⟩ = some (.int .i64 y0) ∧ w'.cell? ⟨gw, 1, none⟩ = some (.bool true) ∧ w'.cell? ⟨gc, 3, none⟩ = some (.slice (some ⟨gr, 0, none⟩) N cp)) (go_keep)
      ((first | (go_at_call 100; refine (delY_calls g c m i _ l _ B (fun _ => True) (rq HQ.out.row) (by omega) rfl (Nat.le_trans HQ.out.cs.hB sq)).mono ?_; rintro e w3 ⟨rfl, hr3, hf3⟩; have HR3 := Aside0.mk hr3; have F3 := Aside0.mk ((fq (Fr.refl (fun k => k = g) W2)).trans hf3 (fun i hi => .inl hi)); have K3 := Aside0.mk (F3.out.blk HQ.out.kw n5); have X3 := Aside0.mk (F3.out.blk HQ.out.cs.box n2); clear p0 p1 p3; have p0 := kc K3.out 0 rfl; have p1 := kc K3.out 1 rfl; have p3 : w3.cell? ⟨gc, 3, none⟩ = some (.slice (some ⟨gr, 0, none⟩) N cp) := (by rw [HN.out]; exact kc X3.out 3 rfl); have HF3 := Aside0.mk hf3; have hs3 := F3.out.size; clear hr3 hf3) | (go_at_call 99; refine (ins_calls _ m c _ ⟨y0, true⟩ (l.eraseIdx i) _ B ?rr ?vv ?nn ?bb ?ll).mono ?_; (case rr => exact rq HR3.out); (case vv => first | exact at1_0 | exact blk_drew at1_0 | exact HF3.out.blk at1_0 (Nat.ne_of_gt hgl) | exact HF3.out.blk (blk_drew at1_0) (Nat.ne_of_gt hgl) | exact blk_drew (HF3.out.blk (blk_drew at1_0) (Nat.ne_of_gt hgl))); (case nn => exact (fun e => by have e2 : g = _ := Option.some.inj e; omega)); (case bb => exact Nat.le_trans (Nat.le_trans HQ.out.cs.hB hs3) sq); (case ll => exact HLE.out); rintro e w4 ⟨v4, rfl, hr4, hf4, ho4⟩; obtain ⟨A4, c4, rfl⟩ := Kd.R_slice hr4; have HR4 := Aside0.mk hr4; have F4 := Aside0.mk ((((fq F3.out)).mono (fun k hk => by subst hk; rfl) : Fr (fun k => (Value.slice (some ⟨g, 0, none⟩) (m + 1) c).ownBlock = some k) W2 _).trans hf4 (fun k hk => .inl hk)); have HO4 := Aside0.mk (fun k hk => (ho4 k hk).imp id (fun h => Nat.le_trans (Nat.le_trans hs3 sq) h)); have K4 := Aside0.mk (F4.out.blk HQ.out.kw (fun e => n5 (Option.some.inj e).symm)); have X4 := Aside0.mk (F4.out.blk HQ.out.cs.box (fun e => n2 (Option.some.inj e).symm)); have T4 := Aside0.mk (F4.out.blk HQ.out.cs.tab (fun e => n3 (Option.some.inj e).symm)); clear p0 p1 p3; have p0 := kc K4.out 0 rfl; have p1 := kc K4.out 1 rfl; have p3 : w4.cell? ⟨gc, 3, none⟩ = some (.slice (some ⟨gr, 0, none⟩) N cp) := (by rw [HN.out]; exact kc X4.out 3 rfl); have t4 : w4.cell? ⟨gr, r, none⟩ = some (.slice (some ⟨g, 0, none⟩) (m + 1) c) := tab_cell T4.out HV.out; have tf4 := blk_frozen T4.out r; clear hr4 hf4 ho4)))
    all_goals
      have HX := Aside0.mk (usepost_of (u := (true, false, ⟨y0, true⟩ :: l.eraseIdx i)) HCS.out HQ.out.be HV.out F4.out HR4.out HO4.out rfl)
      go_wp2
      go_ret2
      first
      | exact HX.out
      | (show UsePost cp sp B W gc gr s0 s1 s2 vs rows r _ _ _; exact upq HX.out)
end Go.Proofs.Ytglehilfemfiiaa.GU
