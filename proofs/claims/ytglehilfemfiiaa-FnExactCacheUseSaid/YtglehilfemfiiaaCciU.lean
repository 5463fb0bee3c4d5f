/- (*Cache).use, walked by hand: the line was not there. -/
import Derived.Test.YtglehilfemfiiaaCchU
namespace Go.Proofs.Ytglehilfemfiiaa.GU
open Go.RowKit Go.Proofs.YtglehilfemfiiaaW.PrintWords Go.Proofs.YtglehilfemfiiaaW.PrintLast Go.Proofs.YtglehilfemfiiaaW.PrintMore Go.Proofs.Ytglehilfemfiiaa.Q Go.Proofs.Ytglehilfemfiiaa.Hnd
set_option linter.unusedVariables false
set_option linter.unusedSimpArgs false
theorem miss_len {p : S118 → Bool} {l : List S118} (h : l.findIdx? p = none) : idxW p l = -1 := by unfold idxW; rw [h]
set_option maxHeartbeats 2000000 in
set_option maxRecDepth 100000 in
theorem use_evict {cp : Nat} {sp : List Value} (B gc gr : Nat) (s0 s1 s2 a : Int) (wr : Bool) (vs : List Value) (rows : List (List S118)) (W : World) (hcs : CS cp sp B W gc gr s0 s1 s2 vs rows) (ha : 0 ≤ a) (ha2 : a ≤ 65535) (h0 : 1 ≤ s0) (h2 : 1 ≤ s2) (hvn : vs.length ≤ 1000)
    (r : Nat) (hr : a / s2 % s0 = (r : Int)) (hrl : r < vs.length) (t : Int) (ht : a / s2 / s0 = t) (v : Value) (l : List S118) (hv : vs[r]? = some v) (hl : rows[r]? = some l) (n : Nat) (hll : l.length = n) (hn9 : n < 900) (hs : (n : Int) = s1) (hi : l.findIdx? (tagB t) = none) :
    Calls Try.prog 62 #[.pointer (some ⟨gc, 0, none⟩), .int .i64 a, .bool wr] W (UsePost cp sp B W gc gr s0 s1 s2 vs rows r (false, (rd_T118 (⟨t, wr⟩ :: l) (n : Int)).f1, (⟨t, wr⟩ :: l).take n)) := by
  have hu70 := Try.underlying70
  have hu118 := Try.underlying118
  have hsb : ((n : Int) == s1) = true := by rw [hs]; simp
  obtain ⟨e1, hq0, hq1⟩ := tdiv_pos ha ha2 h2
  obtain ⟨e2, hq2, hq3⟩ := tdiv_pos hq0 hq1 h0
  have hrd : rd_L3 rows (r : Int) = l := by unfold rd_L3; rw [Int.toNat_natCast, List.getD_eq_getElem?_getD, hl]; rfl
  have hrow : Int.tmod (wrap64 (Int.tdiv a s2)) s0 = (r : Int) := by rw [e1, Int.tmod_eq_emod_of_nonneg hq0, hr]
  have hfind := find_calls s0 s1 s2 a (some ⟨gr, 0, none⟩) cp rows r W (hcs.C hvn) (by omega) (by omega) hrow (by rw [hcs.len]; exact hrl)
  rw [hrd, e1, e2, ht, miss_len hi, hcs.len] at hfind
  have hR := hcs.row r v l hv hl
  obtain ⟨A, c, rfl⟩ := Kd.R_slice hR
  rw [hll] at hR hv
  have c0 := kc hcs.box 0 rfl
  have c1 := kc hcs.box 1 rfl
  have c2 := kc hcs.box 2 rfl
  have c3 := kc hcs.box 3 rfl
  have n1 := hcs.box_tab
  have n10 := Ne.symm n1
  have HCS := Aside0.mk hcs
  have HV := Aside0.mk hv
  have HR := Aside0.mk hR
  have HNL := Aside0.mk hll
  obtain ⟨N, hN⟩ : ∃ N, N = vs.length := ⟨_, rfl⟩
  rw [← hN] at hfind hvn hrl c3
  have HN := Aside0.mk hN
  have hrz : (r : Int) < (N : Int) := by omega
  obtain ⟨q, hq⟩ : ∃ q, q = a / s2 := ⟨_, rfl⟩
  rw [← hq] at e1 e2 ht
  rw [ht] at e2
  have hw1 : IntKind.i64.wrap (Int.tdiv a s2) = q := by rw [i64_w]; exact e1
  have hw2 : IntKind.i64.wrap (Int.tdiv q s0) = t := by rw [i64_w]; exact e2
  have HW1 := Aside0.mk hw1
  have HW2 := Aside0.mk hw2
  have z3 : s0 ≠ 0 := by omega
  have z4 : s2 ≠ 0 := by omega
  have z0 : (s0 == 0) = false := beq_eq_false_iff_ne.mpr (by omega)
  have z2 : (s2 == 0) = false := beq_eq_false_iff_ne.mpr (by omega)
  clear hcs hr ht hv hl hll hi hrd hrow hR hN e1 e2 hq0 hq1 hq2 hq3 hq hw1 hw2 hs
  go_enter Try.func62, Try.ntmps62
  go_wp2_with (go_at_call 93; refine hfind.mono ?_; rintro e w1 ⟨rfl, hb1⟩; have HB1 := Aside0.mk hb1; have H1 := Aside0.mk (HCS.out.step hb1); have HR1 := Aside0.mk (Kd.R_below HR.out hb1); clear hb1; have d0 := kc H1.out.box 0 rfl; have d1 := kc H1.out.box 1 rfl; have d2 := kc H1.out.box 2 rfl; have d3 : w1.cell? ⟨gc, 3, none⟩ = some (.slice (some ⟨gr, 0, none⟩) N cp) := (by rw [HN.out]; exact kc H1.out.box 3 rfl); have dt : w1.cell? ⟨gr, r, none⟩ = some (.slice A n c) := tab_cell H1.out.tab HV.out)
  have hw1 := HW1.out
  have hw2 := HW2.out
  go_region_held3 (fun w' => w'.cell? ⟨gc, 0, none⟩ = some (.int .i64 s0) ∧ w'.cell? ⟨gc, 2, none⟩ = some (.int .i64 s2)) (go_keep)
    ((go_at_call 99; refine (ins_calls A n c _ ⟨t, wr⟩ l _ B ?rr ?vv ?nn ?bb ?ll).mono ?_; (case rr => exact rq HR1.out); (case vv => first | exact at1_0 | exact blk_drew at1_0); (case nn => exact (fun e => absurd (Kd.R_lt HR1.out _ e) (Nat.not_lt.mpr sq))); (case bb => exact Nat.le_trans H1.out.hB sq); (case ll => have := HNL.out; omega); rintro e w4 ⟨v4, rfl, hr4, hf4, ho4⟩; have hr4' : Kd.R k118 118 w4 B (fun _ => True) v4 (⟨t, wr⟩ :: l) := hr4; obtain ⟨A4, c4, rfl⟩ := Kd.R_slice hr4'; rw [List.length_cons, HNL.out] at hr4' ho4 ⊢; have HR4 := Aside0.mk hr4'; have F4 := Aside0.mk ((fq (Fr.refl (fun k => (Value.slice A n c).ownBlock = some k) w1)).trans hf4 (fun k hk => .inl hk)); have HO4 := Aside0.mk (show ∀ k, (Value.slice A4 (n + 1) c4).ownBlock = some k → (Value.slice A n c).ownBlock = some k ∨ w1.heap.size ≤ k from fun k hk => (ho4 k hk).imp id (fun h => Nat.le_trans (sq (W := w1)) h)); have X4 := Aside0.mk (F4.out.blk H1.out.box (fun e => H1.out.ne_box HV.out e rfl)); have T4 := Aside0.mk (F4.out.blk H1.out.tab (fun e => H1.out.ne_tab HV.out e rfl)); have p0 := kc X4.out 0 rfl; have p1 := kc X4.out 1 rfl; have p2 := kc X4.out 2 rfl; have p3 : w4.cell? ⟨gc, 3, none⟩ = some (.slice (some ⟨gr, 0, none⟩) N cp) := (by rw [HN.out]; exact kc X4.out 3 rfl); have t4 : w4.cell? ⟨gr, r, none⟩ = some (.slice A n c) := tab_cell T4.out HV.out; have tf4 := blk_frozen T4.out r; clear hr4 hr4' hf4 ho4))
  all_goals
    obtain ⟨g4, cap4, e4, hbg4, _, _⟩ := Kd.R_form HR4.out (by simp)
    injection e4 with e5 e6 e7
    subst e5; subst e7
    clear e6
    obtain ⟨ce, hcl, hM, hcc, hfr⟩ := Kd.R_elem HR4.out z118 (n : Int) (by omega) (by omega)
    obtain rfl := k118_openM hM
    obtain ⟨d, hd⟩ : ∃ d, d = (rd_T118 (⟨t, wr⟩ :: l) (n : Int)).f1 := ⟨_, rfl⟩
    have dd : w4.cell? ⟨g4, n * 2 + 1, none⟩ = some (.bool d) := (hcc 1 _ rfl).trans (by rw [hd]; rfl)
    have HDD := Aside0.mk hd
    have hRt := Kd.R_take HR4.out (m := n) (by simp; have := HNL.out; omega)
    have HX := Aside0.mk (usepost_of (v' := .slice (some ⟨g4, 0, none⟩) n c4) (u := (false, d, (⟨t, wr⟩ :: l).take n)) HCS.out HB1.out HV.out F4.out hRt (fun k hk => HO4.out k hk) rfl)
    have hlc4 := (Kd.R_reads' HR4.out).2.1
    have q8 : (n : Int) < (n : Int) + 1 := by omega
    have q9 : n ≤ c4 := by omega
    have q10 : (0 : Int) ≤ (n : Int) := by omega
    have q11 : (n : Int) ≤ (c4 : Int) := by omega
    clear hcl hM hcc hfr hd hRt
    clear hw1 hw2
    go_wp2
    go_ret2
    rw [← HDD.out]
    first
    | exact HX.out
    | exact upq HX.out
set_option maxHeartbeats 2000000 in
set_option maxRecDepth 100000 in
theorem use_more {cp : Nat} {sp : List Value} (B gc gr : Nat) (s0 s1 s2 a : Int) (wr : Bool) (vs : List Value) (rows : List (List S118)) (W : World) (hcs : CS cp sp B W gc gr s0 s1 s2 vs rows) (ha : 0 ≤ a) (ha2 : a ≤ 65535) (h0 : 1 ≤ s0) (h2 : 1 ≤ s2) (hvn : vs.length ≤ 1000)
    (r : Nat) (hr : a / s2 % s0 = (r : Int)) (hrl : r < vs.length) (t : Int) (ht : a / s2 / s0 = t) (v : Value) (l : List S118) (hv : vs[r]? = some v) (hl : rows[r]? = some l) (n : Nat) (hll : l.length = n) (hn9 : n < 900) (hs : (n : Int) ≠ s1) (hi : l.findIdx? (tagB t) = none) :
    Calls Try.prog 62 #[.pointer (some ⟨gc, 0, none⟩), .int .i64 a, .bool wr] W (UsePost cp sp B W gc gr s0 s1 s2 vs rows r (false, false, ⟨t, wr⟩ :: l)) := by
  have hu70 := Try.underlying70
  have hu118 := Try.underlying118
  have hsb : ((n : Int) == s1) = false := beq_eq_false_iff_ne.mpr hs
  obtain ⟨e1, hq0, hq1⟩ := tdiv_pos ha ha2 h2
  obtain ⟨e2, hq2, hq3⟩ := tdiv_pos hq0 hq1 h0
  have hrd : rd_L3 rows (r : Int) = l := by unfold rd_L3; rw [Int.toNat_natCast, List.getD_eq_getElem?_getD, hl]; rfl
  have hrow : Int.tmod (wrap64 (Int.tdiv a s2)) s0 = (r : Int) := by rw [e1, Int.tmod_eq_emod_of_nonneg hq0, hr]
  have hfind := find_calls s0 s1 s2 a (some ⟨gr, 0, none⟩) cp rows r W (hcs.C hvn) (by omega) (by omega) hrow (by rw [hcs.len]; exact hrl)
  rw [hrd, e1, e2, ht, miss_len hi, hcs.len] at hfind
  have hR := hcs.row r v l hv hl
  obtain ⟨A, c, rfl⟩ := Kd.R_slice hR
  rw [hll] at hR hv
  have c0 := kc hcs.box 0 rfl
  have c1 := kc hcs.box 1 rfl
  have c2 := kc hcs.box 2 rfl
  have c3 := kc hcs.box 3 rfl
  have n1 := hcs.box_tab
  have n10 := Ne.symm n1
  have HCS := Aside0.mk hcs
  have HV := Aside0.mk hv
  have HR := Aside0.mk hR
  have HNL := Aside0.mk hll
  obtain ⟨N, hN⟩ : ∃ N, N = vs.length := ⟨_, rfl⟩
  rw [← hN] at hfind hvn hrl c3
  have HN := Aside0.mk hN
  have hrz : (r : Int) < (N : Int) := by omega
  obtain ⟨q, hq⟩ : ∃ q, q = a / s2 := ⟨_, rfl⟩
  rw [← hq] at e1 e2 ht
  rw [ht] at e2
  have hw1 : IntKind.i64.wrap (Int.tdiv a s2) = q := by rw [i64_w]; exact e1
  have hw2 : IntKind.i64.wrap (Int.tdiv q s0) = t := by rw [i64_w]; exact e2
  have HW1 := Aside0.mk hw1
  have HW2 := Aside0.mk hw2
  have z3 : s0 ≠ 0 := by omega
  have z4 : s2 ≠ 0 := by omega
  have z0 : (s0 == 0) = false := beq_eq_false_iff_ne.mpr (by omega)
  have z2 : (s2 == 0) = false := beq_eq_false_iff_ne.mpr (by omega)
  clear hcs hr ht hv hl hll hi hrd hrow hR hN e1 e2 hq0 hq1 hq2 hq3 hq hw1 hw2 hs
  go_enter Try.func62, Try.ntmps62
  go_wp2_with (go_at_call 93; refine hfind.mono ?_; rintro e w1 ⟨rfl, hb1⟩; have HB1 := Aside0.mk hb1; have H1 := Aside0.mk (HCS.out.step hb1); have HR1 := Aside0.mk (Kd.R_below HR.out hb1); clear hb1; have d0 := kc H1.out.box 0 rfl; have d1 := kc H1.out.box 1 rfl; have d2 := kc H1.out.box 2 rfl; have d3 : w1.cell? ⟨gc, 3, none⟩ = some (.slice (some ⟨gr, 0, none⟩) N cp) := (by rw [HN.out]; exact kc H1.out.box 3 rfl); have dt : w1.cell? ⟨gr, r, none⟩ = some (.slice A n c) := tab_cell H1.out.tab HV.out)
  have hw1 := HW1.out
  have hw2 := HW2.out
  go_region_held3 (fun w' => w'.cell? ⟨gc, 0, none⟩ = some (.int .i64 s0) ∧ w'.cell? ⟨gc, 2, none⟩ = some (.int .i64 s2)) (go_keep)
    ((go_at_call 99; refine (ins_calls A n c _ ⟨t, wr⟩ l _ B ?rr ?vv ?nn ?bb ?ll).mono ?_; (case rr => exact rq HR1.out); (case vv => first | exact at1_0 | exact blk_drew at1_0); (case nn => exact (fun e => absurd (Kd.R_lt HR1.out _ e) (Nat.not_lt.mpr sq))); (case bb => exact Nat.le_trans H1.out.hB sq); (case ll => have := HNL.out; omega); rintro e w4 ⟨v4, rfl, hr4, hf4, ho4⟩; have hr4' : Kd.R k118 118 w4 B (fun _ => True) v4 (⟨t, wr⟩ :: l) := hr4; obtain ⟨A4, c4, rfl⟩ := Kd.R_slice hr4'; rw [List.length_cons, HNL.out] at hr4' ho4 ⊢; have HR4 := Aside0.mk hr4'; have F4 := Aside0.mk ((fq (Fr.refl (fun k => (Value.slice A n c).ownBlock = some k) w1)).trans hf4 (fun k hk => .inl hk)); have HO4 := Aside0.mk (show ∀ k, (Value.slice A4 (n + 1) c4).ownBlock = some k → (Value.slice A n c).ownBlock = some k ∨ w1.heap.size ≤ k from fun k hk => (ho4 k hk).imp id (fun h => Nat.le_trans (sq (W := w1)) h)); have X4 := Aside0.mk (F4.out.blk H1.out.box (fun e => H1.out.ne_box HV.out e rfl)); have T4 := Aside0.mk (F4.out.blk H1.out.tab (fun e => H1.out.ne_tab HV.out e rfl)); have p0 := kc X4.out 0 rfl; have p1 := kc X4.out 1 rfl; have p2 := kc X4.out 2 rfl; have p3 : w4.cell? ⟨gc, 3, none⟩ = some (.slice (some ⟨gr, 0, none⟩) N cp) := (by rw [HN.out]; exact kc X4.out 3 rfl); have t4 : w4.cell? ⟨gr, r, none⟩ = some (.slice A n c) := tab_cell T4.out HV.out; have tf4 := blk_frozen T4.out r; clear hr4 hr4' hf4 ho4))
  all_goals
    have HX := Aside0.mk (usepost_of (u := (false, false, ⟨t, wr⟩ :: l)) HCS.out HB1.out HV.out F4.out HR4.out HO4.out rfl)
    clear hw1 hw2
    go_wp2
    go_ret2
    first
    | exact HX.out
    | exact upq HX.out
/-- (*Cache).use. -/
theorem use_calls {cp : Nat} {sp : List Value} (B gc gr : Nat) (s0 s1 s2 a : Int) (wr : Bool) (vs : List Value) (rows : List (List S118)) (W : World) (hcs : CS cp sp B W gc gr s0 s1 s2 vs rows) (ha : 0 ≤ a) (ha2 : a ≤ 65535) (h0 : 1 ≤ s0) (h2 : 1 ≤ s2) (hvn : vs.length ≤ 1000)
    (r : Nat) (hr : a / s2 % s0 = (r : Int)) (hrl : r < vs.length) (l : List S118) (hl : rows[r]? = some l) (hll : l.length < 900) :
    Calls Try.prog 62 #[.pointer (some ⟨gc, 0, none⟩), .int .i64 a, .bool wr] W (UsePost cp sp B W gc gr s0 s1 s2 vs rows r (useRow s1 l (a / s2 / s0) wr)) := by
  have hv : vs[r]? = some vs[r] := List.getElem?_eq_getElem hrl
  unfold useRow
  cases hf : l.findIdx? (tagB (a / s2 / s0)) with
  | some i => exact use_hit B gc gr s0 s1 s2 a wr vs rows W hcs ha ha2 h0 h2 hvn r hr hrl _ rfl _ l hv hl hll i hf
  | none =>
    by_cases hs : (l.length : Int) = s1
    · dsimp only
      rw [if_pos hs]
      exact use_evict B gc gr s0 s1 s2 a wr vs rows W hcs ha ha2 h0 h2 hvn r hr hrl _ rfl _ l hv hl l.length rfl hll hs hf
    · dsimp only
      rw [if_neg hs]
      exact use_more B gc gr s0 s1 s2 a wr vs rows W hcs ha ha2 h0 h2 hvn r hr hrl _ rfl _ l hv hl l.length rfl hll hs hf
end Go.Proofs.Ytglehilfemfiiaa.GU
