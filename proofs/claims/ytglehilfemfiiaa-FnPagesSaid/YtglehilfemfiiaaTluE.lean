/- What an access makes of a table of pages, and TlbUse, walked by hand. -/
import Derived.Test.YtglehilfemfiiaaGEx0
import Derived.Test.YtglehilfemfiiaaGEx1
import Derived.Test.YtglehilfemfiiaaGEx2
import Derived.Test.YtglehilfemfiiaaClnE
import Derived.Test.YtglehilfemfiiaaHnd
namespace Go.Proofs.Ytglehilfemfiiaa.GE
open Go.RowKit Go.Proofs.YtglehilfemfiiaaW.PrintWords Go.Proofs.YtglehilfemfiiaaW.PrintLast Go.Proofs.YtglehilfemfiiaaW.PrintMore Go.Proofs.Ytglehilfemfiiaa.Q Go.Proofs.Ytglehilfemfiiaa.Hnd
set_option linter.unusedVariables false
set_option linter.unusedSimpArgs false
/-- Whether a page is known, and the pages behind the access. -/
def useF (s : Int) (l : List Int) (p : Int) : Bool × List Int := if p ∈ l then (true, l) else (false, if s < (l.length : Int) + 1 then (l ++ [p]).drop 1 else l ++ [p])
theorem useF_len (s : Int) (l : List Int) (p : Int) : (useF s l p).2.length ≤ l.length + 1 := by
  unfold useF
  split
  · simp
  · split <;> simp
theorem gen_world {P : World → Prop} {W : World} (S : World → Prop) (hS : S W) (h : ∀ W', S W' → P W') : P W := h W hS
theorem rd_int (l : List Int) (k : Nat) (hk : k < l.length) : l[k]? = some (rd l (k : Int)) := by
  unfold rd
  rw [Int.toNat_natCast, List.getD_eq_getElem?_getD, List.getElem?_eq_getElem hk]
  rfl
theorem wsucc {n : Nat} (h : n < 9000000000000000000) : wrap64 ((n : Int) + 1) = ((n + 1 : Nat) : Int) := by
  unfold wrap64; omega
theorem index_f (p : Int) (l : List Int) (hl : l.length ≤ 9000000000000000) : ∀ (d k i : Nat), i ≤ l.length → l.length - i = d → d < k → (∀ j, j < i → l[j]? ≠ some p) → ∃ z, slices_Index_int_int.l0 k l p (l.length : Int) (i : Int) = some z ∧ (decide (z ≥ 0) = decide (p ∈ l)) := by
  intro d
  induction d with
  | zero =>
    intro k i hi hd hk hn
    obtain ⟨k, rfl⟩ : ∃ m, k = m + 1 := ⟨k - 1, by omega⟩
    have : ¬ (i : Int) < (l.length : Int) := by omega
    refine ⟨-1, by simp only [slices_Index_int_int.l0]; rw [if_neg this], ?_⟩
    have hp : p ∉ l := by
      intro hm
      obtain ⟨j, hj⟩ := List.getElem?_of_mem hm
      exact hn j (by have := (List.getElem?_eq_some_iff.1 hj).1; omega) hj
    simp [hp]
  | succ d ih =>
    intro k i hi hd hk hn
    obtain ⟨k, rfl⟩ : ∃ m, k = m + 1 := ⟨k - 1, by omega⟩
    have hlt : i < l.length := by omega
    have h1 : (i : Int) < (l.length : Int) := by omega
    have h2 : (0 : Int) ≤ (i : Int) := by omega
    have hr := rd_int l i hlt
    simp only [slices_Index_int_int.l0]
    rw [if_pos h1, if_pos h2, if_pos h1]
    by_cases e : p = rd l (i : Int)
    · rw [if_pos e]
      refine ⟨(i : Int), rfl, ?_⟩
      have hm : p ∈ l := List.mem_of_getElem? (i := i) (by rw [hr, e])
      simp [hm]
    · rw [if_neg e, wsucc (by omega)]
      refine ih k (i + 1) (by omega) (by omega) (by omega) (fun j hj => ?_)
      by_cases ej : j = i
      · subst ej
        rw [hr]
        intro he
        injection he with he
        exact e he.symm
      · exact hn j (by omega)
theorem contains_f (l : List Int) (p : Int) (hl : l.length ≤ 9000000000000000) (k : Nat) (hk : l.length < k) : slices_Contains_int_int.f k l p = some (decide (p ∈ l)) := by
  obtain ⟨z, h1, h2⟩ := index_f p l hl l.length k 0 (Nat.zero_le _) (by omega) hk (fun j hj => absurd hj (Nat.not_lt_zero _))
  unfold slices_Contains_int_int.f slices_Index_int_int.f
  have h1' : slices_Index_int_int.l0 k l p (l.length : Int) 0 = some z := h1
  rw [h1', ← h2]
  rfl
def UsePost (g : Nat) (s : Int) (v : Value) (r : Bool × List Int) (base : Nat) (W : World) (e : Ending) (w' : World) : Prop :=
  e = .returned (.bool r.1) ∧ ∃ v' : Value, w'.heap[g]? = some (.cells #[.int .i64 s, v'] 40 (0, 0)) ∧ Kd.Q (Kd.int .i64) 3 w' base (fun k => k ≠ g) v' r.2 ∧ Fr (fun k => k = g ∨ v.ownBlock = some k) W w' ∧ (∀ k, v'.ownBlock = some k → v.ownBlock = some k ∨ W.heap.size ≤ k)
set_option maxHeartbeats 8000000 in
set_option maxRecDepth 100000 in
theorem use_calls (g : Nat) (s a : Int) (v : Value) (xs : List Int) (base : Nat) (W : World) (hb : W.heap[g]? = some (.cells #[.int .i64 s, v] 40 (0, 0))) (hv : Kd.Q (Kd.int .i64) 3 W base (fun k => k ≠ g) v xs) (hbase : base ≤ W.heap.size) (hl : xs.length < 2000000) (hs : 1 ≤ s) :
    Calls Try.prog 72 #[.pointer (some ⟨g, 0, none⟩), .int .i64 a] W (UsePost g s v (useF s xs (wrap64 (Int.tdiv a 64))) base W) := by
  have hlt := blk_lt hb
  have hne : g ≠ W.heap.size := by omega
  obtain ⟨A, c, rfl, hlc⟩ := Kd.Q_slice hv
  have hc0 := kc hb 0 rfl
  have hc1 := kc hb 1 rfl
  have hf1 := blk_frozen hb 1
  have HBK := Aside0.mk hb
  have HV := Aside0.mk hv
  have HL := Aside0.mk hl
  have HBS := Aside0.mk hbase
  have HCR := Aside0.mk (Kd.Q_reads' hv).2.2
  have hcon := contains_f xs (wrap64 (Int.tdiv a 64)) (by omega) (xs.length + 1) (by omega)
  by_cases hin : wrap64 (Int.tdiv a 64) ∈ xs
  · have e1 : useF s xs (wrap64 (Int.tdiv a 64)) = (true, xs) := if_pos hin
    rw [e1]
    rw [decide_eq_true hin] at hcon
    have HCON := Aside0.mk hcon
    clear hb hv hl hbase hcon hin
    go_enter Try.func72, Try.ntmps72
    go_wp2_with (go_at_call 80; refine (slices_Contains_int_int.calls (xs.length + 1) A c xs (wrap64 (Int.tdiv a 64)) true _ (cq HCR.out) hlc HCON.out).mono ?_; rintro e w' ⟨rfl, ⟨nd, rfl⟩⟩)
    go_ret
    exact ⟨rfl, _, bq HBK.out, qq HV.out, fq (Fr.refl _ W), fun _ h => .inl h⟩
  · rw [decide_eq_false hin] at hcon
    have HCON := Aside0.mk hcon
    have HIN := Aside0.mk hin
    clear hb hv hl hbase hcon hin
    by_cases hsl : s < (xs.length : Int) + 1
    · have HSL := Aside0.mk hsl
      have hgt : ((xs.length + 1 : Nat) : Int) > s := by omega
      clear hsl
      go_enter Try.func72, Try.ntmps72
      go_wp2_with (first | (go_at_call 80; refine (slices_Contains_int_int.calls (xs.length + 1) A c xs (wrap64 (Int.tdiv a 64)) false _ (cq HCR.out) hlc HCON.out).mono ?_; rintro e w' ⟨rfl, ⟨nd, rfl⟩⟩) | ((with_reducible refine gate_builtin (b := .append) (xs := #[.tmp 18, .tmp 20]) rfl ?_); at_builtin; refine Kd.Q_append (Kd.int .i64) (w0 := W.drewN nd) base rfl (.tmp 18) (.tmp 20) 33 3 (.int .i64 0) 8 rfl Try.underlying33 info3 rfl (by decide) (by omega) (.slice A xs.length c) xs (wrap64 (Int.tdiv a 64)) [.int .i64 (wrap64 (Int.tdiv a 64))] (fun k => k ≠ g) (fun _ => False) rfl rfl ?aP (fun _ hk => hk.elim) ?aF ?aO ?aB ?aS ?aL ?_; (case aP => exact rfl); (case aB => exact Below.refl _ _); (case aF => exact (fun k hk => by have := hk; simp at this; omega)); (case aO => exact (qq HV.out)); (case aS => have := HBS.out; simp; omega); (case aL => have := HL.out; omega); intro v1 w1 ho hb hg hat; obtain ⟨A1, c1, rfl, hl1⟩ := Kd.Q_slice ho; rw [show (xs ++ [wrap64 (Int.tdiv a 64)]).length = xs.length + 1 from by simp] at ho hat hl1; have HO := Aside0.mk ho; have HG := Aside0.mk hg; have HAT := Aside0.mk hat; have hbk1 := blk_grown (bq HBK.out) hg (fun e => HV.out.1 g e.symm rfl); have HBK2 := Aside0.mk hbk1; have y0 := kc hbk1 0 rfl; have y1 := kc hbk1 1 rfl; have y2 := blk_frozen hbk1 0; have y3 := blk_frozen hbk1 1; have hc1' : c1 ≠ 1 := (by omega); have hl1' : 1 ≤ c1 := (by omega); clear ho hb hg hat hbk1))
      go_region
      all_goals go_wp2
      obtain ⟨gq, o, cap, e, hb1, hl1', cells, hcl⟩ := Kd.Q_form HO.out (by simp)
      injection e with e1 e2 e3
      subst e1; subst e3
      clear e2
      go_ret
      have FW : Fr (fun k => k = g ∨ (Value.slice A xs.length c).ownBlock = some k) W w1 := (fq (Fr.refl _ W) : Fr _ W (W.drewN nd)).grown HG.out (fun k hk => .inl (.inr hk))
      have e1 : useF s xs (wrap64 (Int.tdiv a 64)) = (false, (xs ++ [wrap64 (Int.tdiv a 64)]).drop 1) := by unfold useF; rw [if_neg HIN.out, if_pos HSL.out]
      rw [e1]
      have hq := Kd.Q_drop HO.out (k := 1) (by simp)
      rw [if_neg hc1'] at hq
      refine ⟨rfl, .slice (some ⟨gq, o + 1, none⟩) xs.length (c1 - 1), blk_drew (blk_put (blk_put HBK2.out 1 _ rfl) 1 _ rfl), ?_, Fr.drew ((FW.set (p := ⟨g, 1, none⟩) (.inl (.inl rfl)) _).set (p := ⟨g, 1, none⟩) (.inl (.inl rfl)) _), fun k hk => ?_⟩
      · exact Fr.Q ((Fr.refl (fun _ => False) _).drew) (Kd.Q_far (p := ⟨g, 1, none⟩) (Kd.Q_far (p := ⟨g, 1, none⟩) hq (fun k hk => hk) _) (fun k hk => hk) _) (fun _ _ h => h)
      · have hk' : gq = k := by simpa [Value.ownBlock] using hk
        subst hk'
        rcases HAT.out with e | ⟨b, e, hle⟩
        · exact .inl (e.symm.trans rfl)
        · have : gq = b := by simpa [Value.ownBlock] using e
          subst this
          exact .inr (by simpa using hle)
    · have HSL := Aside0.mk hsl
      have hgt : ¬ ((xs.length + 1 : Nat) : Int) > s := by omega
      clear hsl
      go_enter Try.func72, Try.ntmps72
      go_wp2_with (first | (go_at_call 80; refine (slices_Contains_int_int.calls (xs.length + 1) A c xs (wrap64 (Int.tdiv a 64)) false _ (cq HCR.out) hlc HCON.out).mono ?_; rintro e w' ⟨rfl, ⟨nd, rfl⟩⟩) | ((with_reducible refine gate_builtin (b := .append) (xs := #[.tmp 18, .tmp 20]) rfl ?_); at_builtin; refine Kd.Q_append (Kd.int .i64) (w0 := W.drewN nd) base rfl (.tmp 18) (.tmp 20) 33 3 (.int .i64 0) 8 rfl Try.underlying33 info3 rfl (by decide) (by omega) (.slice A xs.length c) xs (wrap64 (Int.tdiv a 64)) [.int .i64 (wrap64 (Int.tdiv a 64))] (fun k => k ≠ g) (fun _ => False) rfl rfl ?aP (fun _ hk => hk.elim) ?aF ?aO ?aB ?aS ?aL ?_; (case aP => exact rfl); (case aB => exact Below.refl _ _); (case aF => exact (fun k hk => by have := hk; simp at this; omega)); (case aO => exact (qq HV.out)); (case aS => have := HBS.out; simp; omega); (case aL => have := HL.out; omega); intro v1 w1 ho hb hg hat; obtain ⟨A1, c1, rfl, hl1⟩ := Kd.Q_slice ho; rw [show (xs ++ [wrap64 (Int.tdiv a 64)]).length = xs.length + 1 from by simp] at ho hat hl1; have HO := Aside0.mk ho; have HG := Aside0.mk hg; have HAT := Aside0.mk hat; have hbk1 := blk_grown (bq HBK.out) hg (fun e => HV.out.1 g e.symm rfl); have HBK2 := Aside0.mk hbk1; have y0 := kc hbk1 0 rfl; have y1 := kc hbk1 1 rfl; have y2 := blk_frozen hbk1 0; have y3 := blk_frozen hbk1 1; clear ho hb hg hat hbk1))
      go_region
      all_goals go_wp2
      go_ret
      have FW : Fr (fun k => k = g ∨ (Value.slice A xs.length c).ownBlock = some k) W w1 := (fq (Fr.refl _ W) : Fr _ W (W.drewN nd)).grown HG.out (fun k hk => .inl (.inr hk))
      have e1 : useF s xs (wrap64 (Int.tdiv a 64)) = (false, xs ++ [wrap64 (Int.tdiv a 64)]) := by unfold useF; rw [if_neg HIN.out, if_neg (by have := HSL.out; omega)]
      rw [e1]
      refine ⟨rfl, .slice A1 (xs.length + 1) c1, blk_drew (blk_put HBK2.out 1 _ rfl), ?_, Fr.drew (FW.set (p := ⟨g, 1, none⟩) (.inl (.inl rfl)) _), fun k hk => ?_⟩
      · exact Fr.Q ((Fr.refl (fun _ => False) _).drew) (Kd.Q_far (p := ⟨g, 1, none⟩) HO.out (fun k hk => hk) _) (fun _ _ h => h)
      · rcases HAT.out with e | ⟨b, e, hle⟩
        · exact .inl (e.symm.trans hk)
        · rw [e] at hk
          injection hk with hk
          subst hk
          exact .inr (by simpa using hle)

def impl_TlbUse.f (s : Int) (l : List Int) (a : Int) : Option (Int × List Int × Bool) :=
  if l.length < 2000000 then (impl_isTlb.f (l.length + 20) s l).bind fun b => if b = true then (impl_isAddr.f a).bind fun b2 => some (if b2 = true then (s, (useF s l (wrap64 (Int.tdiv a 64))).2, (useF s l (wrap64 (Int.tdiv a 64))).1) else (0, [], false)) else some (0, [], false) else none
theorem isTlb_one {k : Nat} {s : Int} {l : List Int} (h : impl_isTlb.f k s l = some true) : 1 ≤ s := by
  by_cases h1 : s ≥ 1
  · exact h1
  · exfalso
    unfold impl_isTlb.f impl_within.f at h
    rw [if_neg h1] at h
    cases k <;> simp [impl_isTlb.j0] at h
/-- Behind the copy: the table's new box, the result's, the row. -/
structure TQ (w W : World) (s : Int) (v : Value) (l : List Int) (g : Nat) : Prop where
  k4 : W.heap[w.heap.size + 1]? = some (.cells #[.int .i64 0, .slice none 0 0] 40 (0, 0))
  b1 : W.heap[g]? = some (.cells #[.int .i64 s, v] 40 (0, 0))
  r1 : Kd.R (Kd.int .i64) 3 W w.heap.size (fun k => k ≠ g ∧ k ≠ w.heap.size + 1) v l
  q1 : w.heap.size + 1 < g
  be : Below w.heap.size w W
theorem TQ.mk' {w W W' : World} {s : Int} {v : Value} {l : List Int} {g : Nat} (k4 : W.heap[w.heap.size + 1]? = some (.cells #[.int .i64 0, .slice none 0 0] 40 (0, 0))) (hr : Kd.R (Kd.int .i64) 3 W w.heap.size (fun _ => True) v l) (be : Below w.heap.size w W) (hf : Fr (fun k => k = g) W W') (hb : W'.heap[g]? = some (.cells #[.int .i64 s, v] 40 (0, 0))) (ho : W.heap.size ≤ g ∨ ∃ c, W.heap[g]? = some (.cells c 40 (0, 0))) (q1 : w.heap.size + 1 < g) : TQ w W' s v l g := by
  have h1 := Kd.R_types hr k4 (by decide)
  have hs := be.size
  have hlt := blk_lt k4
  have h2 : Kd.R (Kd.int .i64) 3 W w.heap.size (fun k => k ≠ g ∧ k ≠ w.heap.size + 1) v l := by
    rcases ho with o | ⟨c, o⟩
    · exact Kd.R_mono (Kd.R_bound h1) (fun k hk => ⟨by have := hk.2.2.1; omega, hk.1.2⟩)
    · exact Kd.R_mono (Kd.R_types h1 o (by decide)) (fun k hk => ⟨hk.2, hk.1.2⟩)
  exact ⟨hf.blk k4 (by omega), hb, hf.R h2 (fun k hk e => hk.1 e), q1, be.trans (hf.below (fun k e => by subst e; omega) hs)⟩
set_option maxHeartbeats 8000000 in
set_option maxRecDepth 100000 in
theorem impl_TlbUse.calls (s : Int) (A : Option Addr) (c : Nat) (l : List Int) (a : Int) (r1 : Int) (r2 : List Int) (r3 : Bool) (w : World) (hr : Kd.C (Kd.int .i64) w A l.length l) (hc : l.length ≤ c) (h : impl_TlbUse.f s l a = some (r1, r2, r3)) :
    Calls Try.prog 18 #[.agg #[.int .i64 s, .slice A l.length c], .int .i64 a] w fun e w' => ∃ v1_ : Value, e = .returned (.tuple #[.agg #[.int .i64 r1, v1_], .bool r3]) ∧ Kd.Q (Kd.int .i64) 3 w' w.heap.size (fun _ => True) v1_ r2 ∧ Below w.heap.size w w' := by
  have hu40 := Try.underlying40
  unfold impl_TlbUse.f at h
  split at h
  case isFalse => cases h
  case isTrue hl =>
  obtain ⟨b, hb, h⟩ := Option.bind_eq_some_iff.mp h
  have HR := Aside0.mk hr
  have HL := Aside0.mk hl
  have HB := Aside0.mk hb
  clear hr hl hb
  cases b with
  | false =>
    rw [if_neg (by decide)] at h
    obtain ⟨rfl, rfl, rfl⟩ : 0 = r1 ∧ [] = r2 ∧ false = r3 := by simpa using h
    clear h
    go_enter Try.func18, Try.ntmps18
    go_wp2_with (go_at_call 70; refine (impl_isTlb.calls (l.length + 20) s A c l false _ (cq HR.out) hc HB.out).mono ?_; rintro e w1 ⟨rfl, hb⟩; have HB1 := Aside0.mk hb; have K4 := Aside0.mk (blk_below at2_1 hb); clear hb; have q0 := kc K4.out 0 rfl; have q1 := kc K4.out 1 rfl; have qf0 := blk_frozen K4.out 0; have qf1 := blk_frozen K4.out 1)
    have hB : Below w.heap.size w w1 := ((((Fr.refl (fun _ => False) w).alloc _).alloc _).step HB1.out).below (fun _ h => h.elim) (Nat.le_refl _)
    refine bodyPost_ret (results_ct rfl _ _ (w.heap.size + 1) 40 #[.int .i64 0, .slice none 0 0] (0, 0) _ rfl (blk_put (blk_put K4.out 0 _ rfl) 1 _ rfl) Try.underlying40 rfl (by kernel_rfl)) rfl ?_
    exact ⟨_, rfl, Kd.Q_nil _ _ _ _ _, (hB.setCell (Nat.le_add_right _ 1) _).setCell (Nat.le_add_right _ 1) _⟩
  | true =>
    rw [if_pos rfl] at h
    obtain ⟨b2, hb2, h⟩ := Option.bind_eq_some_iff.mp h
    replace h := Option.some.inj h
    have hs1 := isTlb_one HB.out
    have H2 := Aside0.mk hb2
    clear hb2
    cases b2 with
    | false =>
      rw [if_neg (by decide)] at h
      obtain ⟨rfl, rfl, rfl⟩ : 0 = r1 ∧ [] = r2 ∧ false = r3 := by simpa using h
      clear h
      go_enter Try.func18, Try.ntmps18
      go_wp2_with (first | (go_at_call 70; refine (impl_isTlb.calls (l.length + 20) s A c l true _ (cq HR.out) hc HB.out).mono ?_; rintro e w1 ⟨rfl, hb⟩; have HB1 := Aside0.mk hb; have K4 := Aside0.mk (blk_below at2_1 hb); clear hb; have q0 := kc K4.out 0 rfl; have q1 := kc K4.out 1 rfl; have qf0 := blk_frozen K4.out 0; have qf1 := blk_frozen K4.out 1) | (go_at_call 60; refine (impl_isAddr.calls a false _ H2.out).mono ?_; rintro e w2 ⟨rfl, ⟨nd, rfl⟩⟩))
      have hB : Below w.heap.size w w1 := ((((Fr.refl (fun _ => False) w).alloc _).alloc _).step HB1.out).below (fun _ h => h.elim) (Nat.le_refl _)
      refine bodyPost_ret (results_ct rfl _ _ (w.heap.size + 1) 40 #[.int .i64 0, .slice none 0 0] (0, 0) _ rfl (blk_put (blk_put (blk_drewN K4.out _) 0 _ rfl) 1 _ rfl) Try.underlying40 rfl (by kernel_rfl)) rfl ?_
      exact ⟨_, rfl, Kd.Q_nil _ _ _ _ _, (Below.setCell (Below.setCell (pw_below_drewN hB nd) (Nat.le_add_right _ 1) _) (Nat.le_add_right _ 1) _)⟩
    | true =>
      rw [if_pos rfl] at h
      obtain ⟨rfl, rfl, rfl⟩ : s = r1 ∧ (useF s l (wrap64 (Int.tdiv a 64))).2 = r2 ∧ (useF s l (wrap64 (Int.tdiv a 64))).1 = r3 := by simpa using h
      clear h
      have hcl : slices_Clone_int_int.f l = some l := by unfold slices_Clone_int_int.f; rw [if_pos (by have := HL.out; omega)]
      have HCL := Aside0.mk hcl
      clear hcl
      go_enter Try.func18, Try.ntmps18
      go_wp2_with (first | (go_at_call 70; refine (impl_isTlb.calls (l.length + 20) s A c l true _ (cq HR.out) hc HB.out).mono ?_; rintro e w1 ⟨rfl, hb⟩; have K3 := Aside0.mk (blk_below at2_0 hb); have K4 := Aside0.mk (blk_below at2_1 hb); have HB1 := Aside0.mk (Fr.step (((Fr.refl (fun _ => False) w).alloc _).alloc _) hb); have HS := Aside0.mk (show w.heap.size + 1 < w1.heap.size by have := hb.size; simp at this; omega); clear hb; have q0 := kc K4.out 0 rfl; have q1 := kc K4.out 1 rfl; have qf0 := blk_frozen K4.out 0; have qf1 := blk_frozen K4.out 1; have p0 := kc K3.out 0 rfl; have p1 := kc K3.out 1 rfl) | (go_at_call 60; refine (impl_isAddr.calls a true _ H2.out).mono ?_; rintro e w2 ⟨rfl, hd⟩; have hb := hd.below; have L3 := Aside0.mk (blk_below K3.out hb); have L4 := Aside0.mk (blk_below K4.out hb); have HB2 := Aside0.mk (HB1.out.step hb); have HS2 := Aside0.mk (show w.heap.size + 1 < w2.heap.size by have := hb.size; have := HS.out; omega); have EL := Aside0.mk (Kd.C_below HR.out (HB2.out.below (fun _ h => h.elim) (Nat.le_refl _))); clear hd hb; clear q0 q1 qf0 qf1 p0 p1; have p0 := kc L3.out 0 rfl; have p1 := kc L3.out 1 rfl))
      have n1 : w.heap.size ≠ w2.heap.size := by have := HS2.out; omega
      have n2 : w2.heap.size ≠ w.heap.size := by have := HS2.out; omega
      have n3 : w.heap.size < w2.heap.size := by have := HS2.out; omega
      have n4 : w.heap.size + 1 ≠ w2.heap.size := by have := HS2.out; omega
      have n5 : w2.heap.size ≠ w.heap.size + 1 := by have := HS2.out; omega
      have n6 : w.heap.size + 1 < w2.heap.size := HS2.out
      go_region_held3 (fun w' => w'.cell? ⟨w.heap.size, 0, none⟩ = some (.int .i64 s) ∧ w'.cell? ⟨w.heap.size, 1, none⟩ = some (.slice A l.length c)) (go_keep)
        ((go_at_call 71; refine (slices_Clone_int_int.calls A c l l _ (cq EL.out) hc HCL.out).mono ?_; rintro e w3 ⟨v, rfl, ho, hb⟩; obtain ⟨Av, cv, rfl⟩ := Kd.R_slice ho; have HV := Aside0.mk (Kd.R_lower ho (base' := w.heap.size) (by (try simp only [World.size_alloc, World.drew]); omega)); have L3n := Aside0.mk (blk_below (bq L3.out) hb); have L4n := Aside0.mk (blk_below (bq L4.out) hb); have HB3 := Aside0.mk ((fq HB2.out).step hb); have hs3 := hb.size; have HS3 := Aside0.mk (show w.heap.size + 1 < w3.heap.size by (try simp only [World.size_alloc, World.drew] at hs3); omega); clear hs3; clear L3 L4 HB2; have L3 := L3n; have L4 := L4n; clear L3n L4n; clear p0 p1; have p0 := kc L3.out 0 rfl; have p1 := kc L3.out 1 rfl; (first | (guard_hyp hb : Below ((w2.alloc (.cells #[.int .i64 0, .slice none 0 0] 40)).drew).heap.size ((w2.alloc (.cells #[.int .i64 0, .slice none 0 0] 40)).drew) w3; have M40 := Aside0.mk (blk_below (blk_drew (at1_0 (w := w2) (o0 := (.cells #[.int .i64 0, .slice none 0 0] 40)))) hb); have m0 := kc M40.out 0 rfl; have f0 := blk_frozen M40.out 0; have m1 := kc M40.out 1 rfl; have f1 := blk_frozen M40.out 1) | skip); clear hb ho))
      all_goals
        first
        | refine gen_world (P := fun X => Exit.then _ _ _ _ X) (S := fun X => TQ w X s (.slice Av l.length cv) l w2.heap.size) (TQ.mk' L4.out (Kd.R_mono HV.out (fun _ _ => trivial)) (HB3.out.below (fun _ h => h.elim) (Nat.le_refl _)) (((Fr.refl (fun k => k = w2.heap.size) w3).set (p := ⟨w2.heap.size, 0, none⟩) (.inl rfl) _).set (p := ⟨w2.heap.size, 1, none⟩) (.inl rfl) _) (blk_put (blk_put M40.out 0 _ rfl) 1 _ rfl) (.inr ⟨_, M40.out⟩) HS2.out) ?_
        | refine gen_world (P := fun X => Exit.then _ _ _ _ X) (S := fun X => TQ w X s (.slice Av l.length cv) l w3.heap.size) (TQ.mk' L4.out (Kd.R_mono HV.out (fun _ _ => trivial)) (HB3.out.below (fun _ h => h.elim) (Nat.le_refl _)) ((Fr.refl (fun k => k = w3.heap.size) w3).alloc _) (new_at rfl) (.inl (Nat.le_refl _)) HS3.out) ?_
        intro W HQ0
        have HQ := Aside0.mk HQ0
        clear HQ0
        have n7 := HQ.out.q1
        have n8 : w.heap.size + 1 ≠ _ := Nat.ne_of_lt n7
        have n9 := Ne.symm n8
        go_wp2_with (go_at_call 72; refine (use_calls _ s a (.slice Av l.length cv) l w.heap.size _ HQ.out.b1 (Kd.Q_of_R (Kd.R_mono HQ.out.r1 (fun _ hk => hk.1))) HQ.out.be.size (by have := HL.out; omega) hs1).mono ?_; rintro e W' ⟨rfl, v', hb1, hq', hfr, hown⟩; obtain ⟨A8, c8, rfl, hl8⟩ := Kd.Q_slice hq'; have K1 := Aside0.mk hb1; have Q1 := Aside0.mk hq'; have HF := Aside0.mk hfr; have K5 := Aside0.mk (hfr.blk HQ.out.k4 (fun h => h.elim n8 (fun e => (HQ.out.r1.1 _ e).2 rfl))); clear hb1 hq' hfr hown hl8; have y0 := kc K1.out 0 rfl; have y1 := kc K1.out 1 rfl; have x0 := kc K5.out 0 rfl; have x1 := kc K5.out 1 rfl; have f0 := blk_frozen K5.out 0; have f1 := blk_frozen K5.out 1)
        refine bodyPost_ret (results_ct rfl _ _ (w.heap.size + 1) 40 #[.int .i64 s, .slice A8 (useF s l (wrap64 (Int.tdiv a 64))).2.length c8] (0, 0) _ rfl (blk_put (blk_put K5.out 0 _ rfl) 1 _ rfl) Try.underlying40 rfl (by kernel_rfl)) rfl ?_
        have hQ8 := Kd.Q_types Q1.out K5.out (by decide)
        have hB : Below w.heap.size w W' := HQ.out.be.trans (HF.out.below (fun k hk => hk.elim (fun e => by omega) (fun e => (Kd.R_bound HQ.out.r1).1 _ e |>.2.1)) HQ.out.be.size)
        exact ⟨_, rfl, Kd.Q_mono (Kd.Q_far (p := ⟨w.heap.size + 1, 1, none⟩) (Kd.Q_far (p := ⟨w.heap.size + 1, 0, none⟩) hQ8 (fun k hk => hk.2) _) (fun k hk => hk.2) _) (fun _ _ => trivial), (hB.setCell (Nat.le_add_right _ 1) _).setCell (Nat.le_add_right _ 1) _⟩
end Go.Proofs.Ytglehilfemfiiaa.GE
