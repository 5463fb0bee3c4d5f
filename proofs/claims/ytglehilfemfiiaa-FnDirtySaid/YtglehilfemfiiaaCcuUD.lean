/- impl.CacheUse, walked by hand: the clone as blocks, the access, the blocks as rows again. -/
import Derived.Test.YtglehilfemfiiaaCcxUD
import Derived.Test.YtglehilfemfiiaaGUx1D
import Derived.Test.YtglehilfemfiiaaGUx2D
import Derived.Test.YtglehilfemfiiaaGUx3D
namespace Go.Proofs.Ytglehilfemfiiaa.GU
open Go.RowKit Go.Proofs.YtglehilfemfiiaaW.PrintWords Go.Proofs.YtglehilfemfiiaaW.PrintLast Go.Proofs.YtglehilfemfiiaaW.PrintMore Go.Proofs.Ytglehilfemfiiaa.Q Go.Proofs.Ytglehilfemfiiaa.Hnd
set_option linter.unusedVariables false
set_option linter.unusedSimpArgs false
/-- Rows of rows as blocks. -/
theorem S_blocks {W : World} {base : Nat} {ok : Nat → Prop} {A : Option Addr} {n c : Nat} {rows : List (List S118)} (h : Kd.S (Kd.slice 118 k118) 116 W base ok (.slice A n c) rows) (hp : 0 < rows.length) :
    ∃ (g : Nat) (vs sp : List Value), A = some ⟨g, 0, none⟩ ∧ n = rows.length ∧ rows.length = vs.length ∧ base ≤ g ∧ W.heap[g]? = some (.cells (vs ++ sp).toArray 116 (0, 0)) ∧ rows.length ≤ c ∧ c ≤ maxLen ∧ (vs ++ sp).length = c ∧
      (∀ (i : Nat) (v : Value) (xs : List S118), vs[i]? = some v → rows[i]? = some xs → Kd.R k118 118 W base (fun _ => True) v xs) ∧
      (∀ (i j : Nat) (v v' : Value) (k : Nat), i ≠ j → vs[i]? = some v → vs[j]? = some v' → v.ownBlock = some k → v'.ownBlock ≠ some k) := by
  obtain ⟨f, h0, inner, ho, hr⟩ := h
  have hlen : inner.length = rows.length := by have := hr.1; rw [List.length_zipIdx, show (Kd.tag f (Kd.slice 118 k118)).sz = 1 from rfl, Nat.mul_one] at this; exact this
  rw [List.length_zipIdx] at ho
  have row : ∀ (i : Nat) (v : Value) (xs : List S118), inner[i]? = some v → rows[i]? = some xs → ∃ okk : Nat → Prop, (∀ k, okk k → f k = i) ∧ Kd.R k118 118 W base okk v xs := by
    intro i v xs hv hx
    obtain ⟨v', e, hR⟩ := hr.2 i (xs, i) (Kd.zip_at hx)
    have e2 : (inner.drop (i * 1)).take 1 = [v] := by
      rw [Nat.mul_one]
      obtain ⟨hi, e3⟩ := List.getElem?_eq_some_iff.1 hv
      rw [List.drop_eq_getElem_cons hi, e3]
      rfl
    have e3 : [v] = [v'] := e2.symm.trans e
    injection e3 with e3 _
    subst e3
    exact ⟨_, fun k hk => hk.2, hR⟩
  rcases ho.2 with ⟨_, hn⟩ | ⟨g, cap, cur, hv, hb, hh, hc, hm, hs, ht⟩
  · omega
  · injection hv with e1 e2 e3
    subst e1; subst e2; subst e3
    refine ⟨g, inner, cur.toList.drop rows.length, rfl, rfl, hlen.symm, hb, ?_, hc, hm, ?_, fun i v xs h1 h2 => ?_, fun i j v v' k hij h1 h2 h3 h4 => ?_⟩
    · rw [← ht, show rows.length * (Kd.tag f (Kd.slice 118 k118)).sz = rows.length from Nat.mul_one _, List.take_append_drop]
      exact hh
    · rw [← ht, show rows.length * (Kd.tag f (Kd.slice 118 k118)).sz = rows.length from Nat.mul_one _, List.take_append_drop, Array.length_toList, hs]
      exact Nat.mul_one _
    · obtain ⟨okk, _, hR⟩ := row i v xs h1 h2
      exact Kd.R_mono hR (fun _ _ => trivial)
    · have li : i < rows.length := by rw [← hlen]; exact (List.getElem?_eq_some_iff.1 h1).1
      have lj : j < rows.length := by rw [← hlen]; exact (List.getElem?_eq_some_iff.1 h2).1
      obtain ⟨o1, f1, hR1⟩ := row i v rows[i] h1 (List.getElem?_eq_getElem li)
      obtain ⟨o2, f2, hR2⟩ := row j v' rows[j] h2 (List.getElem?_eq_getElem lj)
      exact hij ((f1 k (hR1.1 k h3)).symm.trans (f2 k (hR2.1 k h4)))
/-- A cache's blocks, as rows of rows. -/
theorem CS.S {cp : Nat} {sp : List Value} {B : Nat} {W : World} {gc gr : Nat} {s0 s1 s2 : Int} {vs : List Value} {rows : List (List S118)} (h : CS cp sp B W gc gr s0 s1 s2 vs rows) (hc : vs.length ≤ cp) (hm : cp ≤ maxLen) (hl : (vs ++ sp).length = cp) :
    Kd.S (Kd.slice 118 k118) 116 W B (fun _ => True) (.slice (some ⟨gr, 0, none⟩) rows.length cp) rows := by
  obtain ⟨f, hr⟩ := Kd.reps_tag (d := Kd.slice 118 k118) (w := W) (base := B) (ok := fun k => True ∧ some k ≠ (Value.slice (some ⟨gr, 0, none⟩) rows.length cp).ownBlock) (xs := rows) (inner := vs)
    (fun j k => ∃ v, vs[j]? = some v ∧ v.ownBlock = some k)
    (fun i j k h1 h2 => by
      obtain ⟨v, h3, h4⟩ := h1
      obtain ⟨v', h5, h6⟩ := h2
      by_cases e : i = j
      · exact e
      · exact absurd h6 (h.apart i j v v' k e h3 h5 h4))
    (fun j k hk => ⟨trivial, fun e => by
      obtain ⟨v, h3, h4⟩ := hk
      have e2 : k = gr := by simpa [Value.ownBlock] using e
      subst e2
      exact h.ne_tab h3 h4 rfl⟩)
    (by rw [show (Kd.slice 118 k118).sz = 1 from rfl, Nat.mul_one]; exact h.len.symm)
    (fun j x hx => by
      have hj : j < vs.length := by rw [← h.len]; exact (List.getElem?_eq_some_iff.1 hx).1
      refine ⟨vs[j], ?_, ?_⟩
      · rw [show (Kd.slice 118 k118).sz = 1 from rfl, Nat.mul_one, List.drop_eq_getElem_cons hj]
        rfl
      · exact Kd.R_mono (Kd.R_tight rfl (h.row j vs[j] x (List.getElem?_eq_getElem hj) hx)) (fun k hk => ⟨vs[j], List.getElem?_eq_getElem hj, hk.symm⟩))
  refine ⟨f, fun _ _ => trivial, vs, ⟨by rw [List.length_zipIdx, show (Kd.tag f (Kd.slice 118 k118)).sz = 1 from rfl, Nat.mul_one]; exact h.len.symm, .inr ⟨gr, cp, _, by rw [List.length_zipIdx], h.hgr, h.tab, ?_, hm, ?_, ?_⟩⟩, hr⟩
  · rw [List.length_zipIdx, h.len]; exact hc
  · rw [List.size_toArray, hl, show (Kd.tag f (Kd.slice 118 k118)).sz = 1 from rfl, Nat.mul_one]
  · rw [List.length_zipIdx, h.len, show (Kd.tag f (Kd.slice 118 k118)).sz = 1 from rfl, Nat.mul_one]
    simp
/-- cloneCache tells the same rows. -/
theorem clone_l (s0 s1 s2 : Int) (l : List (List S118)) (hl : l.length ≤ 1000) (hx : ∀ x ∈ l, x.length < 900) : ∀ (d i : Nat), l.length - i = d → i ≤ l.length → ∀ k, d < k → impl_cloneCache.l0 k l (l.length : Int) (i : Int) s0 s1 s2 (l.take i) = some (s0, s1, s2, l)
  | 0, i, hd, hi, k, hk => by
    obtain ⟨k, rfl⟩ : ∃ m, k = m + 1 := ⟨k - 1, by omega⟩
    obtain rfl : i = l.length := by omega
    simp only [impl_cloneCache.l0]
    rw [if_neg (by omega), List.take_length]
  | d + 1, i, hd, hi, k, hk => by
    obtain ⟨k, rfl⟩ : ∃ m, k = m + 1 := ⟨k - 1, by omega⟩
    have hi2 : i < l.length := by omega
    simp only [impl_cloneCache.l0]
    have hrd : rd_L3 l (i : Int) = l[i] := by unfold rd_L3; rw [Int.toNat_natCast, List.getD_eq_getElem?_getD, List.getElem?_eq_getElem hi2]; rfl
    have hw : wrap64 ((i : Int) + 1) = ((i + 1 : Nat) : Int) := by unfold wrap64; omega
    have hlen := hx l[i] (List.getElem_mem hi2)
    rw [if_pos (by omega), if_pos (by omega), if_pos (by omega), hrd]
    unfold impl_Way.f
    rw [if_pos (by omega), Option.bind_some, if_pos (by rw [List.length_take]; omega), hw, ← List.take_succ_eq_append_getElem hi2]
    exact clone_l s0 s1 s2 l hl hx d (i + 1) (by omega) (by omega) k (by omega)
theorem clone_f (s0 s1 s2 : Int) (l : List (List S118)) (hl : l.length ≤ 1000) (hx : ∀ x ∈ l, x.length < 900) : impl_cloneCache.f 2000 s0 s1 s2 l = some (s0, s1, s2, l) :=
  clone_l s0 s1 s2 l hl hx l.length 0 (by omega) (by omega) 2000 (by omega)
/-- The access, as it is told: whether the line was there, whether a dirty one had to go, the rows behind it. -/
def useC (s0 s1 s2 : Int) (rows : List (List S118)) (a : Int) (wr : Bool) : Bool × Bool × List (List S118) :=
  let x := useRow s1 (rows.getD (a / s2 % s0).toNat []) (a / s2 / s0) wr
  (x.1, x.2.1, rows.set (a / s2 % s0).toNat x.2.2)
/-- impl.CacheUse, in the form of the print. -/
def impl_CacheUse.f (k : Nat) (s0 s1 s2 : Int) (l : List (List S118)) (a : Int) (wr : Bool) : Option (Int × Int × Int × List (List S118) × Bool × Bool) :=
  (impl_isCache.f k s0 s1 s2 l).bind fun b =>
    if b = true ∧ 0 ≤ a ∧ a ≤ 65535 then
      (if 1 ≤ s0 ∧ 1 ≤ s2 ∧ (l.length : Int) = s0 ∧ l.length ≤ 1000 ∧ ∀ x ∈ l, x.length < 900 then some (s0, s1, s2, (useC s0 s1 s2 l a wr).2.2, (useC s0 s1 s2 l a wr).1, (useC s0 s1 s2 l a wr).2.1) else none)
    else some (0, 0, 0, [], false, false)
/-- A box of four cells, written anew. -/
theorem box4 {W : World} {g t : Nat} {a b c d : Value} (h : W.heap[g]? = some (.cells #[a, b, c, d] t (0, 0))) (x y z u : Value) :
    ((((W.setCell ⟨g, 0, none⟩ x).setCell ⟨g, 1, none⟩ y).setCell ⟨g, 2, none⟩ z).setCell ⟨g, 3, none⟩ u).heap[g]? = some (.cells #[x, y, z, u] t (0, 0)) := by
  have h4 := blk_put (blk_put (blk_put (blk_put h 0 x rfl) 1 y rfl) 2 z rfl) 3 u rfl
  simpa using h4
theorem below4 {w0 W : World} {g : Nat} (hg : w0.heap.size ≤ g) (h : Below w0.heap.size w0 W) (x y z u : Value) :
    Below w0.heap.size w0 ((((W.setCell ⟨g, 0, none⟩ x).setCell ⟨g, 1, none⟩ y).setCell ⟨g, 2, none⟩ z).setCell ⟨g, 3, none⟩ u) :=
  below_set (below_set (below_set (below_set h hg) hg) hg) hg
theorem S4 {W : World} {base : Nat} {ok : Nat → Prop} {v : Value} {rows : List (List S118)} {g : Nat} {cells : Array Value} (h : Kd.S (Kd.slice 118 k118) 116 W base ok v rows) (hg : W.heap[g]? = some (.cells cells 70 (0, 0))) (x y z u : Value) :
    Kd.S (Kd.slice 118 k118) 116 ((((W.setCell ⟨g, 0, none⟩ x).setCell ⟨g, 1, none⟩ y).setCell ⟨g, 2, none⟩ z).setCell ⟨g, 3, none⟩ u) base ok v rows := by
  have h1 := Kd.S_types h hg (by decide)
  have far : ∀ {W' : World} {p : Addr} (_ : p.block = g) (w : Value), Kd.S (Kd.slice 118 k118) 116 W' base (fun k => ok k ∧ k ≠ g) v rows → Kd.S (Kd.slice 118 k118) 116 (W'.setCell p w) base (fun k => ok k ∧ k ≠ g) v rows := fun {W' p} hp w hS => Kd.S_far hS (fun k hk e => hk.2 (e.trans hp)) w
  exact Kd.S_mono (far (p := ⟨g, 3, none⟩) rfl _ (far (p := ⟨g, 2, none⟩) rfl _ (far (p := ⟨g, 1, none⟩) rfl _ (far (p := ⟨g, 0, none⟩) rfl _ h1)))) (fun _ hk => hk.1)
theorem isAddr_f (a : Int) : impl_isAddr.f a = some (decide (0 ≤ a ∧ a ≤ 65535)) := by
  unfold impl_isAddr.f impl_within.f
  split <;> simp_all <;> omega
set_option maxHeartbeats 2000000 in
set_option maxRecDepth 100000 in
theorem cacheUse_no (k : Nat) (s0 s1 s2 : Int) (A : Option Addr) (c : Nat) (l : List (List S118)) (a : Int) (wr : Bool) (w : World) (hr : Kd.C (Kd.slice 118 k118) w A l.length l) (hc : l.length ≤ c) (b : Bool) (hb : impl_isCache.f k s0 s1 s2 l = some b) (hn : (b && decide (0 ≤ a ∧ a ≤ 65535)) = false) :
    Calls Try.prog 39 #[.agg #[.int .i64 s0, .int .i64 s1, .int .i64 s2, .slice A l.length c], .int .i64 a, .bool wr] w fun e w' => e = .returned (.tuple #[.agg #[.int .i64 0, .int .i64 0, .int .i64 0, .slice none 0 0], .bool false, .bool false]) ∧ Below w.heap.size w w' := by
  have hu70 := Try.underlying70
  have hu25 := Try.underlying25
  have HR := Aside0.mk hr
  have HK := Aside0.mk hb
  obtain ⟨v, hv⟩ : ∃ v, v = decide (0 ≤ a ∧ a ≤ 65535) := ⟨_, rfl⟩
  rw [← hv] at hn
  have HV := Aside0.mk (show impl_isAddr.f a = some v from (isAddr_f a).trans (congrArg some hv.symm))
  clear hr hb hv
  cases b with
  | false =>
    clear hn
    go_enter Try.func39, Try.ntmps39
    go_wp2_with (go_at_call 87; refine (impl_isCache.calls k s0 s1 s2 A c l false _ (cq HR.out) hc HK.out).mono ?_; rintro e w1 ⟨rfl, hb1⟩; have K0 := Aside0.mk (blk_below at2_1 hb1); have HB := Aside0.mk (below_step (lq (Below.refl w.heap.size w) : Below w.heap.size w _) hb1); have ll := blk_lt K0.out; clear hb1; have c0 := kc K0.out 0 rfl; have c1 := kc K0.out 1 rfl; have c2 := kc K0.out 2 rfl; have c3 := kc K0.out 3 rfl; have f0 := blk_frozen K0.out 0; have f1 := blk_frozen K0.out 1; have f2 := blk_frozen K0.out 2; have f3 := blk_frozen K0.out 3)
    refine bodyPost_ret (results_ctt rfl _ _ (w.heap.size + 1) 70 #[.int .i64 0, .int .i64 0, .int .i64 0, .slice none 0 0] (0, 0) _ rfl ?bb Try.underlying70 rfl (by kernel_rfl)) rfl ?_
    case bb => exact box4 K0.out _ _ _ _
    exact ⟨rfl, below4 (Nat.le_succ _) HB.out _ _ _ _⟩
  | true =>
    obtain rfl : v = false := by simpa using hn
    clear hn
    go_enter Try.func39, Try.ntmps39
    go_wp2_with (first | (go_at_call 87; refine (impl_isCache.calls k s0 s1 s2 A c l true _ (cq HR.out) hc HK.out).mono ?_; rintro e w1 ⟨rfl, hb1⟩; have K0 := Aside0.mk (blk_below at2_1 hb1); have HB := Aside0.mk (below_step (lq (Below.refl w.heap.size w) : Below w.heap.size w _) hb1); clear hb1) | (go_at_call 60; refine (impl_isAddr.calls a false _ HV.out).mono ?_; rintro e w2 ⟨rfl, hd⟩; have K1 := Aside0.mk (blk_below K0.out hd.below); have HB2 := Aside0.mk (below_step HB.out hd.below); have ll := blk_lt K1.out; clear hd; have c0 := kc K1.out 0 rfl; have c1 := kc K1.out 1 rfl; have c2 := kc K1.out 2 rfl; have c3 := kc K1.out 3 rfl; have f0 := blk_frozen K1.out 0; have f1 := blk_frozen K1.out 1; have f2 := blk_frozen K1.out 2; have f3 := blk_frozen K1.out 3))
    refine bodyPost_ret (results_ctt rfl _ _ (w.heap.size + 1) 70 #[.int .i64 0, .int .i64 0, .int .i64 0, .slice none 0 0] (0, 0) _ rfl ?bb Try.underlying70 rfl (by kernel_rfl)) rfl ?_
    case bb => exact box4 K1.out _ _ _ _
    exact ⟨rfl, below4 (Nat.le_succ _) HB2.out _ _ _ _⟩
/-- A cache as its blocks, behind its box was made. -/
theorem cs_mk {W3 W : World} {B g gc cp : Nat} {vs sp : List Value} {rows : List (List S118)} {s0 s1 s2 : Int} (htab : W3.heap[g]? = some (.cells (vs ++ sp).toArray 116 (0, 0))) (hlen : rows.length = vs.length) (hrow : ∀ (i : Nat) (v : Value) (xs : List S118), vs[i]? = some v → rows[i]? = some xs → Kd.R k118 118 W3 B (fun _ => True) v xs) (hap : ∀ (i j : Nat) (v v' : Value) (k : Nat), i ≠ j → vs[i]? = some v → vs[j]? = some v' → v.ownBlock = some k → v'.ownBlock ≠ some k)
    (hb : Below W3.heap.size W3 W) (hbox : W.heap[gc]? = some (.cells #[.int .i64 s0, .int .i64 s1, .int .i64 s2, .slice (some ⟨g, 0, none⟩) vs.length cp] 70 (0, 0))) (hgc : B ≤ gc) (hg : B ≤ g) (hB : B ≤ W3.heap.size) : CS cp sp B W gc g s0 s1 s2 vs rows :=
  ⟨hbox, blk_below htab hb, hlen, fun i v xs h1 h2 => Kd.R_below (hrow i v xs h1 h2) hb, hap, hgc, hg, Nat.le_trans hB hb.size⟩
theorem not_use {W : World} {k g B : Nat} {cells cells' : Array Value} (h : W.heap[k]? = some (.cells cells 70 (0, 0))) (hg : W.heap[g]? = some (.cells cells' 116 (0, 0))) (hk : k = g ∨ (B ≤ k ∧ ∃ cs, W.heap[k]? = some (.cells cs 118 (0, 0)))) : False := by
  rcases hk with rfl | ⟨_, cs, h2⟩
  · have := h.symm.trans hg
    simp at this
  · have := h.symm.trans h2
    simp at this
set_option maxHeartbeats 4000000 in
set_option maxRecDepth 100000 in
theorem cacheUse_yes (k : Nat) (s0 s1 s2 : Int) (A : Option Addr) (c : Nat) (l : List (List S118)) (a : Int) (wr : Bool) (w : World) (hr : Kd.C (Kd.slice 118 k118) w A l.length l) (hc : l.length ≤ c) (hb : impl_isCache.f k s0 s1 s2 l = some true) (ha : 0 ≤ a) (ha2 : a ≤ 65535) (h0 : 1 ≤ s0) (h2 : 1 ≤ s2) (hl : (l.length : Int) = s0) (hm : l.length ≤ 1000) (hx : ∀ x ∈ l, x.length < 900) :
    Calls Try.prog 39 #[.agg #[.int .i64 s0, .int .i64 s1, .int .i64 s2, .slice A l.length c], .int .i64 a, .bool wr] w fun e w' => ∃ v3_ : Value, e = .returned (.tuple #[.agg #[.int .i64 s0, .int .i64 s1, .int .i64 s2, v3_], .bool (useC s0 s1 s2 l a wr).1, .bool (useC s0 s1 s2 l a wr).2.1]) ∧ Kd.S (Kd.slice 118 k118) 116 w' w.heap.size (fun _ => True) v3_ (useC s0 s1 s2 l a wr).2.2 ∧ Below w.heap.size w w' := by
  have hu70 := Try.underlying70
  have hu25 := Try.underlying25
  have HR := Aside0.mk hr
  have HK := Aside0.mk hb
  have HV := Aside0.mk (show impl_isAddr.f a = some true from (isAddr_f a).trans (congrArg some (decide_eq_true ⟨ha, ha2⟩)))
  have HCL := Aside0.mk (clone_f s0 s1 s2 l hm hx)
  obtain ⟨r, hrr⟩ : ∃ r : Nat, a / s2 % s0 = (r : Int) := ⟨(a / s2 % s0).toNat, by have := Int.emod_nonneg (a / s2) (show s0 ≠ 0 by omega); omega⟩
  have hrl : r < l.length := by
    have := Int.emod_lt_of_pos (a / s2) (show 0 < s0 by omega)
    omega
  have HU := Aside0.mk (show (useC s0 s1 s2 l a wr) = ((useRow s1 l[r] (a / s2 / s0) wr).1, (useRow s1 l[r] (a / s2 / s0) wr).2.1, l.set r (useRow s1 l[r] (a / s2 / s0) wr).2.2) by
    unfold useC
    rw [hrr, Int.toNat_natCast, List.getD_eq_getElem?_getD, List.getElem?_eq_getElem hrl]
    rfl)
  have hll := hx l[r] (List.getElem_mem hrl)
  obtain ⟨u, hu⟩ : ∃ u, u = useRow s1 l[r] (a / s2 / s0) wr := ⟨_, rfl⟩
  rw [← hu] at HU
  have HP := Aside0.mk (show 0 < l.length by omega)
  have HUSE := Aside0.mk (fun (cp : Nat) (sp : List Value) (B gc gr : Nat) (vs : List Value) (W : World) (hcs : CS cp sp B W gc gr s0 s1 s2 vs l) => hu ▸ use_calls B gc gr s0 s1 s2 a wr vs l W hcs ha ha2 h0 h2 (by rw [← hcs.len]; exact hm) r hrr (by rw [← hcs.len]; exact hrl) l[r] (List.getElem?_eq_getElem hrl) hll)
  clear hr hb hrr hrl hll hu hx hl hm
  go_enter Try.func39, Try.ntmps39
  go_wp2_with (first | (go_at_call 87; refine (impl_isCache.calls k s0 s1 s2 A c l true _ (cq HR.out) hc HK.out).mono ?_; rintro e w1 ⟨rfl, hb1⟩; have KR := Aside0.mk (blk_below at2_1 hb1); have KC := Aside0.mk (blk_below at2_0 hb1); have HB := Aside0.mk (below_step (lq (Below.refl w.heap.size w) : Below w.heap.size w _) hb1); clear hb1) | (go_at_call 60; refine (impl_isAddr.calls a true _ HV.out).mono ?_; rintro e w2 ⟨rfl, hd⟩; have KR2 := Aside0.mk (blk_below KR.out hd.below); have KC2 := Aside0.mk (blk_below KC.out hd.below); have HB2 := Aside0.mk (below_step HB.out hd.below); have ll := blk_lt KR2.out; clear hd; have c0 := kc KC2.out 0 rfl; have c1 := kc KC2.out 1 rfl; have c2 := kc KC2.out 2 rfl; have c3 := kc KC2.out 3 rfl) | (go_at_call 88; refine (impl_cloneCache.calls 2000 s0 s1 s2 A c l s0 s1 s2 l _ (Kd.C_below HR.out HB2.out) hc HCL.out).mono ?_; rintro e w3 ⟨v3, rfl, hS, hb3⟩; obtain ⟨A3, cp, rfl⟩ := Kd.S_slice hS; obtain ⟨g, vs, sp, rfl, _, hlen, hbg, htab, hcc, hcm, hsl, hrow, hap⟩ := S_blocks (Kd.S_lower hS (Nat.le_trans HB2.out.size (Nat.le_refl _))) HP.out; have KR3 := Aside0.mk (blk_below KR2.out hb3); have HB3 := Aside0.mk (below_step HB2.out hb3); have HT := Aside0.mk htab; have HLEN := Aside0.mk hlen; have HCC := Aside0.mk hcc; have HCM := Aside0.mk hcm; have HSL := Aside0.mk hsl; have HROW := Aside0.mk hrow; have HAP := Aside0.mk hap; have HBG := Aside0.mk hbg; have ll3 := blk_lt KR3.out; clear c0 c1 c2 c3 hS hb3 hlen hbg htab hcc hcm hsl hrow hap) | (go_at_call 62; refine (HUSE.out cp sp w.heap.size w3.heap.size g vs _ (cs_mk HT.out HLEN.out HROW.out HAP.out (below_alloc (Below.refl _ _) _) (by rw [← HLEN.out]; exact at1_0) HB3.out.size HBG.out HB3.out.size)).mono ?_; rintro e w5 ⟨rfl, vs', hvl, hcs5, hF5⟩; have KR5 := Aside0.mk (hF5.blk (bq KR3.out) (fun hk => not_use (bq KR3.out) (bq (W' := w3.alloc _) HT.out) hk)); have H5 := Aside0.mk hcs5; have F5 := Aside0.mk hF5; have HVL := Aside0.mk hvl; have b0 := kc H5.out.box 0 rfl; have b1 := kc H5.out.box 1 rfl; have b2 := kc H5.out.box 2 rfl; have b3 : w5.cell? ⟨w3.heap.size, 3, none⟩ = some (.slice (some ⟨g, 0, none⟩) l.length cp) := (by rw [HLEN.out, ← HVL.out]; exact kc H5.out.box 3 rfl); have ll5 := blk_lt KR5.out; have c0 := kc KR5.out 0 rfl; have c1 := kc KR5.out 1 rfl; have c2 := kc KR5.out 2 rfl; have c3 := kc KR5.out 3 rfl; have f0 := blk_frozen KR5.out 0; have f1 := blk_frozen KR5.out 1; have f2 := blk_frozen KR5.out 2; have f3 := blk_frozen KR5.out 3; clear hvl hcs5 hF5))
  refine bodyPost_ret (results_ctt rfl _ _ (w.heap.size + 1) 70 #[.int .i64 s0, .int .i64 s1, .int .i64 s2, .slice (some ⟨g, 0, none⟩) l.length cp] (0, 0) _ rfl ?bb Try.underlying70 rfl (by kernel_rfl)) rfl ?_
  case bb => exact box4 KR5.out _ _ _ _
  have hS := H5.out.S (by rw [HVL.out, ← HLEN.out]; exact HCC.out) HCM.out (by rw [List.length_append, HVL.out, ← List.length_append]; exact HSL.out)
  rw [List.length_set] at hS
  refine ⟨_, by rw [HU.out]; rfl, ?_, below4 (Nat.le_succ _) ((below_step HB3.out (below_alloc (Below.refl _ _) _)).trans (F5.out.below (B := w.heap.size) (fun i hi => hi.elim (fun e => e ▸ HBG.out) (fun h => h.1)) (Nat.le_trans HB3.out.size (by simp)))) _ _ _ _⟩
  rw [HU.out]
  exact S4 hS KR5.out _ _ _ _
theorem impl_CacheUse.calls (k : Nat) (a0_0 : Int) (a0_1 : Int) (a0_2 : Int) (A0_3 : Option Addr) (c0_3 : Nat) (l0_3 : List (List S118)) (a1 : Int) (a2 : Bool) (r1 : Int) (r2 : Int) (r3 : Int) (r4 : List (List S118)) (r5 : Bool) (r6 : Bool) (w : World) (hr0_3 : Kd.C (Kd.slice 118 k118) w A0_3 l0_3.length l0_3) (hc0_3 : l0_3.length ≤ c0_3) (h : impl_CacheUse.f k a0_0 a0_1 a0_2 l0_3 a1 a2 = some (r1, r2, r3, r4, r5, r6)) :
    Calls Try.prog 39 #[.agg #[.int .i64 a0_0, .int .i64 a0_1, .int .i64 a0_2, .slice A0_3 l0_3.length c0_3], .int .i64 a1, .bool a2] w fun e w' => ∃ v3_ : Value, e = .returned (.tuple #[.agg #[.int .i64 r1, .int .i64 r2, .int .i64 r3, v3_], .bool r5, .bool r6]) ∧ Kd.S (Kd.slice 118 k118) 116 w' w.heap.size (fun _ => True) v3_ r4 ∧ Below w.heap.size w w' := by
  unfold impl_CacheUse.f at h
  obtain ⟨b, hb, h⟩ := Option.bind_eq_some_iff.mp h
  by_cases hq : b = true ∧ 0 ≤ a1 ∧ a1 ≤ 65535
  · rw [if_pos hq] at h
    obtain ⟨rfl, ha, ha2⟩ := hq
    by_cases hg : 1 ≤ a0_0 ∧ 1 ≤ a0_2 ∧ (l0_3.length : Int) = a0_0 ∧ l0_3.length ≤ 1000 ∧ ∀ x ∈ l0_3, x.length < 900
    · rw [if_pos hg] at h
      simp only [Option.some.injEq, Prod.mk.injEq] at h
      obtain ⟨rfl, rfl, rfl, rfl, rfl, rfl⟩ := h
      obtain ⟨h0, h2, hl, hm, hx⟩ := hg
      exact cacheUse_yes k a0_0 a0_1 a0_2 A0_3 c0_3 l0_3 a1 a2 w hr0_3 hc0_3 hb ha ha2 h0 h2 hl hm hx
    · rw [if_neg hg] at h
      cases h
  · rw [if_neg hq] at h
    simp only [Option.some.injEq, Prod.mk.injEq] at h
    obtain ⟨rfl, rfl, rfl, rfl, rfl, rfl⟩ := h
    refine (cacheUse_no k a0_0 a0_1 a0_2 A0_3 c0_3 l0_3 a1 a2 w hr0_3 hc0_3 b hb ?_).mono (fun e w' hh => ⟨_, hh.1, Kd.S_nil _ _ _ _ _, hh.2⟩)
    cases b with
    | false => rfl
    | true =>
      rw [Bool.true_and, decide_eq_false_iff_not]
      exact fun h => hq ⟨rfl, h⟩
end Go.Proofs.Ytglehilfemfiiaa.GU
