/- (*Cache).use, walked by hand: the line was not there. -/
import Derived.Test.YtglehilfemfiiaaGUx0D
import Derived.Test.YtglehilfemfiiaaGUx1D
import Derived.Test.YtglehilfemfiiaaHndD
import Derived.Shelf.Abstract
import Derived.Lib.SliceRun
import Derived.Laws.CopyOwn
import Derived.Deep.RegionLaw
import Derived.Lib.Overlaps
import Derived.Laws.MakeOwn
import Derived.Deep.RegionHeld3
section
namespace Go.Proofs.Ytglehilfemfiiaa.GU
open Go.Shelf Go.RowKit Go.Proofs.YtglehilfemfiiaaW.PrintWords Go.Proofs.YtglehilfemfiiaaW.PrintLast Go.Proofs.YtglehilfemfiiaaW.PrintMore Go.Proofs.Ytglehilfemfiiaa.Q Go.Proofs.Ytglehilfemfiiaa.Hnd
set_option linter.unusedVariables false
set_option linter.unusedSimpArgs false
theorem rdx_W (l : List S118) (k : Nat) (hk : k < l.length) : l[k]? = some (rd_T118 l (k : Int)) := by
  unfold rd_T118
  rw [Int.toNat_natCast, List.getD_eq_getElem?_getD, List.getElem?_eq_getElem hk]
  rfl
def PredW (g : Nat) (lb : Array Value) (p : S118 → Bool) (w : World) : Prop :=
  ∀ (W : World) (x : S118), Below w.heap.size w W → Calls Try.prog g (#[.agg #[.int .i64 x.f0, .bool x.f1]] ++ lb) W fun e w' => e = .returned (.bool (p x)) ∧ Below w.heap.size w w'
def idxW (p : S118 → Bool) (l : List S118) : Int := match l.findIdx? p with | some i => (i : Int) | none => -1
theorem idxW_hit (p : S118 → Bool) (l : List S118) (i : Nat) (x : S118) (hx : l[i]? = some x) (hp : p x = true) (hn : ∀ (j : Nat) (y : S118), j < i → l[j]? = some y → p y = false) : idxW p l = (i : Int) := by
  have : l.findIdx? p = some i := by
    rw [List.findIdx?_eq_some_iff_getElem]
    obtain ⟨hi, e⟩ := List.getElem?_eq_some_iff.1 hx
    refine ⟨hi, by rw [e]; exact hp, fun j hj => ?_⟩
    have := hn j l[j] hj (List.getElem?_eq_getElem (by omega))
    simpa using this
  unfold idxW
  rw [this]
theorem idxW_miss (p : S118 → Bool) (l : List S118) (hn : ∀ (j : Nat) (y : S118), l[j]? = some y → p y = false) : idxW p l = -1 := by
  have : l.findIdx? p = none := by
    rw [List.findIdx?_eq_none_iff]
    intro x hx
    obtain ⟨j, hj⟩ := List.getElem?_of_mem hx
    exact hn j x hj
  unfold idxW
  rw [this]
set_option maxHeartbeats 2000000 in
set_option maxRecDepth 100000 in
theorem indexW_calls (p : S118 → Bool) (g : Nat) (lb : Array Value) (eg : ∀ args w, (callFunc g args).run Try.prog w = .ok (.enter g args) w) (A : Option Addr) (c : Nat) (l : List S118) (w : World)
    (hp : PredW g lb p w) (hr : Kd.C k118 w A l.length l) :
    Calls Try.prog 116 #[.slice A l.length c, .func (.func g) #[] lb] w fun e w' => e = .returned (.int .i64 (idxW p l)) ∧ Below w.heap.size w w' := by
  have hbig : l.length ≤ 9223372036854775807 := hr.2.1
  have HR := Aside0.mk hr
  have HP := Aside0.mk hp
  clear hr hp
  go_enter Try.func116, Try.ntmps116
  go_wp2
  go_loopg [5, 8] l.length (fun gg _ s8 wr => ∃ kk : Nat, kk ≤ l.length ∧ l.length - kk ≤ gg ∧ s8 = .int .i64 (kk : Int) ∧ Aside0 (Below w.heap.size w wr) ∧ Aside0 (∀ (j : Nat) (y : S118), j < kk → l[j]? = some y → p y = false))
  case atStart => exact ⟨0, Nat.zero_le _, by omega, rfl, ⟨Below.refl _ w⟩, ⟨fun j y hj => absurd hj (Nat.not_lt_zero _)⟩⟩
  case round =>
    obtain ⟨kk, hkk, hg, rfl, BW, AS⟩ := hrel
    by_cases hlt : kk < l.length
    · have hltz : (kk : Int) < (l.length : Int) := by omega
      have hr2 := Kd.C_below HR.out BW.out
      obtain ⟨ad, rfl, h0, h1⟩ := at_T118 hr2 (kk : Int) (by omega) (by omega)
      have hy := rdx_W l kk hlt
      have hcall := HP.out wr (rd_T118 l (kk : Int)) BW.out
      generalize rd_T118 l (kk : Int) = y at h0 h1 hcall hy
      have HY := Aside0.mk hy
      clear hy
      rw [Int.toNat_natCast] at h0 h1
      cases hq : p y with
      | true =>
        rw [hq] at hcall
        have HQ := Aside0.mk hq
        clear hq
        go_wp2_with (go_at_fn g; refine hcall.mono ?_; rintro e w' ⟨rfl, hb'⟩)
        go_ret
        exact ⟨by rw [idxW_hit p l kk y HY.out HQ.out AS.out]; rfl, hb'⟩
      | false =>
        rw [hq] at hcall
        have HQ := Aside0.mk hq
        clear hq
        go_wp2_with (go_at_fn g; refine hcall.mono ?_; rintro e w' ⟨rfl, hb'⟩)
        go_roundg (l.length - (kk + 1))
        case measure => omega
        case rel =>
          refine ⟨kk + 1, by omega, by omega, by go_num, ⟨hb'⟩, ⟨fun j z hj hz => ?_⟩⟩
          by_cases e : j = kk
          · subst e
            rw [HY.out] at hz
            injection hz with hz
            rw [← hz]
            exact HQ.out
          · exact AS.out j z (by omega) hz
    · have hltz : ¬ (kk : Int) < (l.length : Int) := by omega
      have HE : Aside0 (kk = l.length) := ⟨by omega⟩
      go_wp2
      go_ret
      exact ⟨by rw [idxW_miss p l (fun j z hz => AS.out j z (by rw [HE.out]; exact (List.getElem?_eq_some_iff.1 hz).1) hz)]; rfl, BW.out⟩
/-- The closure of wayIndex: 'its tag is a', a in block B. -/
def tagB (a : Int) (v : S118) : Bool := v.f0 == a
theorem wayIndex1_pred (a : Int) (B : Nat) (w : World) (hB : w.cell? ⟨B, 0, none⟩ = some (.int .i64 a)) (hlt : B < w.heap.size) : PredW 117 #[.pointer (some ⟨B, 0, none⟩)] (tagB a) w := fun W x hb => by
  have hc : W.cell? ⟨B, 0, none⟩ = some (.int .i64 a) := (hb.cell (p := ⟨B, 0, none⟩) hlt).trans hB
  have hu118 := Try.underlying118
  have hBW : B < W.heap.size := Nat.lt_of_lt_of_le hlt hb.size
  have hne : B ≠ W.heap.size := by omega
  clear hB
  show Calls Try.prog 117 #[.agg #[.int .i64 x.f0, .bool x.f1], .pointer (some ⟨B, 0, none⟩)] W _
  obtain ⟨x0, x1⟩ := x
  unfold tagB
  dsimp only
  go_enter Try.func117, Try.ntmps117
  go_wp2
  go_ret
  exact ⟨by first | rfl | (simp; done), hb.alloc hb.size _⟩
theorem wayIndex_calls (A : Option Addr) (c : Nat) (l : List S118) (a : Int) (w : World) (hr : Kd.C k118 w A l.length l) :
    Calls Try.prog 106 #[.slice A l.length c, .int .i64 a] w fun e w' => e = .returned (.int .i64 (idxW (tagB a) l)) ∧ Below w.heap.size w w' := by
  have HR := Aside0.mk hr
  have eg : ∀ args w, (callFunc 117 args).run Try.prog w = .ok (.enter 117 args) w := enters_of Try.func117 (by kernel_rfl) rfl
  have EG := Aside0.mk eg
  clear hr eg
  go_enter Try.func106, Try.ntmps106
  go_wp2_with (go_at_call 116; refine (indexW_calls (tagB a) 117 #[.pointer (some ⟨w.heap.size, 0, none⟩)] EG.out A c l _ (wayIndex1_pred a w.heap.size _ (by simp) (by simp)) (cq HR.out)).mono ?_; rintro e w' ⟨rfl, hb'⟩; have HB1 := Aside0.mk hb'; clear hb')
  go_ret
  exact ⟨rfl, ((Fr.refl (fun _ => False) w).alloc _ |>.step HB1.out).below (fun _ h => h.elim) (Nat.le_refl _)⟩
/-- The closure of CacheRun: 'no address'. -/
def badU (v : S32) : Bool := !(decide (0 ≤ v.f0 ∧ v.f0 ≤ 65535))
/-- wayIndex, in the form of the print. -/
def impl_wayIndex.f (l : List S118) (a : Int) : Option Int := some (idxW (tagB a) l)
theorem impl_wayIndex.calls (A0 : Option Addr) (c0 : Nat) (l0 : List S118) (a1 : Int) (r : Int) (w : World) (hr0 : Kd.C k118 w A0 l0.length l0) (hc0 : l0.length ≤ c0) (h : impl_wayIndex.f l0 a1 = some r) :
    Calls Try.prog 106 #[.slice A0 l0.length c0, .int .i64 a1] w fun e w' => e = .returned (.int .i64 r) ∧ Below w.heap.size w w' := by
  obtain rfl := Option.some.inj h
  exact wayIndex_calls A0 c0 l0 a1 w hr0
end Go.Proofs.Ytglehilfemfiiaa.GU
end
section
namespace Go.Proofs.Ytglehilfemfiiaa.GU
open Go.Shelf Go.RowKit Go.Proofs.YtglehilfemfiiaaW.PrintWords Go.Proofs.YtglehilfemfiiaaW.PrintLast Go.Proofs.YtglehilfemfiiaaW.PrintMore Go.Proofs.Ytglehilfemfiiaa.Q Go.Proofs.Ytglehilfemfiiaa.Hnd
set_option linter.unusedVariables false
set_option linter.unusedSimpArgs false
theorem cellq {W W' : World} {p : Addr} {v : Value} (h : W.cell? p = some v) [q : Quiet W W'] : W'.cell? p = some v := pw_cell_below q.go h
set_option maxHeartbeats 4000000 in
set_option maxRecDepth 100000 in
theorem find_calls (s0 s1 s2 a : Int) (A : Option Addr) (c : Nat) (rows : List (List S118)) (r : Nat) (w : World) (hr : Kd.C (Kd.slice 118 k118) w A rows.length rows) (h0 : s0 ≠ 0) (h2 : s2 ≠ 0) (hrow : Int.tmod (wrap64 (Int.tdiv a s2)) s0 = (r : Int)) (hlt : r < rows.length) :
    Calls Try.prog 93 #[.agg #[.int .i64 s0, .int .i64 s1, .int .i64 s2, .slice A rows.length c], .int .i64 a] w fun e w' => e = .returned (.tuple #[.int .i64 (r : Int), .int .i64 (idxW (tagB (wrap64 (Int.tdiv (wrap64 (Int.tdiv a s2)) s0))) (rd_L3 rows (r : Int)))]) ∧ Below w.heap.size w w' := by
  have hu70 := Try.underlying70
  obtain ⟨ad, A0, c0, rfl, hcell, hlc, hC⟩ := at_L3 hr (r : Int) (by omega) (by omega)
  rw [Int.toNat_natCast] at hcell
  have hblk := World.block_lt_of_cell? w _ hcell
  have HC := Aside0.mk hC
  have hltz : (r : Int) < (rows.length : Int) := by omega
  have hrz : 0 ≤ (r : Int) := by omega
  have h0b : (s0 == 0) = false := beq_eq_false_iff_ne.mpr h0
  have h2b : (s2 == 0) = false := beq_eq_false_iff_ne.mpr h2
  obtain ⟨line, hline⟩ : ∃ line, line = wrap64 (Int.tdiv a s2) := ⟨_, rfl⟩
  rw [← hline] at hrow ⊢
  have hline' := hline.symm
  clear hr hC hline
  go_enter Try.func93, Try.ntmps93
  go_wp2_with fail
  have HCE := Aside0.mk hcell
  go_region_held3 (fun w' => w'.cell? ⟨w.heap.size, 0, none⟩ = some (.int .i64 s0) ∧ w'.cell? ⟨w.heap.size, 2, none⟩ = some (.int .i64 s2) ∧ w'.cell? ⟨w.heap.size, 3, none⟩ = some (.slice (some ad) rows.length c) ∧ w'.cell? (ad.add r) = some (.slice A0 (rd_L3 rows (r : Int)).length c0)) (go_keep)
    ((go_at_call 106; rw [i64_w]; refine (wayIndex_calls A0 c0 (rd_L3 rows (r : Int)) (wrap64 (Int.tdiv line s0)) _ ?cc).mono ?_; (case cc => exact cq HC.out); rintro e w' ⟨rfl, hb'⟩; have HB1 := Aside0.mk hb'; have z0 : w'.cell? ⟨w.heap.size, 0, none⟩ = some (.int .i64 s0) := pw_cell_below hb' ((blk_cell (bq (blk_new w (.cells #[.int .i64 s0, .int .i64 s1, .int .i64 s2, .slice (some ad) rows.length c] 70 (0, 0)))) 0).trans rfl); have z2 : w'.cell? ⟨w.heap.size, 2, none⟩ = some (.int .i64 s2) := pw_cell_below hb' ((blk_cell (bq (blk_new w (.cells #[.int .i64 s0, .int .i64 s1, .int .i64 s2, .slice (some ad) rows.length c] 70 (0, 0)))) 2).trans rfl); have z3 : w'.cell? ⟨w.heap.size, 3, none⟩ = some (.slice (some ad) rows.length c) := pw_cell_below hb' ((blk_cell (bq (blk_new w (.cells #[.int .i64 s0, .int .i64 s1, .int .i64 s2, .slice (some ad) rows.length c] 70 (0, 0)))) 3).trans rfl); have z4 : w'.cell? (ad.add r) = some (.slice A0 (rd_L3 rows (r : Int)).length c0) := pw_cell_below hb' (cellq HCE.out)))
  go_wp2
  go_ret2
  exact ⟨rfl, ((((Fr.refl (fun _ => False) w).alloc _).drew).step HB1.out).below (fun _ h => h.elim) (Nat.le_refl _)⟩
/-- find, in the form of the print. -/
def impl_Cache_find.f (s0 s1 s2 : Int) (l : List (List S118)) (a : Int) : Option (Int × Int) :=
  if s0 ≠ 0 ∧ s2 ≠ 0 ∧ 0 ≤ Int.tmod (wrap64 (Int.tdiv a s2)) s0 ∧ Int.tmod (wrap64 (Int.tdiv a s2)) s0 < (l.length : Int) then some (Int.tmod (wrap64 (Int.tdiv a s2)) s0, idxW (tagB (wrap64 (Int.tdiv (wrap64 (Int.tdiv a s2)) s0))) (rd_L3 l (Int.tmod (wrap64 (Int.tdiv a s2)) s0))) else none
theorem impl_Cache_find.calls (a0_0 : Int) (a0_1 : Int) (a0_2 : Int) (A0_3 : Option Addr) (c0_3 : Nat) (l0_3 : List (List S118)) (a1 : Int) (r1 : Int) (r2 : Int) (w : World) (hr0_3 : Kd.C (Kd.slice 118 k118) w A0_3 l0_3.length l0_3) (hc0_3 : l0_3.length ≤ c0_3) (h : impl_Cache_find.f a0_0 a0_1 a0_2 l0_3 a1 = some (r1, r2)) :
    Calls Try.prog 93 #[.agg #[.int .i64 a0_0, .int .i64 a0_1, .int .i64 a0_2, .slice A0_3 l0_3.length c0_3], .int .i64 a1] w fun e w' => e = .returned (.tuple #[.int .i64 r1, .int .i64 r2]) ∧ Below w.heap.size w w' := by
  unfold impl_Cache_find.f at h
  split at h
  case isFalse => cases h
  case isTrue hc =>
  obtain ⟨h0, h2, h3, h4⟩ := hc
  obtain ⟨rfl, rfl⟩ : Int.tmod (wrap64 (Int.tdiv a1 a0_2)) a0_0 = r1 ∧ idxW (tagB (wrap64 (Int.tdiv (wrap64 (Int.tdiv a1 a0_2)) a0_0))) (rd_L3 l0_3 (Int.tmod (wrap64 (Int.tdiv a1 a0_2)) a0_0)) = r2 := by
    simpa using h
  have e : Int.tmod (wrap64 (Int.tdiv a1 a0_2)) a0_0 = ((Int.tmod (wrap64 (Int.tdiv a1 a0_2)) a0_0).toNat : Int) := by omega
  have hf := find_calls a0_0 a0_1 a0_2 a1 A0_3 c0_3 l0_3 (Int.tmod (wrap64 (Int.tdiv a1 a0_2)) a0_0).toNat w hr0_3 h0 h2 e (by omega)
  rw [← e] at hf
  exact hf
end Go.Proofs.Ytglehilfemfiiaa.GU
end
section
namespace Go.Proofs.Ytglehilfemfiiaa.GU
open Go.RowKit Go.Proofs.YtglehilfemfiiaaW.PrintWords Go.Proofs.YtglehilfemfiiaaW.PrintLast Go.Proofs.YtglehilfemfiiaaW.PrintMore Go.Proofs.Ytglehilfemfiiaa.Q Go.Proofs.Ytglehilfemfiiaa.Hnd
set_option linter.unusedVariables false
set_option linter.unusedSimpArgs false
/-- The cells of ways. -/
def cellsW : List S118 → List Value
  | [] => []
  | x :: xs => .int .i64 x.f0 :: .bool x.f1 :: cellsW xs
theorem cellsW_len : ∀ xs : List S118, (cellsW xs).length = xs.length * 2
  | [] => rfl
  | x :: xs => by simp only [cellsW, List.length_cons, cellsW_len xs]; omega
theorem cellsW_one : ∀ (xs : List S118), ∀ u ∈ cellsW xs, u.oneCell' = true
  | [], u, h => by cases h
  | x :: xs, u, h => by
    simp only [cellsW, List.mem_cons] at h
    rcases h with rfl | rfl | h
    · rfl
    · rfl
    · exact cellsW_one xs u h
theorem reps_cells : ∀ (xs : List S118) (inner : List Value), Reps (fun (x : S118) c => c = [.int .i64 x.f0, .bool x.f1]) 2 xs inner → inner = cellsW xs
  | [], inner, h => List.eq_nil_of_length_eq_zero (by simpa using h.1)
  | x :: xs, inner, h => by
    obtain ⟨h1, h2⟩ := h
    match inner, h1, h2 with
    | [], h1, _ => simp at h1
    | [_], h1, _ => simp at h1; omega
    | a :: b :: rest, h1, h2 =>
      have h0 := h2 0 x rfl
      simp at h0
      obtain ⟨rfl, rfl⟩ := h0
      have hr := reps_cells xs rest ⟨by simp at h1; omega, fun i p hp => by
        have := h2 (i + 1) p (by simpa using hp)
        rw [show (i + 1) * 2 = i * 2 + 2 by omega] at this
        simpa using this⟩
      rw [hr, cellsW]
theorem cells_reps : ∀ (xs : List S118), Reps (fun (x : S118) c => c = [.int .i64 x.f0, .bool x.f1]) 2 xs (cellsW xs)
  | [] => ⟨rfl, fun i p hp => by simp at hp⟩
  | x :: xs => ⟨by rw [cellsW_len], fun i p hp => by
      cases i with
      | zero => simp at hp; subst hp; simp [cellsW]
      | succ i =>
        have := (cells_reps xs).2 i p (by simpa using hp)
        rw [show (i + 1) * 2 = i * 2 + 2 by omega]
        simpa [cellsW] using this⟩
variable {W : World} {base g n c : Nat} {ok : Nat → Prop} {xs : List S118}
theorem R_cells (h : Kd.R k118 118 W base ok (.slice (some ⟨g, 0, none⟩) n c) xs) :
    n = xs.length ∧ base ≤ g ∧ n ≤ c ∧ c ≤ maxLen ∧ ok g ∧ ∃ spare : List Value, W.heap[g]? = some (.cells (cellsW xs ++ spare).toArray 118 (0, 0)) ∧ (cellsW xs ++ spare).length = c * 2 := by
  obtain ⟨h0, inner, ⟨hil, hw⟩, hr⟩ := h
  rcases hw with ⟨e, _⟩ | ⟨g', cap', cur, e, hb, hh, hc, hm, hs, ht⟩
  · cases e
  · injection e with e1 e2 e3
    injection e1 with e1
    injection e1 with e1
    subst e1; subst e3
    have hi : inner = cellsW xs := reps_cells xs inner (hr.imp_ (fun x cs hM => k118_openM hM))
    refine ⟨e2, hb, e2 ▸ hc, hm, h0 _ (by simp [Value.ownBlock]), cur.toList.drop (n * 2), ?_, ?_⟩
    · rw [← hi, ← ht, ← e2]
      have : (cur.toList.take (n * k118.sz) ++ cur.toList.drop (n * 2)).toArray = cur := by
        rw [show n * k118.sz = n * 2 from rfl, List.take_append_drop]
      rw [this]
      exact hh
    · rw [← hi, ← ht, ← e2, show n * k118.sz = n * 2 from rfl, List.take_append_drop, Array.length_toList, hs]
      rfl
theorem R_of_cells {spare : List Value} (hb : base ≤ g) (hok : ok g) (hh : W.heap[g]? = some (.cells (cellsW xs ++ spare).toArray 118 (0, 0))) (hl : (cellsW xs ++ spare).length = c * 2) (hn : n = xs.length) (hc : n ≤ c) (hm : c ≤ maxLen) :
    Kd.R k118 118 W base ok (.slice (some ⟨g, 0, none⟩) n c) xs := by
  refine ⟨fun k hk => ?_, cellsW xs, ⟨by rw [cellsW_len]; rfl, .inr ⟨g, c, _, by rw [hn], hb, hh, by omega, hm, by rw [List.size_toArray, hl]; rfl, ?_⟩⟩, (cells_reps xs).imp_ (fun x cs e => by subst e; exact k118_mkM _ _ _ x)⟩
  · have : g = k := by simpa [Value.ownBlock] using hk
    exact this ▸ hok
  · rw [show xs.length * k118.sz = (cellsW xs).length from (cellsW_len xs).symm]
    simp
/-- copy, elements of sz cells: the cells that go over are laid over the row from place o on. -/
theorem run_copyN {P : Program} (w : World) (dT sT ty elem : TypeId) (sz g o dLen dCap : Nat) (a : Addr) (sLen sCap : Nat) (cur : List Value) (t : TypeId) (cs : List Value)
    (hu : P.underlying dT = some (.slice elem)) (hs : (P.info? elem).map (·.size) = some sz)
    (hg : w.heap[g]? = some (.cells cur.toArray t (0, 0))) (hn : cs.length = Nat.min sLen dLen * sz)
    (hsrc : ∀ j v, cs[j]? = some v → w.cell? (a.add j) = some v) (hfit : o + cs.length ≤ cur.length) (h1 : ∀ v ∈ cs, v.oneCell' = true) :
    (Builtin.copy_ #[dT, sT] ty #[.slice (some ⟨g, o, none⟩) dLen dCap, .slice (some a) sLen sCap]).run P w =
      .ok (goInt (Nat.min sLen dLen)) (w.setRow g (splice cur o cs).toArray) := by
  have hst := run_storeCells_at P g o t cs 0 cur.toArray w hg (by simpa using hfit) h1
  cases hq : P.info? elem with
  | none => simp [hq] at hs
  | some i =>
    have hi : i.size = sz := by simpa [hq] using hs
    have hf := run_firstCells_some (P := P) w i.size (Nat.min sLen dLen) a sLen sCap cs (by rw [hn, hi]) hsrc
    simp only [Nat.add_zero] at hst
    simp [Builtin.copy_, run_underlying hu, Builtin.lenOf, sizeOf, typeInfo, hq, hf, hst, splice]
theorem fr_setRow {S : Nat → Prop} {w0 w : World} (h : Fr S w0 w) (hg : S g ∨ w0.heap.size ≤ g) (cs : Array Value) : Fr S w0 (w.setRow g cs) := by
  refine h.trans (T := fun k => k = g) ?_ (fun i hi => by subst hi; exact hg)
  exact ⟨rfl, rfl, rfl, by simp [World.setRow], fun k hk hn => setRow_other w g k cs hn⟩
section
variable {P : Program} {ops : Array Oper} {rest : List Oper} {o : Oper} {a : Act} {Q : Exit → Act → World → Prop} {K : Act → World → Prop} {E : Prop} {w w0 : World} {S : Nat → Prop}
theorem wpList_copyN (hgd : o.guard = none) (d s : Operand) (dT sT : TypeId)
    (ho : o.op = .call { callee := .builtin .copy, args := #[d, s], argTypes := #[dT, sT] }) (elem : TypeId) (sz : Nat) (hu : P.underlying dT = some (.slice elem)) (hsz : (P.info? elem).map (·.size) = some sz)
    (g off : Nat) (ad : Addr) (dLen dCap sLen sCap : Nat) (hd : a.eval d = .slice (some ⟨g, off, none⟩) dLen dCap) (hs : a.eval s = .slice (some ad) sLen sCap)
    (cur : List Value) (t : TypeId) (hg : w.heap[g]? = some (.cells cur.toArray t (0, 0))) (cs : List Value) (hn : cs.length = Nat.min sLen dLen * sz)
    (hsrc : ∀ j v, cs[j]? = some v → w.cell? (ad.add j) = some v) (hfit : off + cs.length ≤ cur.length) (h1 : ∀ v ∈ cs, v.oneCell' = true) (hf : Fr S w0 w) (hS : S g ∨ w0.heap.size ≤ g)
    (h : ∀ w', w'.heap[g]? = some (.cells (splice cur off cs).toArray t (0, 0)) → Fr S w0 w' → Fr (fun k => k = g) w w' → wpList P ops Q rest (a.put o.dst (goInt (Nat.min sLen dLen))) w') :
    wpList P ops Q (o :: rest) a w := by
  refine wpList_plain hgd fun K hK => ?_
  have hrun := run_copyN (P := P) w dT sT o.type elem sz g off dLen dCap ad sLen sCap cur t cs hu hsz hg hn hsrc hfit h1
  unfold Oper.wp
  simp [execOp, ho, resolve, invoke, builtin, hd, hs, hrun, Result.andThen]
  exact hK _ _ (h _ (setRow_heap w g _ _ t _ hg) (fr_setRow hf hS _) (fr_setRow (Fr.refl (fun k => k = g) w) (.inl rfl) _))
theorem step_copyN (hgd : o.guard = none) (d s : Operand) (dT sT : TypeId)
    (ho : o.op = .call { callee := .builtin .copy, args := #[d, s], argTypes := #[dT, sT] }) (elem : TypeId) (sz : Nat) (hu : P.underlying dT = some (.slice elem)) (hsz : (P.info? elem).map (·.size) = some sz)
    (g off : Nat) (ad : Addr) (dLen dCap sLen sCap : Nat) (hd : a.eval d = .slice (some ⟨g, off, none⟩) dLen dCap) (hs : a.eval s = .slice (some ad) sLen sCap)
    (cur : List Value) (t : TypeId) (hg : w.heap[g]? = some (.cells cur.toArray t (0, 0))) (cs : List Value) (hn : cs.length = Nat.min sLen dLen * sz)
    (hsrc : ∀ j v, cs[j]? = some v → w.cell? (ad.add j) = some v) (hfit : off + cs.length ≤ cur.length) (h1 : ∀ v ∈ cs, v.oneCell' = true) (hf : Fr S w0 w) (hS : S g ∨ w0.heap.size ≤ g)
    (h : ∀ w', w'.heap[g]? = some (.cells (splice cur off cs).toArray t (0, 0)) → Fr S w0 w' → Fr (fun k => k = g) w w' → K (a.put o.dst (goInt (Nat.min sLen dLen))) w') :
    if Region.wanted o (yielded ops a.tmps) = true then Oper.wp P o a w K Q else E := by
  have hw : Region.wanted o (yielded ops a.tmps) = true := by simp [Region.wanted, hgd]
  rw [if_pos hw]
  have hrun := run_copyN (P := P) w dT sT o.type elem sz g off dLen dCap ad sLen sCap cur t cs hu hsz hg hn hsrc hfit h1
  unfold Oper.wp
  simp [execOp, ho, resolve, invoke, builtin, hd, hs, hrun, Result.andThen]
  exact h _ (setRow_heap w g _ _ t _ hg) (fr_setRow hf hS _) (fr_setRow (Fr.refl (fun k => k = g) w) (.inl rfl) _)
end
/-- append(s[:0], make(S, m)...) beyond s's room: a row of its own, all zeros. -/
theorem run_zeros_new {P : Program} (w : World) (t ti ty e : TypeId) (i : TypeInfo) (z : Value) (size bytes : Nat) (ht : P.underlying t = some (.slice e)) {k : IntKind} (hti : P.underlying ti = some (.int k)) (hi : P.info? e = some i) (hz : i.zero = some z)
    (hsize : i.size = size) (hby : i.bytes = bytes) (hzs : z.cells.size = size) (hsz : 0 < size) (hb0 : 0 < bytes) (A : Option Addr) (cap : Nat) (kx : IntKind) (m : Nat) (hm : 0 < m) (hcap : cap < m) (hbytes : m * bytes ≤ 140737488355328) :
    ∃ c, m ≤ c ∧ c ≤ maxLen ∧ (Builtin.append_ #[t, ti] ty #[.slice A 0 cap, .int kx m]).run P w = .ok (.slice (some ⟨w.heap.size, 0, none⟩) m c) (w.drew.alloc (.cells (Builtin.zeroCells z.cells m ++ Builtin.zeroCells z.cells (c - m)) e)) := by
  subst hsize
  subst hby
  have hle : m ≤ 140737488355328 := Nat.le_trans (Nat.le_mul_of_pos_right _ hb0) hbytes
  have h63 : m ≤ maxLen := by simp only [maxLen]; omega
  have hw : IntKind.i64.wrap (m : Int) = m := by rw [IntKind.wrap_i64]; omega
  have hneg : ¬ ((m : Int) < 0) := by omega
  have hbig : ¬ (281474976710656 < (m : Int) * (i.bytes : Int)) := by
    rw [← Int.natCast_mul]
    omega
  have hsn : i.size ≠ 0 := by omega
  have hn : ¬ (m ≤ cap) := by omega
  have h63' : ¬ (9223372036854775807 < (m : Int)) := by omega
  have hfit := growslice_fits hcap hbytes
  have h48' : ¬ (281474976710656 < Builtin.nextslicecap m cap * i.bytes) := by omega
  have hmz : ¬ (m * i.size = 0) := Nat.mul_ne_zero (by omega) hsn
  have hfo : (Builtin.firstCells i.size 0 (.slice A 0 cap)).run P w.drew = .ok #[] w.drew := by
    cases A with
    | none => simp [Builtin.firstCells]
    | some ad => exact run_firstCells_some (P := P) w.drew i.size 0 ad 0 cap [] (by simp) (fun j u hu => by simp at hu)
  refine ⟨grownCap w m cap e, grownCap_ge w m cap e, grownCap_le_maxLen w m cap e h63, ?_⟩
  simp [Builtin.append_, run_underlying ht, run_underlying hti, sizeOf, typeInfo, zeroValue, hi, hz, asInt, asIntOf, hw, hneg, hbig, hn, h63', h48', Question.forced, hfo, newRow, grownCap, hmz]
end Go.Proofs.Ytglehilfemfiiaa.GU
end
section
namespace Go.Proofs.Ytglehilfemfiiaa.GU
open Go.RowKit Go.Proofs.YtglehilfemfiiaaW.PrintWords Go.Proofs.YtglehilfemfiiaaW.PrintLast Go.Proofs.YtglehilfemfiiaaW.PrintMore Go.Proofs.Ytglehilfemfiiaa.Q Go.Proofs.Ytglehilfemfiiaa.Hnd
set_option linter.unusedVariables false
set_option linter.unusedSimpArgs false
theorem zeroY (w : World) : (zeroValue 118).run Try.prog w = .ok (.agg #[.int .i64 0, .bool false]) w := by kernel_rfl
def zcells : Nat → List Value
  | 0 => []
  | n + 1 => .int .i64 0 :: .bool false :: zcells n
theorem zcells_len : ∀ n, (zcells n).length = n * 2
  | 0 => rfl
  | n + 1 => by simp only [zcells, List.length_cons, zcells_len n]; omega
theorem zcells_one : ∀ n, ∀ u ∈ zcells n, u.oneCell' = true
  | 0, u, h => by cases h
  | n + 1, u, h => by
    simp only [zcells, List.mem_cons] at h
    rcases h with rfl | rfl | h
    · rfl
    · rfl
    · exact zcells_one n u h
theorem zcells_get : ∀ n i, i < n * 2 → (zcells n)[i]? = some (if i % 2 = 0 then .int .i64 0 else .bool false)
  | 0, i, h => by omega
  | n + 1, 0, _ => rfl
  | n + 1, 1, _ => rfl
  | n + 1, i + 2, h => by
    have := zcells_get n i (by omega)
    simp only [zcells, List.getElem?_cons_succ, this, Nat.add_mod_right]
theorem zeroCells_eq (n : Nat) : Builtin.zeroCells (Value.agg #[.int .i64 0, .bool false]).cells n = (zcells n).toArray := by
  show Builtin.zeroCells #[.int .i64 0, .bool false] n = _
  apply Array.ext'
  apply List.ext_getElem?
  intro i
  unfold Builtin.zeroCells
  by_cases h : i < n * 2
  · rw [List.toList_toArray, zcells_get n i h]
    have h3 : i % 2 = 0 ∨ i % 2 = 1 := by omega
    rcases h3 with h3 | h3 <;> simp [h, h3]
  · rw [List.getElem?_eq_none (by simp; omega), List.getElem?_eq_none (by simp [zcells_len]; omega)]
theorem clear_runY (w : World) (ty : TypeId) (b o n c : Nat) (hn : 0 < n)
    (hc : ∀ j, j < n * 2 → (w.cell? ⟨b, o + j, none⟩).isSome = true) (hf : ∀ j, j < n * 2 → w.frozen? ⟨b, o + j, none⟩ = false) :
    (Builtin.clear_ #[116] ty #[.slice (some ⟨b, o, none⟩) n c]).run Try.prog w = .ok (.tuple #[]) (w.setCells b o (zcells n)) := by
  have hzc : (Builtin.zeroCells (Value.agg #[.int .i64 0, .bool false]).cells n).toList = zcells n := by rw [zeroCells_eq]
  have hst := run_storeCells_cells (P := Try.prog) b o (zcells n) 0 w (by simpa [zcells_len] using hc) (by simpa [zcells_len] using hf) (zcells_one n)
  simp only [Nat.add_zero] at hst
  obtain ⟨m, rfl⟩ : ∃ m, n = m + 1 := ⟨n - 1, by omega⟩
  simp [Builtin.clear_, run_underlying Try.underlying116, zeroY, hzc, hst]
theorem R_pastY {W : World} {base g n cap : Nat} {ok : Nat → Prop} {xs : List S118} (h : Kd.R k118 118 W base ok (.slice (some ⟨g, 0, none⟩) n cap) xs) (vs : List Value) (o : Nat) (ho : n * 2 ≤ o) (hl : o + vs.length ≤ cap * 2) : Kd.R k118 118 (W.setCells g o vs) base ok (.slice (some ⟨g, 0, none⟩) n cap) xs := by
  obtain ⟨hn, hb, hc, hm, hok, spare, hh, hl2⟩ := R_cells h
  obtain ⟨cur', h3, h4, h5⟩ := setCells_row vs o W _ hh (by rw [List.size_toArray, hl2]; omega)
  have hx : (cellsW xs).length = n * 2 := by rw [cellsW_len, hn]
  have e : cur'.toList = cellsW xs ++ cur'.toList.drop (n * 2) := by
    conv => lhs; rw [← List.take_append_drop (n * 2) cur'.toList]
    congr 1
    rw [h5, List.append_assoc, List.take_append_of_le_length (by rw [List.length_take, List.length_append]; omega), List.take_take, Nat.min_eq_left ho]
    rw [List.take_append_of_le_length (by omega), List.take_of_length_le (by omega)]
  refine R_of_cells hb hok (spare := cur'.toList.drop (n * 2)) ?_ ?_ hn hc hm
  · rw [← e]; exact h3
  · rw [← e, Array.length_toList, h4, List.size_toArray, hl2]
theorem fr_setCells {S : Nat → Prop} {w0 : World} {g : Nat} (hS : S g ∨ w0.heap.size ≤ g) : ∀ (vs : List Value) (o : Nat) (w : World), Fr S w0 w → Fr S w0 (w.setCells g o vs)
  | [], _, _, h => h
  | v :: vs, o, w, h => fr_setCells hS vs (o + 1) _ (h.set (p := ⟨g, o, none⟩) hS v)
section
variable {ops : Array Oper} {o : Oper} {a : Act} {Q : Exit → Act → World → Prop} {Kc : Act → World → Prop}
theorem del_step {w0 W : World} (base : Nat) (hw : Region.wanted o (yielded ops a.tmps) = true) (s x : Operand) (ho : o.op = .call { callee := .builtin .append, args := #[s, x], argTypes := #[116, 116] })
    {g c k m c2 m2 : Nat} {A : Option Addr} {xs : List S118} {ok : Nat → Prop}
    (hs : a.eval s = .slice (some ⟨g, 0, none⟩) k c) (hx : a.eval x = .slice A m2 c2) (hA : A = if c = k + 1 then some ⟨g, 0, none⟩ else some ⟨g, (k + 1) * 2, none⟩) (hm : m2 = m - k)
    (HO : Kd.R k118 118 W base ok (.slice (some ⟨g, 0, none⟩) (m + 1) c) xs) (hk : k < m + 1) (HB : Below base w0 W) (hbase : base ≤ W.heap.size)
    (h : ∀ w1, Aside0 (Kd.R k118 118 w1 base ok (.slice (some ⟨g, 0, none⟩) m c) (xs.eraseIdx k)) → Aside0 (W.grownBy w1 (some g)) → Kc (a.put o.dst (.slice (some ⟨g, 0, none⟩) m c)) w1) :
    if Region.wanted o (yielded ops a.tmps) = true then Oper.wp Try.prog o a W Kc Q else Kc (a.put o.dst undef) W :=
  Kd.R_delete_step (P := Try.prog) k118 (w0 := w0) base hw s x 116 118 ho Try.underlying116 (by kernel_rfl) (g := g) (n := m + 1) (c := c) (k := k) (xs := xs) (ok := ok) hs hx
    (by rw [hA]; show _ = if c = k + 1 then _ else some (Addr.add ⟨g, 0, none⟩ ((k + 1) * 2)); rw [Addr.add_lit, Nat.zero_add]) (by rw [hm]; omega) HO hk HB hbase (fun w1 h1 _ h3 => h w1 ⟨h1⟩ ⟨h3⟩)
end
set_option maxHeartbeats 4000000 in
set_option maxRecDepth 100000 in
theorem delY_calls (g c m i : Nat) (j : Int) (l : List S118) (W : World) (base : Nat) (ok : Nat → Prop) (hr : Kd.R k118 118 W base ok (.slice (some ⟨g, 0, none⟩) (m + 1) c) l) (hi : i < m + 1) (hj : j = (i : Int) + 1) (hb : base ≤ W.heap.size) :
    Calls Try.prog 100 #[.slice (some ⟨g, 0, none⟩) (m + 1) c, .int .i64 (i : Int), .int .i64 j] W fun e w' => e = .returned (.slice (some ⟨g, 0, none⟩) m c) ∧ Kd.R k118 118 w' base ok (.slice (some ⟨g, 0, none⟩) m c) (l.eraseIdx i) ∧ Fr (fun k => k = g) W w' := by
  obtain ⟨hml, hbg, hlc, hcm, hok, spare, hh, hl2⟩ := R_cells hr
  have hu116 := Try.underlying116
  have hcm' : c ≤ 9223372036854775807 := hcm
  have HR := Aside0.mk hr
  have hji : j = ((i + 1 : Nat) : Int) := by omega
  subst hji
  have hic : i ≤ c := by omega
  have hic1 : i + 1 ≤ c := by omega
  have hil1 : i ≤ m := by omega
  have hne : ((i : Int) == ((i + 1 : Nat) : Int)) = false := beq_eq_false_iff_ne.mpr (by omega)
  have hne1 : ((i : Int) == (i : Int) + 1) = false := beq_eq_false_iff_ne.mpr (by omega)
  have HI := Aside0.mk hi
  have HBW := Aside0.mk (below_drew1 (Below.refl base W))
  have HB0 := Aside0.mk hb
  have q1 : 0 ≤ (i : Int) + 1 := by omega
  have q2 : (i : Int) + 1 ≤ (m : Int) + 1 := by omega
  have HCM := Aside0.mk (show ¬ c = m by omega)
  clear hr hh hl2 hok hj hbg hcm hml hb hi
  go_enter Try.func100, Try.ntmps100
  go_wp2_with fail
  go_region_law (refine del_step (w0 := W) (m := m) (k := i) base rfl (.tmp 22) (.tmp 25) rfl rfl rfl rfl rfl (rq HR.out) HI.out HBW.out (by simpa using HB0.out) ?_; intro w1 HR1 HG1)
  have hcl : ∀ ty, (Builtin.clear_ #[116] ty #[.slice (some ⟨g, m * 2, none⟩) 1 (c - m)]).run Try.prog w1 = .ok (.tuple #[]) (w1.setCells g (m * 2) (zcells 1)) := by
    obtain ⟨_, _, _, _, _, sp1, hh1, hl1⟩ := R_cells HR1.out
    exact fun ty => clear_runY w1 ty g (m * 2) 1 (c - m) (by omega) (fun t ht => by rw [blk_cell hh1, List.getElem?_toArray, List.getElem?_eq_getElem (by omega)]; rfl) (fun t ht => blk_frozen hh1 _)
  have HX : Aside0 (Kd.R k118 118 (w1.setCells g (m * 2) (zcells 1)) base ok (.slice (some ⟨g, 0, none⟩) m c) (l.eraseIdx i) ∧ Fr (fun k => k = g) W (w1.setCells g (m * 2) (zcells 1))) :=
    ⟨⟨R_pastY HR1.out (zcells 1) (m * 2) (Nat.le_refl _) (by rw [zcells_len]; omega), fr_setCells (S := fun k => k = g) (.inl rfl) _ _ _ (((Fr.refl (fun k => k = g) W).drew).grown HG1.out (fun k hk => .inl (by injection hk with hk; exact hk.symm)))⟩⟩
  have hcm2 : ¬ c = m := HCM.out
  go_wp2
  all_goals (go_ret; first | exact ⟨rfl, HX.out.1, HX.out.2⟩ | (obtain rfl : c = i + 1 := (by assumption); exact ⟨rfl, HX.out.1, HX.out.2⟩))
end Go.Proofs.Ytglehilfemfiiaa.GU
end
section
namespace Go.Proofs.Ytglehilfemfiiaa.GU
open Go.RowKit Go.Proofs.YtglehilfemfiiaaW.PrintWords Go.Proofs.YtglehilfemfiiaaW.PrintLast Go.Proofs.YtglehilfemfiiaaW.PrintMore Go.Proofs.Ytglehilfemfiiaa.Q Go.Proofs.Ytglehilfemfiiaa.Hnd
set_option linter.unusedVariables false
set_option linter.unusedSimpArgs false
/-- What Insert leaves: the row with the new way ahead, in the old block or a new one. -/
def InsPost (W : World) (base : Nat) (v : Value) (x : S118) (l : List S118) (e : Ending) (w' : World) : Prop :=
  ∃ v' : Value, e = .returned v' ∧ Kd.R k118 118 w' base (fun _ => True) v' (x :: l) ∧ Fr (fun k => v.ownBlock = some k) W w' ∧ ∀ k, v'.ownBlock = some k → v.ownBlock = some k ∨ W.heap.size ≤ k
theorem k118_C1 {W : World} {gv : Nat} {x : S118} (hv : W.heap[gv]? = some (.cells #[.int .i64 x.f0, .bool x.f1] 118 (0, 0))) : Kd.C k118 W (some ⟨gv, 0, none⟩) 1 [x] :=
  (Kd.R_reads' (R_of_cells (xs := [x]) (spare := []) (c := 1) (n := 1) (base := 0) (ok := fun _ => True) (Nat.zero_le _) trivial hv rfl rfl (Nat.le_refl _) (by decide))).2.2
set_option maxHeartbeats 4000000 in
set_option maxRecDepth 100000 in
theorem ins_nil (A : Option Addr) (c gv : Nat) (x : S118) (W : World) (base : Nat) (hr : Kd.R k118 118 W base (fun _ => True) (.slice A 0 c) []) (hv : W.heap[gv]? = some (.cells #[.int .i64 x.f0, .bool x.f1] 118 (0, 0))) (hb : base ≤ W.heap.size) :
    Calls Try.prog 99 #[.slice A 0 c, .int .i64 0, .slice (some ⟨gv, 0, none⟩) 1 1] W (InsPost W base (.slice A 0 c) x []) := by
  have hu116 := Try.underlying116
  have HR := Aside0.mk hr
  have HV := Aside0.mk (k118_C1 hv)
  have HB0 := Aside0.mk hb
  clear hr hv hb
  go_enter Try.func99, Try.ntmps99
  go_wp2_with ((with_reducible refine gate_builtin (b := .append) (xs := #[.tmp 23, .tmp 24]) rfl ?_); at_builtin; refine Kd.R_append_rows k118 (w0 := W) base rfl (.tmp 23) (.tmp 24) 116 118 (.agg #[.int .i64 0, .bool false]) 16 rfl Try.underlying116 info118 rfl (by decide) (by omega) (.slice A 0 c) [] [x] _ _ _ (fun _ => True) (fun _ => False) rfl rfl ?aO ?aR (fun _ _ h => h) (fun _ h => h.elim) ?aF ?aB ?aS ?aL ?_; (case aR => exact HV.out); (case aB => exact Below.refl _ _); (case aF => exact (fun _ _ => trivial)); (case aO => exact HR.out); (case aS => exact HB0.out); (case aL => decide); intro v1 w1 ho hbel hg hat; have HO := Aside0.mk ho; have HG := Aside0.mk hg; have HAT := Aside0.mk hat; clear ho hbel hg hat)
  go_ret
  exact ⟨v1, rfl, HO.out, (Fr.refl _ W).grown HG.out (fun k hk => .inl hk), fun k hk => by
    rcases HAT.out with e | ⟨b, e, hle⟩
    · exact .inl (e ▸ hk)
    · rw [e] at hk
      injection hk with hk
      exact .inr (hk ▸ hle)⟩
theorem splice_a (Z : List Value) (a b : Value) (C : List Value) (h : 2 + C.length ≤ Z.length) : splice (splice Z 0 [a, b]) 2 C = (a :: b :: C) ++ Z.drop (2 + C.length) := by
  unfold splice
  match Z, h with
  | [], h => simp at h <;> omega
  | [_], h => simp at h <;> omega
  | z1 :: z2 :: Z, h =>
    simp [Nat.add_comm 2]
theorem splice_b (Z : List Value) (a b : Value) (C : List Value) (h : 2 + C.length ≤ Z.length) : splice (splice Z 2 C) 0 [a, b] = (a :: b :: C) ++ Z.drop (2 + C.length) := by
  unfold splice
  match Z, h with
  | [], h => simp at h <;> omega
  | [_], h => simp at h <;> omega
  | z1 :: z2 :: Z, h =>
    simp [Nat.add_comm 2]
section
variable {ops : Array Oper} {rest : List Oper} {o : Oper} {a : Act} {Q : Exit → Act → World → Prop}
theorem wpList_zeros {W : World} (hgd : o.guard = none) (s x : Operand) (ho : o.op = .call { callee := .builtin .append, args := #[s, x], argTypes := #[116, 3] })
    (A : Option Addr) (cap m : Nat) (z : Int) (hs : a.eval s = .slice A 0 cap) (hx : a.eval x = .int .i64 z) (hz : z = (m : Int)) (hm : 0 < m) (hcap : cap < m) (hbytes : m * 16 ≤ 140737488355328)
    (h : ∀ c, m ≤ c → c ≤ maxLen → wpList Try.prog ops Q rest (a.put o.dst (.slice (some ⟨W.heap.size, 0, none⟩) m c)) (W.drew.alloc (.cells (zcells m ++ zcells (c - m)).toArray 118))) :
    wpList Try.prog ops Q (o :: rest) a W := by
  subst hz
  obtain ⟨i0, hi, hz0, hz1, hz2⟩ := info_parts info118
  obtain ⟨c, h1, h2, hr⟩ := run_zeros_new (P := Try.prog) W 116 3 o.type 118 i0 (.agg #[.int .i64 0, .bool false]) 2 16 Try.underlying116 Try.underlying3 hi hz0 hz1 hz2 rfl (by omega) (by omega) A cap .i64 m hm hcap hbytes
  refine wpList_plain hgd fun K hK => ?_
  have hh := h c h1 h2
  rw [zeroCells_eq, zeroCells_eq] at hr
  rw [List.append_toArray] at hr
  unfold Oper.wp execOp
  simp only [ho, resolve, invoke, builtin, Sem.run_bind, Sem.run_pure, Result.andThen_ok, List.map_toArray, List.map_cons, List.map_nil, hs, hx, hr]
  exact hK _ _ hh
end
set_option maxHeartbeats 4000000 in
set_option maxRecDepth 100000 in
theorem ins_new (g m gv : Nat) (x : S118) (l : List S118) (W : World) (base : Nat) (hr : Kd.R k118 118 W base (fun _ => True) (.slice (some ⟨g, 0, none⟩) (m + 1) (m + 1)) l) (hv : W.heap[gv]? = some (.cells #[.int .i64 x.f0, .bool x.f1] 118 (0, 0))) (hb : base ≤ W.heap.size) (hm : m < 1000) :
    Calls Try.prog 99 #[.slice (some ⟨g, 0, none⟩) (m + 1) (m + 1), .int .i64 0, .slice (some ⟨gv, 0, none⟩) 1 1] W (InsPost W base (.slice (some ⟨g, 0, none⟩) (m + 1) (m + 1)) x l) := by
  have hu116 := Try.underlying116
  obtain ⟨hml, hbg, hlc, hcm, hok, spare, hh, hl2⟩ := R_cells hr
  have HH := Aside0.mk hh
  have HV := Aside0.mk hv
  have HB0 := Aside0.mk hb
  have HML := Aside0.mk hml
  have hne1 : ((0 : Int) == (m : Int) + 1) = false := beq_eq_false_iff_ne.mpr (by omega)
  have hgt : (m : Int) + 1 + 1 > (m : Int) + 1 := by omega
  have HG := Aside0.mk (blk_lt hh)
  have HGV := Aside0.mk (blk_lt hv)
  clear hr hh hv hb hlc hcm hok hl2 hml
  go_enter Try.func99, Try.ntmps99
  obtain ⟨C2, hC2⟩ : ∃ C : List Value, C = [.int .i64 x.f0, .bool x.f1] := ⟨_, rfl⟩
  have HC2 := Aside0.mk hC2
  clear hC2
  go_wp2_with (first | ((with_reducible refine gate_builtin (b := .append) (xs := #[.tmp 34, .tmp 39]) rfl ?_); at_builtin; refine wpList_zeros (W := W) rfl (.tmp 34) (.tmp 39) rfl _ _ (m + 2) _ rfl rfl (by omega) (by omega) (by omega) (by omega) ?_; intro c2 hc2 hc3) | ((with_reducible refine gate_builtin (b := .copy) (xs := #[.tmp 43, .tmp 44]) rfl ?_); refine wpList_copyN (S := fun _ => False) (w0 := W) rfl (.tmp 43) (.tmp 44) 116 116 rfl 118 2 Try.underlying116 (by kernel_rfl) W.heap.size 0 ⟨gv, 0, none⟩ (m + 2) c2 1 1 (by rfl) (by rfl) (zcells (m + 2) ++ zcells (c2 - (m + 2))) 118 (new_at (by simp)) C2 ?cn ?cs ?cf ?c1 (((Fr.refl _ W).drew).alloc _) (.inr (Nat.le_refl _)) ?_; (case cn => rw [HC2.out]; simp); (case cs => rw [HC2.out]; intro j v hj; rw [Addr.add_lit, Nat.zero_add]; exact (blk_cell (bq HV.out) j).trans (by simpa using hj)); (case cf => rw [HC2.out]; simp [zcells_len]; omega); (case c1 => rw [HC2.out]; intro v hv; simp at hv; rcases hv with rfl | rfl <;> rfl); intro w2 hb2 hf2 hf3; have HB2 := Aside0.mk hb2; have HF2 := Aside0.mk hf2; clear hb2 hf2 hf3))
  have HK := Aside0.mk (HF2.out.blk HH.out (fun h => h))
  obtain ⟨C, hC⟩ : ∃ C : List Value, C = cellsW l := ⟨_, rfl⟩
  have HC := Aside0.mk hC
  have HCL := Aside0.mk (show C.length = (m + 1) * 2 by rw [hC, cellsW_len, ← HML.out])
  clear hC
  have q1 : ¬ c2 = 1 := by omega
  have q2 : (1 : Int) ≤ (m : Int) + 2 := by omega
  have q3 : (1 : Int) ≤ (m : Int) + 1 + 1 := by omega
  have q4 : (0 : Int) ≤ (m : Int) + 1 := by omega
  have CF := Aside0.mk (show 2 + C.length ≤ (splice (zcells (m + 2) ++ zcells (c2 - (m + 2))) 0 C2).length by
    rw [HCL.out, length_splice _ _ _ (by rw [HC2.out]; simp [zcells_len]; omega), List.length_append, zcells_len, zcells_len]; omega)
  have CN := Aside0.mk (show C.length = Nat.min (m + 1) (m + 1) * 2 by rw [HCL.out]; simp)
  have HX : Aside0 (∀ w3 : World, w3.heap[W.heap.size]? = some (.cells (splice (splice (zcells (m + 2) ++ zcells (c2 - (m + 2))) 0 C2) 2 C).toArray 118 (0, 0)) → Kd.R k118 118 w3 base (fun _ => True) (.slice (some ⟨W.heap.size, 0, none⟩) (m + 2) c2) (x :: l)) := ⟨fun w3 h1 => by
    have hl : 2 + C.length ≤ (zcells (m + 2) ++ zcells (c2 - (m + 2))).length := by rw [HCL.out, List.length_append, zcells_len, zcells_len]; omega
    have h3 := HCL.out
    rw [HC2.out, splice_a _ _ _ _ hl, HC.out] at h1
    rw [HC.out] at h3 hl
    refine R_of_cells HB0.out trivial (xs := x :: l) h1 ?_ (by rw [List.length_cons, ← HML.out]) hc2 hc3
    rw [List.length_append, List.length_drop, List.length_append, zcells_len, zcells_len]
    simp only [cellsW, List.length_cons, h3]
    omega⟩
  have HQ := Aside0.mk hc2
  have HQ3 := Aside0.mk hc3
  clear hc2 hc3
  have hw1 : IntKind.i64.wrap 1 = 1 := by rw [IntKind.wrap_i64]; rfl
  go_region_law ((refine step_copyN (S := fun _ => False) (w0 := W) rfl (.tmp 50) (.tmp 53) 116 116 rfl 118 2 Try.underlying116 (by kernel_rfl) W.heap.size 2 ⟨g, 0, none⟩ (m + 1) (c2 - 1) (m + 1) (m + 1) (by simp [Act.eval, Act.put, q1]) (by simp [Act.eval, Act.put]) (splice (zcells (m + 2) ++ zcells (c2 - (m + 2))) 0 C2) 118 (blk_drew HB2.out) C CN.out ?cs CF.out ?c1 (HF2.out.drew) (.inr (Nat.le_refl _)) ?_; (case cs => rw [HC.out]; intro j v hj; rw [Addr.add_lit, Nat.zero_add]; exact (blk_cell (blk_drew HK.out) j).trans (by rw [List.getElem?_toArray, List.getElem?_append_left (List.getElem?_eq_some_iff.1 hj).1]; exact hj)); (case c1 => rw [HC.out]; exact cellsW_one _); intro w3 hb3 hf3 hf4; have HB3 := Aside0.mk hb3; have HF3 := Aside0.mk hf3; clear hb3 hf3 hf4))
  clear hw1
  go_wp2
  go_ret
  exact ⟨_, rfl, HX.out _ HB3.out, HF3.out.mono (fun _ h => h.elim), fun k hk => .inr (by have : W.heap.size = k := by simpa [Value.ownBlock] using hk
                                                                                          omega)⟩
set_option maxHeartbeats 1000000 in
set_option maxRecDepth 100000 in
theorem ins_room (g m c gv : Nat) (x : S118) (l : List S118) (W : World) (base : Nat) (hr : Kd.R k118 118 W base (fun _ => True) (.slice (some ⟨g, 0, none⟩) (m + 1) c) l) (hv : W.heap[gv]? = some (.cells #[.int .i64 x.f0, .bool x.f1] 118 (0, 0))) (hgv : gv ≠ g) (hb : base ≤ W.heap.size) (hc : m + 2 ≤ c) :
    Calls Try.prog 99 #[.slice (some ⟨g, 0, none⟩) (m + 1) c, .int .i64 0, .slice (some ⟨gv, 0, none⟩) 1 1] W (InsPost W base (.slice (some ⟨g, 0, none⟩) (m + 1) c) x l) := by
  have hu116 := Try.underlying116
  obtain ⟨hml, hbg, hlc, hcm, hok, spare, hh, hl2⟩ := R_cells hr
  have hcm' : c ≤ 9223372036854775807 := hcm
  have hov : ∀ lb cb, (callFunc 113 #[.slice (some ⟨gv, 0, none⟩) 1 1, .slice (some ⟨g, 2, none⟩) lb cb]).run Try.prog W = .ok (.value (.bool false)) W := fun lb cb => by
    rw [run_callFunc_extern Try.func113 (by kernel_rfl) (by kernel_rfl) (by kernel_rfl) (e := Extern.SlicesOverlaps.overlaps #[116, 116] #[4]) (by kernel_rfl),
      Lib.run_overlaps_apart W 116 4 118 Try.underlying116 2 (fun w => by kernel_rfl) ⟨gv, 0, none⟩ ⟨g, 2, none⟩ 1 1 lb cb hgv 118 118 2 (c * 2)
        (by simp [World.shape?, hv]) (by simp only [World.shape?, hh, List.size_toArray, hl2]) (by omega) (blk_frozen hv 0) (blk_frozen hv 2)]
    rfl
  have HH := Aside0.mk hh
  have HV := Aside0.mk hv
  have HB0 := Aside0.mk hb
  have HML := Aside0.mk hml
  have hne1 : ((0 : Int) == (m : Int) + 1) = false := beq_eq_false_iff_ne.mpr (by omega)
  have hgt : ¬ (m : Int) + 1 + 1 > (c : Int) := by omega
  have HCM := Aside0.mk hcm
  have HGV := Aside0.mk hgv
  obtain ⟨L, hL⟩ : ∃ L, L = cellsW l ++ spare := ⟨_, rfl⟩
  rw [← hL] at hl2
  have HH := Aside0.mk (show W.heap[g]? = some (.cells L.toArray 118 (0, 0)) by rw [hL]; exact hh)
  obtain ⟨C2, hC2⟩ : ∃ C : List Value, C = [.int .i64 x.f0, .bool x.f1] := ⟨_, rfl⟩
  have HC2 := Aside0.mk hC2
  obtain ⟨C, hC⟩ : ∃ C : List Value, C = cellsW l := ⟨_, rfl⟩
  have HC := Aside0.mk hC
  have HCL := Aside0.mk (show C.length = (m + 1) * 2 by rw [hC, cellsW_len, ← hml])
  have q1 : ¬ c = 1 := by omega
  have q0 : ¬ c = 0 := by omega
  have q2 : (1 : Int) ≤ (m : Int) + 2 := by omega
  have q3 : (m : Int) + 1 + 1 ≤ (c : Int) := by omega
  have q4 : (0 : Int) ≤ (m : Int) + 2 := by omega
  have q5 : m + 2 ≤ c := hc
  have HCJ := Aside0.mk (show ∀ (j : Nat) (v : Value), C[j]? = some v → L.toArray[j]? = some v by intro j v hj; rw [List.getElem?_toArray, hL, ← hC, List.getElem?_append_left (List.getElem?_eq_some_iff.1 hj).1]; exact hj)
  have CF := Aside0.mk (show 2 + C.length ≤ L.length by rw [HCL.out, hl2]; omega)
  have CG := Aside0.mk (show 0 + C2.length ≤ (splice L 2 C).length by rw [length_splice _ _ _ CF.out, HC2.out, hl2]; simp; omega)
  have CN := Aside0.mk (show C.length = Nat.min (m + 2) (m + 1) * 2 by rw [HCL.out]; simp [Nat.min_def])
  have HX : Aside0 (∀ w3 : World, w3.heap[g]? = some (.cells (splice (splice L 2 C) 0 C2).toArray 118 (0, 0)) → Kd.R k118 118 w3 base (fun _ => True) (.slice (some ⟨g, 0, none⟩) (m + 2) c) (x :: l)) := ⟨fun w3 h1 => by
    have hl := CF.out
    have h3 := HCL.out
    rw [HC2.out, splice_b _ _ _ _ hl, HC.out] at h1
    rw [HC.out] at h3 hl
    refine R_of_cells hbg trivial (xs := x :: l) h1 ?_ (by rw [List.length_cons, ← HML.out]) hc hcm
    rw [List.length_append, List.length_drop, hl2]
    simp only [cellsW, List.length_cons, h3]
    omega⟩
  clear hr hh hv hb hlc hcm hok hl2 hml hL hC2 hC hgv hc hbg
  go_enter Try.func99, Try.ntmps99
  go_wp2_with (simp only [hov])
  have q6 : (0 : Int) ≤ (m : Int) + 1 + 1 := by omega
  have q7 : (1 : Int) ≤ (m : Int) + 1 + 1 := by omega
  have hw1 : IntKind.i64.wrap 1 = 1 := by rw [IntKind.wrap_i64]; rfl
  go_region_law ((refine step_copyN (S := fun k => k = g) (w0 := W) rfl (.tmp 73) (.tmp 76) 116 116 rfl 118 2 Try.underlying116 (by kernel_rfl) g 2 ⟨g, 0, none⟩ (m + 1) (c - 1) (m + 1 + 1) c (by simp [Act.eval, Act.put, q1]) (by simp [Act.eval, Act.put]) L 118 (blk_drew HH.out) C CN.out ?cs CF.out ?c1 ((Fr.refl (fun k => k = g) W).drew) (.inl rfl) ?_; (case cs => intro j v hj; rw [Addr.add_lit, Nat.zero_add]; exact (blk_cell (blk_drew HH.out) j).trans (HCJ.out j v hj)); (case c1 => rw [HC.out]; exact cellsW_one _); intro w2 hb2 hf2 hf3; have HB2 := Aside0.mk hb2; have HF2 := Aside0.mk hf2; clear hb2 hf2 hf3))
  clear hw1
  have HV2 := Aside0.mk (HF2.out.blk HV.out HGV.out)
  go_wp2_with ((with_reducible refine gate_builtin (b := .copy) (xs := #[.tmp 80, .tmp 81]) rfl ?_); refine wpList_copyN (S := fun k => k = g) (w0 := W) rfl (.tmp 80) (.tmp 81) 116 116 rfl 118 2 Try.underlying116 (by kernel_rfl) g 0 ⟨gv, 0, none⟩ (m + 1 + 1) c 1 1 (by simp [Act.eval, Act.put]) (by simp [Act.eval, Act.put]) (splice L 2 C) 118 HB2.out C2 ?cn ?cs CG.out ?c1 HF2.out (.inl rfl) ?_; (case cn => rw [HC2.out]; simp); (case cs => rw [HC2.out]; intro j v hj; rw [Addr.add_lit, Nat.zero_add]; exact (blk_cell HV2.out j).trans (by simpa using hj)); (case c1 => rw [HC2.out]; intro v hv; simp at hv; rcases hv with rfl | rfl <;> rfl); intro w3 hb3 hf3 hf4; have HB3 := Aside0.mk hb3; have HF3 := Aside0.mk hf3; clear hb3 hf3 hf4)
  go_ret
  exact ⟨_, rfl, HX.out _ HB3.out, HF3.out.mono (fun k hk => by subst hk; rfl), fun k hk => .inl hk⟩
end Go.Proofs.Ytglehilfemfiiaa.GU
end
section
namespace Go.Proofs.Ytglehilfemfiiaa.GU
open Go.RowKit Go.Proofs.YtglehilfemfiiaaW.PrintWords Go.Proofs.YtglehilfemfiiaaW.PrintLast Go.Proofs.YtglehilfemfiiaaW.PrintMore Go.Proofs.Ytglehilfemfiiaa.Q Go.Proofs.Ytglehilfemfiiaa.Hnd
set_option linter.unusedVariables false
set_option linter.unusedSimpArgs false
theorem ins_calls (A : Option Addr) (n c gv : Nat) (x : S118) (l : List S118) (W : World) (base : Nat) (hr : Kd.R k118 118 W base (fun _ => True) (.slice A n c) l) (hv : W.heap[gv]? = some (.cells #[.int .i64 x.f0, .bool x.f1] 118 (0, 0))) (hgv : (Value.slice A n c).ownBlock ≠ some gv) (hb : base ≤ W.heap.size) (hl : l.length < 1000) :
    Calls Try.prog 99 #[.slice A n c, .int .i64 0, .slice (some ⟨gv, 0, none⟩) 1 1] W (InsPost W base (.slice A n c) x l) := by
  have hn := (Kd.R_reads' hr).1
  cases l with
  | nil =>
    obtain rfl : n = 0 := hn
    exact ins_nil A c gv x W base hr hv hb
  | cons y ys =>
    obtain ⟨g, cap, e, _, _, _⟩ := Kd.R_form hr (by simp)
    injection e with e1 e2 e3
    subst e1; subst e3
    obtain ⟨m, rfl⟩ : ∃ m, n = m + 1 := ⟨ys.length, hn⟩
    have hc := (R_cells hr).2.2.1
    have hne : gv ≠ g := fun e => hgv (by rw [e]; rfl)
    by_cases h : m + 2 ≤ c
    · exact ins_room g m c gv x (y :: ys) W base hr hv hne hb h
    · obtain rfl : c = m + 1 := by omega
      exact ins_new g m gv x (y :: ys) W base hr hv hb (by simp at hn hl; omega)

end Go.Proofs.Ytglehilfemfiiaa.GU
end
section
namespace Go.Proofs.Ytglehilfemfiiaa.GU
open Go.RowKit Go.Proofs.YtglehilfemfiiaaW.PrintWords Go.Proofs.YtglehilfemfiiaaW.PrintLast Go.Proofs.YtglehilfemfiiaaW.PrintMore Go.Proofs.Ytglehilfemfiiaa.Q Go.Proofs.Ytglehilfemfiiaa.Hnd
set_option linter.unusedVariables false
set_option linter.unusedSimpArgs false
/-- A cache as its blocks: the box, the table of rows, the rows, all apart. -/
structure CS (cp : Nat) (sp : List Value) (B : Nat) (W : World) (gc gr : Nat) (s0 s1 s2 : Int) (vs : List Value) (rows : List (List S118)) : Prop where
  box : W.heap[gc]? = some (.cells #[.int .i64 s0, .int .i64 s1, .int .i64 s2, .slice (some ⟨gr, 0, none⟩) vs.length cp] 70 (0, 0))
  tab : W.heap[gr]? = some (.cells (vs ++ sp).toArray 116 (0, 0))
  len : rows.length = vs.length
  row : ∀ (i : Nat) (v : Value) (xs : List S118), vs[i]? = some v → rows[i]? = some xs → Kd.R k118 118 W B (fun _ => True) v xs
  apart : ∀ (i j : Nat) (v v' : Value) (k : Nat), i ≠ j → vs[i]? = some v → vs[j]? = some v' → v.ownBlock = some k → v'.ownBlock ≠ some k
  hgc : B ≤ gc
  hgr : B ≤ gr
  hB : B ≤ W.heap.size
section
variable {cp : Nat} {sp : List Value} {B gc gr : Nat} {W W' : World} {s0 s1 s2 : Int} {vs : List Value} {rows : List (List S118)}
theorem CS.step (h : CS cp sp B W gc gr s0 s1 s2 vs rows) (hb : Below W.heap.size W W') : CS cp sp B W' gc gr s0 s1 s2 vs rows :=
  ⟨blk_below h.box hb, blk_below h.tab hb, h.len, fun i v xs h1 h2 => Kd.R_below (h.row i v xs h1 h2) hb, h.apart, h.hgc, h.hgr, Nat.le_trans h.hB hb.size⟩
theorem CS.typed (h : CS cp sp B W gc gr s0 s1 s2 vs rows) {i k : Nat} {v : Value} (hv : vs[i]? = some v) (hk : v.ownBlock = some k) : ∃ cells, W.heap[k]? = some (.cells cells 118 (0, 0)) := by
  have hi := (List.getElem?_eq_some_iff.1 hv).1
  rw [← h.len] at hi
  exact Kd.R_typed (h.row i v _ hv (List.getElem?_eq_getElem hi)) k hk
theorem CS.base (h : CS cp sp B W gc gr s0 s1 s2 vs rows) {i k : Nat} {v : Value} (hv : vs[i]? = some v) (hk : v.ownBlock = some k) : B ≤ k := by
  have hi := (List.getElem?_eq_some_iff.1 hv).1
  rw [← h.len] at hi
  exact Kd.R_base (h.row i v _ hv (List.getElem?_eq_getElem hi)) k hk
theorem CS.ne_box (h : CS cp sp B W gc gr s0 s1 s2 vs rows) {i k : Nat} {v : Value} (hv : vs[i]? = some v) (hk : v.ownBlock = some k) : gc ≠ k := fun e => by
  subst e
  obtain ⟨cells, hc⟩ := h.typed hv hk
  have := h.box.symm.trans hc
  simp at this
theorem CS.ne_tab (h : CS cp sp B W gc gr s0 s1 s2 vs rows) {i k : Nat} {v : Value} (hv : vs[i]? = some v) (hk : v.ownBlock = some k) : gr ≠ k := fun e => by
  subst e
  obtain ⟨cells, hc⟩ := h.typed hv hk
  have := h.tab.symm.trans hc
  simp at this
theorem CS.box_tab (h : CS cp sp B W gc gr s0 s1 s2 vs rows) : gc ≠ gr := fun e => by
  subst e
  have := h.box.symm.trans h.tab
  simp at this
theorem CS.C (h : CS cp sp B W gc gr s0 s1 s2 vs rows) (hm : vs.length ≤ 1000) : Kd.C (Kd.slice 118 k118) W (some ⟨gr, 0, none⟩) rows.length rows := by
  refine ⟨rfl, by rw [h.len]; omega, fun _ => ⟨_, rfl, fun j p hj => ?_⟩⟩
  have hjl := (List.getElem?_eq_some_iff.1 hj).1
  obtain ⟨x, hv⟩ : ∃ x, vs[j]? = some x := ⟨_, List.getElem?_eq_getElem (by rw [← h.len]; exact hjl)⟩
  have hr := h.row j _ p hv hj
  obtain ⟨A, c, e, hlc, hC⟩ := Kd.R_reads hr
  refine ⟨[x], rfl, ⟨A, c, by rw [e], hlc, hC⟩, fun i u hu => ?_⟩
  cases i with
  | succ i => simp at hu
  | zero =>
    rw [Addr.add_lit]
    have : x = u := by simpa using hu
    subst this
    refine (blk_cell h.tab _).trans ?_
    rw [List.getElem?_toArray]
    show (vs ++ sp)[0 + (j * 1 + 0)]? = some x
    rw [show 0 + (j * 1 + 0) = j by omega, List.getElem?_append_left (List.getElem?_eq_some_iff.1 hv).1]
    exact hv
/-- Row r was written (in place or anew); its value goes into the table. -/
theorem CS.put (h : CS cp sp B W gc gr s0 s1 s2 vs rows) {r : Nat} {v v' : Value} {row' : List S118} (hv : vs[r]? = some v) (hf : Fr (fun k => v.ownBlock = some k) W W') (hr : Kd.R k118 118 W' B (fun _ => True) v' row') (ho : ∀ k, v'.ownBlock = some k → v.ownBlock = some k ∨ W.heap.size ≤ k) :
    CS cp sp B (W'.setCell ⟨gr, r, none⟩ v') gc gr s0 s1 s2 (vs.set r v') (rows.set r row') := by
  have hrl := (List.getElem?_eq_some_iff.1 hv).1
  have hbox := hf.blk h.box (fun hk => h.ne_box hv hk rfl)
  have htab := hf.blk h.tab (fun hk => h.ne_tab hv hk rfl)
  have hne : ∀ k, v'.ownBlock = some k → k ≠ gr := fun k hk e => by
    subst e
    obtain ⟨cells, hc⟩ := Kd.R_typed hr k hk
    have := htab.symm.trans hc
    simp at this
  have hfar : ∀ k, k ≠ gr → (W'.setCell ⟨gr, r, none⟩ v').heap[k]? = W'.heap[k]? := fun k hk => Below.heap_setCell W' ⟨gr, r, none⟩ v' k hk
  refine ⟨by rw [List.length_set, hfar gc h.box_tab]; exact hbox, ?_, by rw [List.length_set, List.length_set]; exact h.len, fun i u xs h1 h2 => ?_, fun i j u u' k hij h1 h2 hk hk' => ?_, h.hgc, h.hgr, by rw [show (W'.setCell ⟨gr, r, none⟩ v').heap.size = W'.heap.size by simp [World.setCell]]; exact Nat.le_trans h.hB hf.size⟩
  · have := blk_put htab r v' rfl
    rw [this]
    simp [List.set_append_left _ _ hrl]
  · by_cases e : i = r
    · subst e
      rw [List.getElem?_set_self hrl] at h1
      rw [List.getElem?_set_self (by rw [h.len]; exact hrl)] at h2
      injection h1 with h1
      injection h2 with h2
      subst h1; subst h2
      have hr' := Kd.R_reok rfl hr (ok := fun k => k ≠ gr) hne
      exact Kd.R_mono (Kd.R_far (p := ⟨gr, _, none⟩) hr' (fun k hk => hk) v') (fun _ _ => trivial)
    · rw [List.getElem?_set_ne (Ne.symm e)] at h1 h2
      have hR := h.row i u xs h1 h2
      have h3 : Kd.R k118 118 W B (fun k => k ≠ gr ∧ ¬ v.ownBlock = some k) u xs := Kd.R_reok rfl hR (fun k hk => ⟨fun e2 => h.ne_tab h1 hk e2.symm, fun e2 => h.apart i r u v k e h1 hv hk e2⟩)
      exact Kd.R_mono (Kd.R_far (p := ⟨gr, r, none⟩) (hf.R h3 (fun k hk => hk.2)) (fun k hk => hk.1) v') (fun _ _ => trivial)
  · have key : ∀ (a : Nat) (x : Value), a ≠ r → vs[a]? = some x → x.ownBlock = some k → v'.ownBlock = some k → False := fun a x ha hx hxk hvk => by
      rcases ho k hvk with h5 | h5
      · exact h.apart a r x v k ha hx hv hxk h5
      · obtain ⟨cells, hc⟩ := h.typed hx hxk
        have := blk_lt hc
        omega
    by_cases e : i = r
    · subst e
      rw [List.getElem?_set_self hrl] at h1
      injection h1 with h1
      subst h1
      rw [List.getElem?_set_ne hij] at h2
      exact key j u' (Ne.symm hij) h2 hk' hk
    · rw [List.getElem?_set_ne (Ne.symm e)] at h1
      by_cases e2 : j = r
      · subst e2
        rw [List.getElem?_set_self hrl] at h2
        injection h2 with h2
        subst h2
        exact key i u e h1 hk hk'
      · rw [List.getElem?_set_ne (Ne.symm e2)] at h2
        exact h.apart i j u u' k hij h1 h2 hk hk'
end
theorem tab_cell {W : World} {gr r : Nat} {sp vs : List Value} {v : Value} (h : W.heap[gr]? = some (.cells (vs ++ sp).toArray 116 (0, 0))) (hv : vs[r]? = some v) : W.cell? ⟨gr, r, none⟩ = some v :=
  (blk_cell h r).trans (by rw [List.getElem?_toArray, List.getElem?_append_left (List.getElem?_eq_some_iff.1 hv).1]; exact hv)
/-- What an access makes of a row of ways: whether the line was there, whether a dirty one had to go, the row behind it. -/
def useRow (s1 : Int) (l : List S118) (t : Int) (wr : Bool) : Bool × Bool × List S118 :=
  match l.findIdx? (tagB t) with
  | some i => (true, false, ⟨(rd_T118 l i).f0, (rd_T118 l i).f1 || wr⟩ :: l.eraseIdx i)
  | none => if (l.length : Int) = s1 then (false, (rd_T118 (⟨t, wr⟩ :: l) l.length).f1, (⟨t, wr⟩ :: l).take l.length) else (false, false, ⟨t, wr⟩ :: l)
def UsePost (cp : Nat) (sp : List Value) (B : Nat) (W : World) (gc gr : Nat) (s0 s1 s2 : Int) (vs : List Value) (rows : List (List S118)) (r : Nat) (u : Bool × Bool × List S118) (e : Ending) (w' : World) : Prop :=
  e = .returned (.tuple #[.bool u.1, .bool u.2.1]) ∧ ∃ vs', vs'.length = vs.length ∧ CS cp sp B w' gc gr s0 s1 s2 vs' (rows.set r u.2.2) ∧ Fr (fun k => k = gr ∨ (B ≤ k ∧ ∃ cs, W.heap[k]? = some (.cells cs 118 (0, 0)))) W w'
theorem tdiv_pos {a b : Int} (ha : 0 ≤ a) (h65 : a ≤ 65535) (hb : 1 ≤ b) : wrap64 (Int.tdiv a b) = a / b ∧ 0 ≤ a / b ∧ a / b ≤ 65535 := by
  have h1 : Int.tdiv a b = a / b := Int.tdiv_eq_ediv_of_nonneg ha
  have h2 : 0 ≤ a / b := Int.ediv_nonneg ha (by omega)
  have h3 : a / b ≤ a := Int.ediv_le_self b ha
  rw [h1]
  refine ⟨?_, h2, by omega⟩
  unfold wrap64
  omega
theorem usepost_of {cp : Nat} {sp : List Value} {B gc gr r : Nat} {W W1 W' : World} {s0 s1 s2 : Int} {vs : List Value} {rows : List (List S118)} {u : Bool × Bool × List S118} {v v' : Value} {e : Ending} (h : CS cp sp B W gc gr s0 s1 s2 vs rows) (hb : Below W.heap.size W W1) (hv : vs[r]? = some v) (hf : Fr (fun k => v.ownBlock = some k) W1 W') (hr : Kd.R k118 118 W' B (fun _ => True) v' u.2.2) (ho : ∀ k, v'.ownBlock = some k → v.ownBlock = some k ∨ W1.heap.size ≤ k) (he : e = .returned (.tuple #[.bool u.1, .bool u.2.1])) :
    UsePost cp sp B W gc gr s0 s1 s2 vs rows r u e (W'.setCell ⟨gr, r, none⟩ v') := by
  refine ⟨he, vs.set r v', by rw [List.length_set], (h.step hb).put hv hf hr ho, ?_⟩
  refine Fr.set (p := ⟨gr, r, none⟩) ?_ (.inl (.inl rfl)) v'
  exact (Fr.of_below _ hb).trans hf (fun i hi => .inl (.inr ⟨h.base hv hi, h.typed hv hi⟩))
end Go.Proofs.Ytglehilfemfiiaa.GU
end
section
namespace Go.Proofs.Ytglehilfemfiiaa.GU
open Go.RowKit Go.Proofs.YtglehilfemfiiaaW.PrintWords Go.Proofs.YtglehilfemfiiaaW.PrintLast Go.Proofs.YtglehilfemfiiaaW.PrintMore Go.Proofs.Ytglehilfemfiiaa.Q Go.Proofs.Ytglehilfemfiiaa.Hnd
set_option linter.unusedVariables false
set_option linter.unusedSimpArgs false
theorem gen_world {P : World → Prop} {W : World} (S : World → Prop) (hS : S W) (h : ∀ W', S W' → P W') : P W := h W hS
/-- Between: the cache, the row, the way that is moved, in block gw. -/
structure MID (cp : Nat) (sp : List Value) (B : Nat) (W X : World) (gc gr g gw : Nat) (s0 s1 s2 : Int) (vs : List Value) (rows : List (List S118)) (n c : Nat) (l : List S118) (y0 : Int) (d : Bool) : Prop where
  be : Below W.heap.size W X
  cs : CS cp sp B X gc gr s0 s1 s2 vs rows
  row : Kd.R k118 118 X B (fun _ => True) (.slice (some ⟨g, 0, none⟩) n c) l
  kw : X.heap[gw]? = some (.cells #[.int .i64 y0, .bool d] 118 (0, 0))
  n1 : gw ≠ g
  n2 : gw ≠ gr
  n3 : gw ≠ gc
theorem mid_of {cp : Nat} {sp : List Value} {B gc gr g : Nat} {W w1 : World} {s0 s1 s2 : Int} {vs : List Value} {rows : List (List S118)} {n c : Nat} {l : List S118} {y0 : Int} {d : Bool} (hb : Below W.heap.size W w1) (h : CS cp sp B w1 gc gr s0 s1 s2 vs rows) (hr : Kd.R k118 118 w1 B (fun _ => True) (.slice (some ⟨g, 0, none⟩) n c) l) :
    MID cp sp B W (w1.alloc (.cells #[.int .i64 y0, .bool d] 118)) gc gr g w1.heap.size s0 s1 s2 vs rows n c l y0 d :=
  ⟨below_step hb (below_alloc (Below.refl _ _) _), h.step (below_alloc (Below.refl _ _) _), Kd.R_below hr (below_alloc (Below.refl _ _) _), at1_0, fun e => by have := Kd.R_lt hr g rfl; omega, fun e => by have := blk_lt h.tab; omega, fun e => by have := blk_lt h.box; omega⟩
theorem upq {cp : Nat} {sp : List Value} {B gc gr r : Nat} {W W1 W' : World} {s0 s1 s2 : Int} {vs : List Value} {rows : List (List S118)} {u : Bool × Bool × List S118} {e : Ending} (h : UsePost cp sp B W gc gr s0 s1 s2 vs rows r u e W1) [q : Quiet W1 W'] : UsePost cp sp B W gc gr s0 s1 s2 vs rows r u e W' := by
  obtain ⟨h1, vs', h2, h3, h4⟩ := h
  exact ⟨h1, vs', h2, h3.step q.go, fq h4⟩
theorem sq {W W' : World} [q : Quiet W W'] : W.heap.size ≤ W'.heap.size := q.go.size
set_option maxHeartbeats 2000000 in
set_option maxRecDepth 100000 in
theorem use_hit {cp : Nat} {sp : List Value} (B gc gr : Nat) (s0 s1 s2 a : Int) (wr : Bool) (vs : List Value) (rows : List (List S118)) (W : World) (hcs : CS cp sp B W gc gr s0 s1 s2 vs rows) (ha : 0 ≤ a) (ha2 : a ≤ 65535) (h0 : 1 ≤ s0) (h2 : 1 ≤ s2) (hvn : vs.length ≤ 1000)
    (r : Nat) (hr : a / s2 % s0 = (r : Int)) (hrl : r < vs.length) (t : Int) (ht : a / s2 / s0 = t) (v : Value) (l : List S118) (hv : vs[r]? = some v) (hl : rows[r]? = some l) (hll : l.length < 900) (i : Nat) (hi : l.findIdx? (tagB t) = some i) :
    Calls Try.prog 62 #[.pointer (some ⟨gc, 0, none⟩), .int .i64 a, .bool wr] W (UsePost cp sp B W gc gr s0 s1 s2 vs rows r (true, false, ⟨(rd_T118 l i).f0, (rd_T118 l i).f1 || wr⟩ :: l.eraseIdx i)) := by
  have hu70 := Try.underlying70
  have hu118 := Try.underlying118
  obtain ⟨e1, hq0, hq1⟩ := tdiv_pos ha ha2 h2
  obtain ⟨e2, hq2, hq3⟩ := tdiv_pos hq0 hq1 h0
  have hrd : rd_L3 rows (r : Int) = l := by unfold rd_L3; rw [Int.toNat_natCast, List.getD_eq_getElem?_getD, hl]; rfl
  have hrow : Int.tmod (wrap64 (Int.tdiv a s2)) s0 = (r : Int) := by rw [e1, Int.tmod_eq_emod_of_nonneg hq0, hr]
  have hfind := find_calls s0 s1 s2 a (some ⟨gr, 0, none⟩) cp rows r W (hcs.C hvn) (by omega) (by omega) hrow (by rw [hcs.len]; exact hrl)
  have hidx : idxW (tagB t) l = (i : Int) := by unfold idxW; rw [hi]
  have hil : i < l.length := by
    rw [List.findIdx?_eq_some_iff_getElem] at hi
    exact hi.1
  rw [hrd, e1, e2, ht, hidx, hcs.len] at hfind
  have hR := hcs.row r v l hv hl
  obtain ⟨g, c, rfl, hbg, _, _⟩ := Kd.R_form hR (by omega)
  obtain ⟨m, hm⟩ : ∃ m, l.length = m + 1 := ⟨l.length - 1, by omega⟩
  rw [hm] at hR hv
  have hlc := (R_cells hR).2.2.1
  have c0 := kc hcs.box 0 rfl
  have c1 := kc hcs.box 1 rfl
  have c2 := kc hcs.box 2 rfl
  have c3 := kc hcs.box 3 rfl
  have n1 := hcs.box_tab
  have n2 : gc ≠ g := hcs.ne_box hv rfl
  have n3 : gr ≠ g := hcs.ne_tab hv rfl
  have HCS := Aside0.mk hcs
  have HV := Aside0.mk hv
  have HM := Aside0.mk hm
  obtain ⟨N, hN⟩ : ∃ N, N = vs.length := ⟨_, rfl⟩
  rw [← hN] at hfind hvn hrl c3
  have HN := Aside0.mk hN
  have HL := Aside0.mk hll
  obtain ⟨y, hy⟩ : ∃ y, y = rd_T118 l (i : Int) := ⟨_, rfl⟩
  rw [← hy]
  have HY := Aside0.mk hy
  have HR := Aside0.mk (show Kd.R k118 118 W B (fun _ => True) (.slice (some ⟨g, 0, none⟩) (m + 1) c) l from hR)
  obtain ⟨y0, y1⟩ := y
  dsimp only
  have him : i ≤ m := by omega
  have hrz : (r : Int) < (N : Int) := by omega
  clear hcs hr ht hv hl hll hi hrd hrow hidx hR hm hN hy e1 e2 hq0 hq1 hq2 hq3 hil
  have hw : IntKind.i64.wrap ((i : Int) + 1) = (i : Int) + 1 := by have h := HM.out; have h2 := HL.out; rw [IntKind.wrap_i64]; omega
  have HW := Aside0.mk hw
  have HLE := Aside0.mk (show (l.eraseIdx i).length < 1000 by have h := HL.out; have := List.length_eraseIdx_le l i; omega)
  clear hw
  cases y1 with
  | false =>
    simp only [Bool.false_or]
    go_enter Try.func62, Try.ntmps62
    go_wp2_with (go_at_call 93; refine hfind.mono ?_; rintro e w1 ⟨rfl, hb1⟩; have HB1 := Aside0.mk hb1; have H1 := Aside0.mk (HCS.out.step hb1); have HR1 := Aside0.mk (Kd.R_below HR.out hb1); clear hb1; have d3 : w1.cell? ⟨gc, 3, none⟩ = some (.slice (some ⟨gr, 0, none⟩) N cp) := (by rw [HN.out]; exact kc H1.out.box 3 rfl); have dt : w1.cell? ⟨gr, r, none⟩ = some (.slice (some ⟨g, 0, none⟩) (m + 1) c) := tab_cell H1.out.tab HV.out; obtain ⟨ce, hcl, hM, hcc, hfr⟩ := Kd.R_elem HR1.out z118 (i : Int) (by omega) (by omega); obtain rfl := k118_openM hM; have d0 : w1.cell? ⟨g, i * 2, none⟩ = some (.int .i64 y0) := (hcc 0 _ rfl).trans (by rw [show l.getD (i : Int).toNat z118 = ⟨y0, _⟩ from HY.out.symm]); have d1 : w1.cell? ⟨g, i * 2 + 1, none⟩ = some (.bool _) := (hcc 1 _ rfl).trans (by rw [show l.getD (i : Int).toNat z118 = ⟨y0, _⟩ from HY.out.symm]); clear hcl hM hcc hfr)
    refine gen_world (P := fun X => Code.wp _ _ _ _ X) (S := fun X => MID cp sp B W X gc gr g w1.heap.size s0 s1 s2 vs rows (m + 1) c l y0 wr) (mid_of HB1.out H1.out HR1.out) ?_
    intro W2 HQ0
    have HQ := Aside0.mk HQ0
    clear HQ0
    have n5 := HQ.out.n1
    have n6 := HQ.out.n2
    have n7 := HQ.out.n3
    obtain ⟨gw, hgw⟩ : ∃ gw, gw = w1.heap.size := ⟨_, rfl⟩
    rw [← hgw] at HQ n5 n6 n7 ⊢
    clear hgw
    have n8 : g ≠ gr := Ne.symm n3
    have p0 := kc HQ.out.kw 0 rfl
    have p1 := kc HQ.out.kw 1 rfl
    have p3 : W2.cell? ⟨gc, 3, none⟩ = some (.slice (some ⟨gr, 0, none⟩) N cp) := by rw [HN.out]; exact kc HQ.out.cs.box 3 rfl
    have n9 : gr ≠ gw := Ne.symm n6
    have n10 : gr ≠ gc := Ne.symm n1
    have hw := HW.out
    have hgl : g < W2.heap.size := Kd.R_lt HQ.out.row g rfl
    go_region_held3 (fun w' => w'.cell? ⟨gw, 0, none⟩ = some (.int .i64 y0) ∧ w'.cell? ⟨gw, 1, none⟩ = some (.bool wr) ∧ w'.cell? ⟨gc, 3, none⟩ = some (.slice (some ⟨gr, 0, none⟩) N cp)) (go_keep)
      ((first | (go_at_call 100; refine (delY_calls g c m i _ l _ B (fun _ => True) (rq HQ.out.row) (by omega) rfl (Nat.le_trans HQ.out.cs.hB sq)).mono ?_; rintro e w3 ⟨rfl, hr3, hf3⟩; have HR3 := Aside0.mk hr3; have F3 := Aside0.mk ((fq (Fr.refl (fun k => k = g) W2)).trans hf3 (fun i hi => .inl hi)); have K3 := Aside0.mk (F3.out.blk HQ.out.kw n5); have X3 := Aside0.mk (F3.out.blk HQ.out.cs.box n2); clear p0 p1 p3; have p0 := kc K3.out 0 rfl; have p1 := kc K3.out 1 rfl; have p3 : w3.cell? ⟨gc, 3, none⟩ = some (.slice (some ⟨gr, 0, none⟩) N cp) := (by rw [HN.out]; exact kc X3.out 3 rfl); have HF3 := Aside0.mk hf3; have hs3 := F3.out.size; clear hr3 hf3) | (go_at_call 99; refine (ins_calls _ m c _ ⟨y0, wr⟩ (l.eraseIdx i) _ B ?rr ?vv ?nn ?bb ?ll).mono ?_; (case rr => exact rq HR3.out); (case vv => first | exact at1_0 | exact blk_drew at1_0 | exact HF3.out.blk at1_0 (Nat.ne_of_gt hgl) | exact HF3.out.blk (blk_drew at1_0) (Nat.ne_of_gt hgl) | exact blk_drew (HF3.out.blk (blk_drew at1_0) (Nat.ne_of_gt hgl))); (case nn => exact (fun e => by have e2 : g = _ := Option.some.inj e; omega)); (case bb => exact Nat.le_trans (Nat.le_trans HQ.out.cs.hB hs3) sq); (case ll => exact HLE.out); rintro e w4 ⟨v4, rfl, hr4, hf4, ho4⟩; obtain ⟨A4, c4, rfl⟩ := Kd.R_slice hr4; have HR4 := Aside0.mk hr4; have F4 := Aside0.mk ((((fq F3.out)).mono (fun k hk => by subst hk; rfl) : Fr (fun k => (Value.slice (some ⟨g, 0, none⟩) (m + 1) c).ownBlock = some k) W2 _).trans hf4 (fun k hk => .inl hk)); have HO4 := Aside0.mk (fun k hk => (ho4 k hk).imp id (fun h => Nat.le_trans (Nat.le_trans hs3 sq) h)); have K4 := Aside0.mk (F4.out.blk HQ.out.kw (fun e => n5 (Option.some.inj e).symm)); have X4 := Aside0.mk (F4.out.blk HQ.out.cs.box (fun e => n2 (Option.some.inj e).symm)); have T4 := Aside0.mk (F4.out.blk HQ.out.cs.tab (fun e => n3 (Option.some.inj e).symm)); clear p0 p1 p3; have p0 := kc K4.out 0 rfl; have p1 := kc K4.out 1 rfl; have p3 : w4.cell? ⟨gc, 3, none⟩ = some (.slice (some ⟨gr, 0, none⟩) N cp) := (by rw [HN.out]; exact kc X4.out 3 rfl); have t4 : w4.cell? ⟨gr, r, none⟩ = some (.slice (some ⟨g, 0, none⟩) (m + 1) c) := tab_cell T4.out HV.out; have tf4 := blk_frozen T4.out r; clear hr4 hf4 ho4)))
    all_goals
      have HX := Aside0.mk (usepost_of (u := (true, false, ⟨y0, wr⟩ :: l.eraseIdx i)) HCS.out HQ.out.be HV.out F4.out HR4.out HO4.out rfl)
      go_wp2
      go_ret2
      first
      | exact HX.out
      | (show UsePost cp sp B W gc gr s0 s1 s2 vs rows r _ _ _; exact upq HX.out)
  | true =>
    simp only [Bool.true_or]
    go_enter Try.func62, Try.ntmps62
    go_wp2_with (go_at_call 93; refine hfind.mono ?_; rintro e w1 ⟨rfl, hb1⟩; have HB1 := Aside0.mk hb1; have H1 := Aside0.mk (HCS.out.step hb1); have HR1 := Aside0.mk (Kd.R_below HR.out hb1); clear hb1; have d3 : w1.cell? ⟨gc, 3, none⟩ = some (.slice (some ⟨gr, 0, none⟩) N cp) := (by rw [HN.out]; exact kc H1.out.box 3 rfl); have dt : w1.cell? ⟨gr, r, none⟩ = some (.slice (some ⟨g, 0, none⟩) (m + 1) c) := tab_cell H1.out.tab HV.out; obtain ⟨ce, hcl, hM, hcc, hfr⟩ := Kd.R_elem HR1.out z118 (i : Int) (by omega) (by omega); obtain rfl := k118_openM hM; have d0 : w1.cell? ⟨g, i * 2, none⟩ = some (.int .i64 y0) := (hcc 0 _ rfl).trans (by rw [show l.getD (i : Int).toNat z118 = ⟨y0, _⟩ from HY.out.symm]); have d1 : w1.cell? ⟨g, i * 2 + 1, none⟩ = some (.bool _) := (hcc 1 _ rfl).trans (by rw [show l.getD (i : Int).toNat z118 = ⟨y0, _⟩ from HY.out.symm]); clear hcl hM hcc hfr)
    refine gen_world (P := fun X => Code.wp _ _ _ _ X) (S := fun X => MID cp sp B W X gc gr g w1.heap.size s0 s1 s2 vs rows (m + 1) c l y0 true) (mid_of HB1.out H1.out HR1.out) ?_
    intro W2 HQ0
    have HQ := Aside0.mk HQ0
    clear HQ0
    have n5 := HQ.out.n1
    have n6 := HQ.out.n2
    have n7 := HQ.out.n3
    obtain ⟨gw, hgw⟩ : ∃ gw, gw = w1.heap.size := ⟨_, rfl⟩
    rw [← hgw] at HQ n5 n6 n7 ⊢
    clear hgw
    have n8 : g ≠ gr := Ne.symm n3
    have p0 := kc HQ.out.kw 0 rfl
    have p1 := kc HQ.out.kw 1 rfl
    have p3 : W2.cell? ⟨gc, 3, none⟩ = some (.slice (some ⟨gr, 0, none⟩) N cp) := by rw [HN.out]; exact kc HQ.out.cs.box 3 rfl
    have n9 : gr ≠ gw := Ne.symm n6
    have n10 : gr ≠ gc := Ne.symm n1
    have hw := HW.out
    have hgl : g < W2.heap.size := Kd.R_lt HQ.out.row g rfl
    go_region_held3 (fun w' => w'.cell? ⟨gw, 0, none⟩ = some (.int .i64 y0) ∧ w'.cell? ⟨gw, 1, none⟩ = some (.bool true) ∧ w'.cell? ⟨gc, 3, none⟩ = some (.slice (some ⟨gr, 0, none⟩) N cp)) (go_keep)
      ((first | (go_at_call 100; refine (delY_calls g c m i _ l _ B (fun _ => True) (rq HQ.out.row) (by omega) rfl (Nat.le_trans HQ.out.cs.hB sq)).mono ?_; rintro e w3 ⟨rfl, hr3, hf3⟩; have HR3 := Aside0.mk hr3; have F3 := Aside0.mk ((fq (Fr.refl (fun k => k = g) W2)).trans hf3 (fun i hi => .inl hi)); have K3 := Aside0.mk (F3.out.blk HQ.out.kw n5); have X3 := Aside0.mk (F3.out.blk HQ.out.cs.box n2); clear p0 p1 p3; have p0 := kc K3.out 0 rfl; have p1 := kc K3.out 1 rfl; have p3 : w3.cell? ⟨gc, 3, none⟩ = some (.slice (some ⟨gr, 0, none⟩) N cp) := (by rw [HN.out]; exact kc X3.out 3 rfl); have HF3 := Aside0.mk hf3; have hs3 := F3.out.size; clear hr3 hf3) | (go_at_call 99; refine (ins_calls _ m c _ ⟨y0, true⟩ (l.eraseIdx i) _ B ?rr ?vv ?nn ?bb ?ll).mono ?_; (case rr => exact rq HR3.out); (case vv => first | exact at1_0 | exact blk_drew at1_0 | exact HF3.out.blk at1_0 (Nat.ne_of_gt hgl) | exact HF3.out.blk (blk_drew at1_0) (Nat.ne_of_gt hgl) | exact blk_drew (HF3.out.blk (blk_drew at1_0) (Nat.ne_of_gt hgl))); (case nn => exact (fun e => by have e2 : g = _ := Option.some.inj e; omega)); (case bb => exact Nat.le_trans (Nat.le_trans HQ.out.cs.hB hs3) sq); (case ll => exact HLE.out); rintro e w4 ⟨v4, rfl, hr4, hf4, ho4⟩; obtain ⟨A4, c4, rfl⟩ := Kd.R_slice hr4; have HR4 := Aside0.mk hr4; have F4 := Aside0.mk ((((fq F3.out)).mono (fun k hk => by subst hk; rfl) : Fr (fun k => (Value.slice (some ⟨g, 0, none⟩) (m + 1) c).ownBlock = some k) W2 _).trans hf4 (fun k hk => .inl hk)); have HO4 := Aside0.mk (fun k hk => (ho4 k hk).imp id (fun h => Nat.le_trans (Nat.le_trans hs3 sq) h)); have K4 := Aside0.mk (F4.out.blk HQ.out.kw (fun e => n5 (Option.some.inj e).symm)); have X4 := Aside0.mk (F4.out.blk HQ.out.cs.box (fun e => n2 (Option.some.inj e).symm)); have T4 := Aside0.mk (F4.out.blk HQ.out.cs.tab (fun e => n3 (Option.some.inj e).symm)); clear p0 p1 p3; have p0 := kc K4.out 0 rfl; have p1 := kc K4.out 1 rfl; have p3 : w4.cell? ⟨gc, 3, none⟩ = some (.slice (some ⟨gr, 0, none⟩) N cp) := (by rw [HN.out]; exact kc X4.out 3 rfl); have t4 : w4.cell? ⟨gr, r, none⟩ = some (.slice (some ⟨g, 0, none⟩) (m + 1) c) := tab_cell T4.out HV.out; have tf4 := blk_frozen T4.out r; clear hr4 hf4 ho4)))
    all_goals
      have HX := Aside0.mk (usepost_of (u := (true, false, ⟨y0, true⟩ :: l.eraseIdx i)) HCS.out HQ.out.be HV.out F4.out HR4.out HO4.out rfl)
      go_wp2
      go_ret2
      first
      | exact HX.out
      | (show UsePost cp sp B W gc gr s0 s1 s2 vs rows r _ _ _; exact upq HX.out)
end Go.Proofs.Ytglehilfemfiiaa.GU
end
section
namespace Go.Proofs.Ytglehilfemfiiaa.GU
open Go.RowKit Go.Proofs.YtglehilfemfiiaaW.PrintWords Go.Proofs.YtglehilfemfiiaaW.PrintLast Go.Proofs.YtglehilfemfiiaaW.PrintMore Go.Proofs.Ytglehilfemfiiaa.Q Go.Proofs.Ytglehilfemfiiaa.Hnd
set_option linter.unusedVariables false
set_option linter.unusedSimpArgs false
theorem miss_len {p : S118 → Bool} {l : List S118} (h : l.findIdx? p = none) : idxW p l = -1 := by unfold idxW; rw [h]
set_option maxHeartbeats 2000000 in
set_option maxRecDepth 100000 in
theorem use_evict {cp : Nat} {sp : List Value} (B gc gr : Nat) (s0 s1 s2 a : Int) (wr : Bool) (vs : List Value) (rows : List (List S118)) (W : World) (hcs : CS cp sp B W gc gr s0 s1 s2 vs rows) (ha : 0 ≤ a) (ha2 : a ≤ 65535) (h0 : 1 ≤ s0) (h2 : 1 ≤ s2) (hvn : vs.length ≤ 1000)
    (r : Nat) (hr : a / s2 % s0 = (r : Int)) (hrl : r < vs.length) (t : Int) (ht : a / s2 / s0 = t) (v : Value) (l : List S118) (hv : vs[r]? = some v) (hl : rows[r]? = some l) (n : Nat) (hll : l.length = n) (hn9 : n < 900) (hs : (n : Int) = s1) (hi : l.findIdx? (tagB t) = none) :
    Calls Try.prog 62 #[.pointer (some ⟨gc, 0, none⟩), .int .i64 a, .bool wr] W (UsePost cp sp B W gc gr s0 s1 s2 vs rows r (false, (rd_T118 (⟨t, wr⟩ :: l) (n : Int)).f1, (⟨t, wr⟩ :: l).take n)) := by
  have hu70 := Try.underlying70
  have hu118 := Try.underlying118
  have hsb : ((n : Int) == s1) = true := by rw [hs]; simp
  obtain ⟨e1, hq0, hq1⟩ := tdiv_pos ha ha2 h2
  obtain ⟨e2, hq2, hq3⟩ := tdiv_pos hq0 hq1 h0
  have hrd : rd_L3 rows (r : Int) = l := by unfold rd_L3; rw [Int.toNat_natCast, List.getD_eq_getElem?_getD, hl]; rfl
  have hrow : Int.tmod (wrap64 (Int.tdiv a s2)) s0 = (r : Int) := by rw [e1, Int.tmod_eq_emod_of_nonneg hq0, hr]
  have hfind := find_calls s0 s1 s2 a (some ⟨gr, 0, none⟩) cp rows r W (hcs.C hvn) (by omega) (by omega) hrow (by rw [hcs.len]; exact hrl)
  rw [hrd, e1, e2, ht, miss_len hi, hcs.len] at hfind
  have hR := hcs.row r v l hv hl
  obtain ⟨A, c, rfl⟩ := Kd.R_slice hR
  rw [hll] at hR hv
  have c0 := kc hcs.box 0 rfl
  have c1 := kc hcs.box 1 rfl
  have c2 := kc hcs.box 2 rfl
  have c3 := kc hcs.box 3 rfl
  have n1 := hcs.box_tab
  have n10 := Ne.symm n1
  have HCS := Aside0.mk hcs
  have HV := Aside0.mk hv
  have HR := Aside0.mk hR
  have HNL := Aside0.mk hll
  obtain ⟨N, hN⟩ : ∃ N, N = vs.length := ⟨_, rfl⟩
  rw [← hN] at hfind hvn hrl c3
  have HN := Aside0.mk hN
  have hrz : (r : Int) < (N : Int) := by omega
  obtain ⟨q, hq⟩ : ∃ q, q = a / s2 := ⟨_, rfl⟩
  rw [← hq] at e1 e2 ht
  rw [ht] at e2
  have hw1 : IntKind.i64.wrap (Int.tdiv a s2) = q := by rw [i64_w]; exact e1
  have hw2 : IntKind.i64.wrap (Int.tdiv q s0) = t := by rw [i64_w]; exact e2
  have HW1 := Aside0.mk hw1
  have HW2 := Aside0.mk hw2
  have z3 : s0 ≠ 0 := by omega
  have z4 : s2 ≠ 0 := by omega
  have z0 : (s0 == 0) = false := beq_eq_false_iff_ne.mpr (by omega)
  have z2 : (s2 == 0) = false := beq_eq_false_iff_ne.mpr (by omega)
  clear hcs hr ht hv hl hll hi hrd hrow hR hN e1 e2 hq0 hq1 hq2 hq3 hq hw1 hw2 hs
  go_enter Try.func62, Try.ntmps62
  go_wp2_with (go_at_call 93; refine hfind.mono ?_; rintro e w1 ⟨rfl, hb1⟩; have HB1 := Aside0.mk hb1; have H1 := Aside0.mk (HCS.out.step hb1); have HR1 := Aside0.mk (Kd.R_below HR.out hb1); clear hb1; have d0 := kc H1.out.box 0 rfl; have d1 := kc H1.out.box 1 rfl; have d2 := kc H1.out.box 2 rfl; have d3 : w1.cell? ⟨gc, 3, none⟩ = some (.slice (some ⟨gr, 0, none⟩) N cp) := (by rw [HN.out]; exact kc H1.out.box 3 rfl); have dt : w1.cell? ⟨gr, r, none⟩ = some (.slice A n c) := tab_cell H1.out.tab HV.out)
  have hw1 := HW1.out
  have hw2 := HW2.out
  go_region_held3 (fun w' => w'.cell? ⟨gc, 0, none⟩ = some (.int .i64 s0) ∧ w'.cell? ⟨gc, 2, none⟩ = some (.int .i64 s2)) (go_keep)
    ((go_at_call 99; refine (ins_calls A n c _ ⟨t, wr⟩ l _ B ?rr ?vv ?nn ?bb ?ll).mono ?_; (case rr => exact rq HR1.out); (case vv => first | exact at1_0 | exact blk_drew at1_0); (case nn => exact (fun e => absurd (Kd.R_lt HR1.out _ e) (Nat.not_lt.mpr sq))); (case bb => exact Nat.le_trans H1.out.hB sq); (case ll => have := HNL.out; omega); rintro e w4 ⟨v4, rfl, hr4, hf4, ho4⟩; have hr4' : Kd.R k118 118 w4 B (fun _ => True) v4 (⟨t, wr⟩ :: l) := hr4; obtain ⟨A4, c4, rfl⟩ := Kd.R_slice hr4'; rw [List.length_cons, HNL.out] at hr4' ho4 ⊢; have HR4 := Aside0.mk hr4'; have F4 := Aside0.mk ((fq (Fr.refl (fun k => (Value.slice A n c).ownBlock = some k) w1)).trans hf4 (fun k hk => .inl hk)); have HO4 := Aside0.mk (show ∀ k, (Value.slice A4 (n + 1) c4).ownBlock = some k → (Value.slice A n c).ownBlock = some k ∨ w1.heap.size ≤ k from fun k hk => (ho4 k hk).imp id (fun h => Nat.le_trans (sq (W := w1)) h)); have X4 := Aside0.mk (F4.out.blk H1.out.box (fun e => H1.out.ne_box HV.out e rfl)); have T4 := Aside0.mk (F4.out.blk H1.out.tab (fun e => H1.out.ne_tab HV.out e rfl)); have p0 := kc X4.out 0 rfl; have p1 := kc X4.out 1 rfl; have p2 := kc X4.out 2 rfl; have p3 : w4.cell? ⟨gc, 3, none⟩ = some (.slice (some ⟨gr, 0, none⟩) N cp) := (by rw [HN.out]; exact kc X4.out 3 rfl); have t4 : w4.cell? ⟨gr, r, none⟩ = some (.slice A n c) := tab_cell T4.out HV.out; have tf4 := blk_frozen T4.out r; clear hr4 hr4' hf4 ho4))
  all_goals
    obtain ⟨g4, cap4, e4, hbg4, _, _⟩ := Kd.R_form HR4.out (by simp)
    injection e4 with e5 e6 e7
    subst e5; subst e7
    clear e6
    obtain ⟨ce, hcl, hM, hcc, hfr⟩ := Kd.R_elem HR4.out z118 (n : Int) (by omega) (by omega)
    obtain rfl := k118_openM hM
    obtain ⟨d, hd⟩ : ∃ d, d = (rd_T118 (⟨t, wr⟩ :: l) (n : Int)).f1 := ⟨_, rfl⟩
    have dd : w4.cell? ⟨g4, n * 2 + 1, none⟩ = some (.bool d) := (hcc 1 _ rfl).trans (by rw [hd]; rfl)
    have HDD := Aside0.mk hd
    have hRt := Kd.R_take HR4.out (m := n) (by simp; have := HNL.out; omega)
    have HX := Aside0.mk (usepost_of (v' := .slice (some ⟨g4, 0, none⟩) n c4) (u := (false, d, (⟨t, wr⟩ :: l).take n)) HCS.out HB1.out HV.out F4.out hRt (fun k hk => HO4.out k hk) rfl)
    have hlc4 := (Kd.R_reads' HR4.out).2.1
    have q8 : (n : Int) < (n : Int) + 1 := by omega
    have q9 : n ≤ c4 := by omega
    have q10 : (0 : Int) ≤ (n : Int) := by omega
    have q11 : (n : Int) ≤ (c4 : Int) := by omega
    clear hcl hM hcc hfr hd hRt
    clear hw1 hw2
    go_wp2
    go_ret2
    rw [← HDD.out]
    first
    | exact HX.out
    | exact upq HX.out
set_option maxHeartbeats 2000000 in
set_option maxRecDepth 100000 in
theorem use_more {cp : Nat} {sp : List Value} (B gc gr : Nat) (s0 s1 s2 a : Int) (wr : Bool) (vs : List Value) (rows : List (List S118)) (W : World) (hcs : CS cp sp B W gc gr s0 s1 s2 vs rows) (ha : 0 ≤ a) (ha2 : a ≤ 65535) (h0 : 1 ≤ s0) (h2 : 1 ≤ s2) (hvn : vs.length ≤ 1000)
    (r : Nat) (hr : a / s2 % s0 = (r : Int)) (hrl : r < vs.length) (t : Int) (ht : a / s2 / s0 = t) (v : Value) (l : List S118) (hv : vs[r]? = some v) (hl : rows[r]? = some l) (n : Nat) (hll : l.length = n) (hn9 : n < 900) (hs : (n : Int) ≠ s1) (hi : l.findIdx? (tagB t) = none) :
    Calls Try.prog 62 #[.pointer (some ⟨gc, 0, none⟩), .int .i64 a, .bool wr] W (UsePost cp sp B W gc gr s0 s1 s2 vs rows r (false, false, ⟨t, wr⟩ :: l)) := by
  have hu70 := Try.underlying70
  have hu118 := Try.underlying118
  have hsb : ((n : Int) == s1) = false := beq_eq_false_iff_ne.mpr hs
  obtain ⟨e1, hq0, hq1⟩ := tdiv_pos ha ha2 h2
  obtain ⟨e2, hq2, hq3⟩ := tdiv_pos hq0 hq1 h0
  have hrd : rd_L3 rows (r : Int) = l := by unfold rd_L3; rw [Int.toNat_natCast, List.getD_eq_getElem?_getD, hl]; rfl
  have hrow : Int.tmod (wrap64 (Int.tdiv a s2)) s0 = (r : Int) := by rw [e1, Int.tmod_eq_emod_of_nonneg hq0, hr]
  have hfind := find_calls s0 s1 s2 a (some ⟨gr, 0, none⟩) cp rows r W (hcs.C hvn) (by omega) (by omega) hrow (by rw [hcs.len]; exact hrl)
  rw [hrd, e1, e2, ht, miss_len hi, hcs.len] at hfind
  have hR := hcs.row r v l hv hl
  obtain ⟨A, c, rfl⟩ := Kd.R_slice hR
  rw [hll] at hR hv
  have c0 := kc hcs.box 0 rfl
  have c1 := kc hcs.box 1 rfl
  have c2 := kc hcs.box 2 rfl
  have c3 := kc hcs.box 3 rfl
  have n1 := hcs.box_tab
  have n10 := Ne.symm n1
  have HCS := Aside0.mk hcs
  have HV := Aside0.mk hv
  have HR := Aside0.mk hR
  have HNL := Aside0.mk hll
  obtain ⟨N, hN⟩ : ∃ N, N = vs.length := ⟨_, rfl⟩
  rw [← hN] at hfind hvn hrl c3
  have HN := Aside0.mk hN
  have hrz : (r : Int) < (N : Int) := by omega
  obtain ⟨q, hq⟩ : ∃ q, q = a / s2 := ⟨_, rfl⟩
  rw [← hq] at e1 e2 ht
  rw [ht] at e2
  have hw1 : IntKind.i64.wrap (Int.tdiv a s2) = q := by rw [i64_w]; exact e1
  have hw2 : IntKind.i64.wrap (Int.tdiv q s0) = t := by rw [i64_w]; exact e2
  have HW1 := Aside0.mk hw1
  have HW2 := Aside0.mk hw2
  have z3 : s0 ≠ 0 := by omega
  have z4 : s2 ≠ 0 := by omega
  have z0 : (s0 == 0) = false := beq_eq_false_iff_ne.mpr (by omega)
  have z2 : (s2 == 0) = false := beq_eq_false_iff_ne.mpr (by omega)
  clear hcs hr ht hv hl hll hi hrd hrow hR hN e1 e2 hq0 hq1 hq2 hq3 hq hw1 hw2 hs
  go_enter Try.func62, Try.ntmps62
  go_wp2_with (go_at_call 93; refine hfind.mono ?_; rintro e w1 ⟨rfl, hb1⟩; have HB1 := Aside0.mk hb1; have H1 := Aside0.mk (HCS.out.step hb1); have HR1 := Aside0.mk (Kd.R_below HR.out hb1); clear hb1; have d0 := kc H1.out.box 0 rfl; have d1 := kc H1.out.box 1 rfl; have d2 := kc H1.out.box 2 rfl; have d3 : w1.cell? ⟨gc, 3, none⟩ = some (.slice (some ⟨gr, 0, none⟩) N cp) := (by rw [HN.out]; exact kc H1.out.box 3 rfl); have dt : w1.cell? ⟨gr, r, none⟩ = some (.slice A n c) := tab_cell H1.out.tab HV.out)
  have hw1 := HW1.out
  have hw2 := HW2.out
  go_region_held3 (fun w' => w'.cell? ⟨gc, 0, none⟩ = some (.int .i64 s0) ∧ w'.cell? ⟨gc, 2, none⟩ = some (.int .i64 s2)) (go_keep)
    ((go_at_call 99; refine (ins_calls A n c _ ⟨t, wr⟩ l _ B ?rr ?vv ?nn ?bb ?ll).mono ?_; (case rr => exact rq HR1.out); (case vv => first | exact at1_0 | exact blk_drew at1_0); (case nn => exact (fun e => absurd (Kd.R_lt HR1.out _ e) (Nat.not_lt.mpr sq))); (case bb => exact Nat.le_trans H1.out.hB sq); (case ll => have := HNL.out; omega); rintro e w4 ⟨v4, rfl, hr4, hf4, ho4⟩; have hr4' : Kd.R k118 118 w4 B (fun _ => True) v4 (⟨t, wr⟩ :: l) := hr4; obtain ⟨A4, c4, rfl⟩ := Kd.R_slice hr4'; rw [List.length_cons, HNL.out] at hr4' ho4 ⊢; have HR4 := Aside0.mk hr4'; have F4 := Aside0.mk ((fq (Fr.refl (fun k => (Value.slice A n c).ownBlock = some k) w1)).trans hf4 (fun k hk => .inl hk)); have HO4 := Aside0.mk (show ∀ k, (Value.slice A4 (n + 1) c4).ownBlock = some k → (Value.slice A n c).ownBlock = some k ∨ w1.heap.size ≤ k from fun k hk => (ho4 k hk).imp id (fun h => Nat.le_trans (sq (W := w1)) h)); have X4 := Aside0.mk (F4.out.blk H1.out.box (fun e => H1.out.ne_box HV.out e rfl)); have T4 := Aside0.mk (F4.out.blk H1.out.tab (fun e => H1.out.ne_tab HV.out e rfl)); have p0 := kc X4.out 0 rfl; have p1 := kc X4.out 1 rfl; have p2 := kc X4.out 2 rfl; have p3 : w4.cell? ⟨gc, 3, none⟩ = some (.slice (some ⟨gr, 0, none⟩) N cp) := (by rw [HN.out]; exact kc X4.out 3 rfl); have t4 : w4.cell? ⟨gr, r, none⟩ = some (.slice A n c) := tab_cell T4.out HV.out; have tf4 := blk_frozen T4.out r; clear hr4 hr4' hf4 ho4))
  all_goals
    have HX := Aside0.mk (usepost_of (u := (false, false, ⟨t, wr⟩ :: l)) HCS.out HB1.out HV.out F4.out HR4.out HO4.out rfl)
    clear hw1 hw2
    go_wp2
    go_ret2
    first
    | exact HX.out
    | exact upq HX.out
/-- (*Cache).use. -/
theorem use_calls {cp : Nat} {sp : List Value} (B gc gr : Nat) (s0 s1 s2 a : Int) (wr : Bool) (vs : List Value) (rows : List (List S118)) (W : World) (hcs : CS cp sp B W gc gr s0 s1 s2 vs rows) (ha : 0 ≤ a) (ha2 : a ≤ 65535) (h0 : 1 ≤ s0) (h2 : 1 ≤ s2) (hvn : vs.length ≤ 1000)
    (r : Nat) (hr : a / s2 % s0 = (r : Int)) (hrl : r < vs.length) (l : List S118) (hl : rows[r]? = some l) (hll : l.length < 900) :
    Calls Try.prog 62 #[.pointer (some ⟨gc, 0, none⟩), .int .i64 a, .bool wr] W (UsePost cp sp B W gc gr s0 s1 s2 vs rows r (useRow s1 l (a / s2 / s0) wr)) := by
  have hv : vs[r]? = some vs[r] := List.getElem?_eq_getElem hrl
  unfold useRow
  cases hf : l.findIdx? (tagB (a / s2 / s0)) with
  | some i => exact use_hit B gc gr s0 s1 s2 a wr vs rows W hcs ha ha2 h0 h2 hvn r hr hrl _ rfl _ l hv hl hll i hf
  | none =>
    by_cases hs : (l.length : Int) = s1
    · dsimp only
      rw [if_pos hs]
      exact use_evict B gc gr s0 s1 s2 a wr vs rows W hcs ha ha2 h0 h2 hvn r hr hrl _ rfl _ l hv hl l.length rfl hll hs hf
    · dsimp only
      rw [if_neg hs]
      exact use_more B gc gr s0 s1 s2 a wr vs rows W hcs ha ha2 h0 h2 hvn r hr hrl _ rfl _ l hv hl l.length rfl hll hs hf
end Go.Proofs.Ytglehilfemfiiaa.GU
end
