/- CacheRun, walked by hand. -/
import Derived.Test.YtglehilfemfiiaaCciR
import Derived.Test.YtglehilfemfiiaaGRx1
namespace Go.Proofs.Ytglehilfemfiiaa.GR
open Go.RowKit Go.Proofs.YtglehilfemfiiaaW.PrintWords Go.Proofs.YtglehilfemfiiaaW.PrintLast Go.Proofs.YtglehilfemfiiaaW.PrintMore Go.Proofs.Ytglehilfemfiiaa.Q Go.Proofs.Ytglehilfemfiiaa.Hnd
set_option linter.unusedVariables false
set_option linter.unusedSimpArgs false
/-- Whether a shape is ok. -/
def shapeB (s0 s1 s2 : Int) : Bool := (impl_isShape.f s0 s1 s2).getD false
theorem shapeB_f (s0 s1 s2 : Int) : impl_isShape.f s0 s1 s2 = some (shapeB s0 s1 s2) := by
  unfold shapeB impl_isShape.f impl_within.f impl_isPower.f
  repeat (first | rfl | split | simp only [Option.bind_some])
theorem within_eq (a lo hi : Int) : impl_within.f a lo hi = some (decide (lo ≤ a ∧ a ≤ hi)) := by
  unfold impl_within.f; split <;> simp_all <;> omega
theorem shapeB_of {s0 s1 s2 : Int} (h : shapeB s0 s1 s2 = true) : 1 ≤ s0 ∧ s0 ≤ 16 ∧ 1 ≤ s1 ∧ s1 ≤ 4 ∧ 4 ≤ s2 ∧ s2 ≤ 32 := by
  have h1 := shapeB_f s0 s1 s2
  rw [h] at h1
  unfold impl_isShape.f at h1
  simp only [within_eq, Option.bind_some, decide_eq_true_eq] at h1
  by_cases c1 : 1 ≤ s0 ∧ s0 ≤ 16
  · rw [if_pos c1] at h1
    obtain ⟨b, _, h1⟩ := Option.bind_eq_some_iff.mp h1
    cases b with
    | false => simp at h1
    | true =>
      rw [if_pos rfl] at h1
      by_cases c2 : 1 ≤ s1 ∧ s1 ≤ 4
      · rw [if_pos c2] at h1
        by_cases c3 : 4 ≤ s2 ∧ s2 ≤ 32
        · exact ⟨c1.1, c1.2, c2.1, c2.2, c3.1, c3.2⟩
        · rw [if_neg c3] at h1
          simp at h1
      · rw [if_neg c2] at h1
        simp at h1
  · rw [if_neg c1] at h1
    simp at h1
/-- One use of a cache: what is told of it, the rows behind it. -/
def stepC (s0 s1 s2 : Int) (rows : List (List S118)) (u : S32) : S36 × List (List S118) :=
  let x := useRow s1 (rows.getD (u.f0 / s2 % s0).toNat []) (u.f0 / s2 / s0) u.f1
  (⟨x.1, false, x.2.1⟩, rows.set (u.f0 / s2 % s0).toNat x.2.2)
def runC (s0 s1 s2 : Int) : List (List S118) → List S32 → List S36
  | _, [] => []
  | rows, u :: us => (stepC s0 s1 s2 rows u).1 :: runC s0 s1 s2 (stepC s0 s1 s2 rows u).2 us
def impl_CacheRun.f (s0 s1 s2 : Int) (l : List S32) : Option (List S36) := some (if shapeB s0 s1 s2 = true ∧ l.length ≤ 2000 ∧ l.any badU = false then runC s0 s1 s2 (List.replicate s0.toNat []) l else [])
theorem useRow_len (s1 : Int) (l : List S118) (t : Int) (wr : Bool) (h : (l.length : Int) ≤ s1) : ((useRow s1 l t wr).2.2.length : Int) ≤ s1 := by
  unfold useRow
  split
  · rename_i i hi
    rw [List.findIdx?_eq_some_iff_getElem] at hi
    obtain ⟨hil, _⟩ := hi
    simp only [List.length_cons, List.length_eraseIdx_of_lt hil]
    omega
  · split
    · rw [List.length_take, List.length_cons]
      omega
    · simp only [List.length_cons]
      omega
section
variable {B gc gr : Nat} {W W' : World} {s0 s1 s2 : Int} {vs : List Value} {rows : List (List S118)} {S : Nat → Prop}
/-- What is written are rows of another kind: the cache stays. -/
theorem CS.fr (h : CS B W gc gr s0 s1 s2 vs rows) (hf : Fr S W W') (hS : ∀ k, S k → ∃ cs, W.heap[k]? = some (.cells cs 36 (0, 0))) : CS B W' gc gr s0 s1 s2 vs rows := by
  have no : ∀ {k t : Nat} {cs : Array Value}, W.heap[k]? = some (.cells cs t (0, 0)) → t ≠ 36 → ¬ S k := fun {k t cs} hk ht hs => by
    obtain ⟨c2, h2⟩ := hS k hs
    have := hk.symm.trans h2
    simp at this
    exact ht this.2
  refine ⟨hf.blk h.box (no h.box (by decide)), hf.blk h.tab (no h.tab (by decide)), h.len, fun i v xs h1 h2 => ?_, h.apart, h.hgc, h.hgr, Nat.le_trans h.hB hf.size⟩
  have hR := h.row i v xs h1 h2
  refine Kd.R_mono (hf.R (Kd.R_reok rfl hR (ok := fun k => ¬ S k) (fun k hk => ?_)) (fun k hk => hk)) (fun _ _ => trivial)
  obtain ⟨cells, hc⟩ := Kd.R_typed hR k hk
  exact no hc (by decide)
/-- A row of accesses lies apart from the cache. -/
theorem CS.acc (h : CS B W gc gr s0 s1 s2 vs rows) {v : Value} {xs : List S36} {ok : Nat → Prop} (hr : Kd.R k36 36 W B ok v xs) (hf : Fr (fun k => k = gr ∨ (B ≤ k ∧ ∃ cs, W.heap[k]? = some (.cells cs 118 (0, 0)))) W W') : Kd.R k36 36 W' B ok v xs := by
  refine Kd.R_mono (hf.R (Kd.R_tight2 rfl hr) (fun k hk hs => ?_)) (fun k hk => hk.2)
  obtain ⟨cells, hc⟩ := Kd.R_typed hr k hk.1.symm
  rcases hs with rfl | ⟨_, cs, h2⟩
  · have := hc.symm.trans h.tab
    simp at this
  · have := hc.symm.trans h2
    simp at this
end
theorem CS.acc2 {B gc gr : Nat} {W X W' : World} {s0 s1 s2 : Int} {vs : List Value} {rows : List (List S118)} {v : Value} {xs : List S36} {ok : Nat → Prop} (hf : Fr (fun k => k = gr ∨ (B ≤ k ∧ ∃ cs, X.heap[k]? = some (.cells cs 118 (0, 0)))) X W') (h : CS B W gc gr s0 s1 s2 vs rows) (hr : Kd.R k36 36 W B ok v xs) [q : Quiet W X] : Kd.R k36 36 W' B ok v xs :=
  (h.step q.go).acc (Kd.R_below hr q.go) hf
/-- All that was written in a use lies behind B. -/
theorem CS.be {B gc gr : Nat} {W X W' w0 : World} {s0 s1 s2 : Int} {vs : List Value} {rows : List (List S118)} (hf : Fr (fun k => k = gr ∨ (B ≤ k ∧ ∃ cs, X.heap[k]? = some (.cells cs 118 (0, 0)))) X W') (h : CS B W gc gr s0 s1 s2 vs rows) (hb : Below B w0 W) [q : Quiet W X] : Below B w0 W' :=
  (hb.trans (q.go.mono h.hB)).trans (hf.below (fun k hk => hk.elim (fun e => e ▸ h.hgr) (fun e => e.1)) (Nat.le_trans h.hB q.go.size))
theorem rdx32 (l : List S32) (k : Nat) (h : k < l.length) : l.drop k = rd_T32 l (k : Int) :: l.drop (k + 1) := by
  rw [List.drop_eq_getElem_cons h]
  congr 1
  unfold rd_T32
  rw [Int.toNat_natCast, List.getD_eq_getElem?_getD, List.getElem?_eq_getElem h]
  rfl
/-- What the loop holds behind k uses. -/
structure LoopC (w wr : World) (gc gr : Nat) (s0 s1 s2 : Int) (l : List S32) (k : Nat) (A : Option Addr) (c : Nat) (acc : List S36) (vs : List Value) (rows : List (List S118)) : Prop where
  cs : CS w.heap.size wr gc gr s0 s1 s2 vs rows
  vl : vs.length = s0.toNat
  few : ∀ (i : Nat) xs, rows[i]? = some xs → (xs.length : Int) ≤ s1
  al : acc.length = k
  run : acc ++ runC s0 s1 s2 rows (l.drop k) = runC s0 s1 s2 (List.replicate s0.toNat []) l
  row : Kd.R k36 36 wr w.heap.size (fun _ => True) (.slice A acc.length c) acc
  be : Below w.heap.size w wr
theorem start_loop {w w3 : World} {n gr : Nat} {s1 s2 : Int} {l : List S32} (hb : Below w.heap.size w w3) (ht : w3.heap[gr]? = some (.cells (List.replicate n (Value.slice none 0 0)).toArray 116 (0, 0))) (hg : w.heap.size ≤ gr) (hs : 1 ≤ (n : Int) ∧ (n : Int) ≤ 16 ∧ 1 ≤ s1 ∧ s1 ≤ 4 ∧ 4 ≤ s2 ∧ s2 ≤ 32) :
    LoopC w (w3.alloc (.cells #[.int .i64 (n : Int), .int .i64 s1, .int .i64 s2, .slice (some ⟨gr, 0, none⟩) n n] 70)) w3.heap.size gr (n : Int) s1 s2 l 0 none 0 [] (List.replicate n (.slice none 0 0)) (List.replicate n []) := by
  have hbel := below_step hb (below_alloc (Below.refl w3.heap.size w3) (.cells #[.int .i64 (n : Int), .int .i64 s1, .int .i64 s2, .slice (some ⟨gr, 0, none⟩) n n] 70))
  refine ⟨⟨by rw [List.length_replicate]; exact at1_0, bq ht, by rw [List.length_replicate, List.length_replicate], fun i v xs h1 h2 => ?_, fun i j v v' k _ h1 _ h3 => ?_, hb.size, hg, hbel.size⟩, by rw [List.length_replicate, Int.toNat_natCast], fun i xs h => ?_, rfl, by rw [List.nil_append, List.drop_zero, Int.toNat_natCast], Kd.R_nil _ _ _ _ _, hbel⟩
  · obtain rfl := List.eq_of_mem_replicate (List.mem_of_getElem? h1)
    obtain rfl := List.eq_of_mem_replicate (List.mem_of_getElem? h2)
    exact Kd.R_nil _ _ _ _ _
  · obtain rfl := List.eq_of_mem_replicate (List.mem_of_getElem? h1)
    cases h3
  · obtain rfl := List.eq_of_mem_replicate (List.mem_of_getElem? h)
    simp
    omega
set_option maxHeartbeats 4000000 in
set_option maxRecDepth 100000 in
theorem impl_CacheRun.calls (s0 s1 s2 : Int) (A : Option Addr) (c : Nat) (l : List S32) (r : List S36) (w : World) (hr : Kd.C k32 w A l.length l) (hc : l.length ≤ c) (h : impl_CacheRun.f s0 s1 s2 l = some r) :
    Calls Try.prog 12 #[.agg #[.int .i64 s0, .int .i64 s1, .int .i64 s2], .slice A l.length c] w fun e w' => ∃ v1_ : Value, e = .returned v1_ ∧ Kd.R k36 36 w' w.heap.size (fun _ => True) v1_ r ∧ Below w.heap.size w w' := by
  have hu25 := Try.underlying25
  have hu70 := Try.underlying70
  have hu32 := Try.underlying32
  unfold impl_CacheRun.f at h
  replace h := Option.some.inj h
  have HR := Aside0.mk hr
  have hsh := shapeB_f s0 s1 s2
  have eg : ∀ args w, (callFunc 59 args).run Try.prog w = .ok (.enter 59 args) w := enters_of Try.func59 (by kernel_rfl) rfl
  have HCT := Aside0.mk (fun (W : World) (hC : Kd.C k32 W A l.length l) => containsU_calls badU 59 #[] eg A c l W (badU_pred W) hC)
  clear hr eg
  cases hS : shapeB s0 s1 s2 with
  | false =>
    rw [if_neg (fun x => by rw [hS] at x; cases x.1)] at h
    subst h
    rw [hS] at hsh
    have HSH := Aside0.mk hsh
    clear hsh hS
    go_enter Try.func12, Try.ntmps12
    go_wp2_with (go_at_call 57; refine (impl_isShape.calls s0 s1 s2 false _ HSH.out).mono ?_; rintro e w1 ⟨rfl, hb⟩; have HB1 := Aside0.mk (Fr.step ((Fr.refl (fun _ => False) w).alloc _) hb); clear hb)
    go_ret
    exact ⟨_, rfl, Kd.R_nil _ _ _ _ _, HB1.out.below (fun _ h => h.elim) (Nat.le_refl _)⟩
  | true =>
    rw [hS] at hsh
    have HSH := Aside0.mk hsh
    have HSO := Aside0.mk (shapeB_of hS)
    have BOX := Aside0.mk (at1_0 (w := w) (o0 := .cells #[.int .i64 s0, .int .i64 s1, .int .i64 s2] 25))
    clear hsh
    by_cases hl : l.length ≤ 2000
    · have hli : (l.length : Int) ≤ 2000 := by omega
      cases hbad : l.any badU with
      | true =>
        rw [if_neg (fun x => by rw [hbad] at x; cases x.2.2)] at h
        subst h
        rw [hbad] at HCT
        clear hbad hS
        go_enter Try.func12, Try.ntmps12
        go_wp2_with (first | (go_at_call 57; refine (impl_isShape.calls s0 s1 s2 true _ HSH.out).mono ?_; rintro e w1 ⟨rfl, hb⟩; have HB1 := Aside0.mk (Fr.step ((Fr.refl (fun _ => False) w).alloc _) hb); clear hb) | (go_at_call 58; refine (HCT.out _ (Kd.C_below HR.out (HB1.out.below (fun _ h => h.elim) (Nat.le_refl _)))).mono ?_; rintro e w2 ⟨rfl, hb⟩; have HB2 := Aside0.mk ((HB1.out.step hb).below (fun _ h => h.elim) (Nat.le_refl _)); clear hb))
        go_ret
        exact ⟨_, rfl, Kd.R_nil _ _ _ _ _, HB2.out⟩
      | false =>
        rw [if_pos ⟨hS, hl, hbad⟩] at h
        subst h
        rw [hbad] at HCT
        have HBAD := Aside0.mk hbad
        clear hbad hS
        obtain ⟨n, hn⟩ : ∃ n : Nat, s0 = (n : Int) := ⟨s0.toNat, by have := HSO.out; omega⟩
        subst hn
        have HN := Aside0.mk (show n ≤ 16 by have := HSO.out; omega)
        go_enter Try.func12, Try.ntmps12
        go_wp2_with (first | (go_at_call 57; refine (impl_isShape.calls _ s1 s2 true _ HSH.out).mono ?_; rintro e w1 ⟨rfl, hb⟩; have K1 := Aside0.mk (blk_below BOX.out hb); have HB1 := Aside0.mk (Fr.step ((Fr.refl (fun _ => False) w).alloc _) hb); clear hb; have p0 := kc K1.out 0 rfl; have p1 := kc K1.out 1 rfl; have p2 := kc K1.out 2 rfl) | (go_at_call 58; refine (HCT.out _ (Kd.C_below HR.out (HB1.out.below (fun _ h => h.elim) (Nat.le_refl _)))).mono ?_; rintro e w2 ⟨rfl, hb⟩; have HB2 := Aside0.mk ((HB1.out.step hb).below (fun _ h => h.elim) (Nat.le_refl _)); have K2 := Aside0.mk (blk_below K1.out hb); clear hb; have p0 := kc K2.out 0 rfl; have p1 := kc K2.out 1 rfl; have p2 := kc K2.out 2 rfl) | (go_at_call 61; refine (newCache_calls n s1 s2 _ (by have := HN.out; omega)).mono ?_; rintro e w3 ⟨gr, rfl, ht, hg, hb⟩; have HB3 := Aside0.mk (below_step HB2.out hb); have HT := Aside0.mk ht; have HG := Aside0.mk (Nat.le_trans HB2.out.size hg); clear ht hg hb))
        go_loopg [6, 27] l.length (fun gg s6 s27 wr => ∃ (kk : Nat) (A' : Option Addr) (c' : Nat) (acc : List S36) (vs : List Value) (rows : List (List S118)), kk ≤ l.length ∧ l.length - kk ≤ gg ∧ s27 = .int .i64 (kk : Int) ∧ s6 = .slice A' acc.length c' ∧ Aside0 (LoopC w wr w3.heap.size gr (n : Int) s1 s2 l kk A' c' acc vs rows))
        case atStart => exact ⟨0, none, 0, [], List.replicate n (.slice none 0 0), List.replicate n [], by omega, by omega, rfl, rfl, ⟨start_loop HB3.out HT.out HG.out HSO.out⟩⟩
        case round =>
          obtain ⟨kk, A', c', acc, vs, rows, hk, hg, rfl, rfl, HLP⟩ := hrel
          by_cases hlt : kk < l.length
          · have hltz : (kk : Int) < (l.length : Int) := by omega
            obtain ⟨ad, rfl, h0, h1⟩ := at_T32 (Kd.C_below HR.out HLP.out.be) (kk : Int) (by omega) (by omega)
            rw [Int.toNat_natCast] at h0 h1
            have hx : badU (rd_T32 l (kk : Int)) = false := by
              have h := HBAD.out
              rw [List.any_eq_false] at h
              have := h l[kk] (List.getElem_mem _)
              rw [show rd_T32 l (kk : Int) = l[kk] by unfold rd_T32; rw [Int.toNat_natCast, List.getD_eq_getElem?_getD, List.getElem?_eq_getElem hlt]; rfl]
              simpa using this
            have hd := rdx32 l kk hlt
            generalize rd_T32 l (kk : Int) = x at h0 h1 hx hd
            obtain ⟨x0, x1⟩ := x
            have hx0 : 0 ≤ x0 ∧ x0 ≤ 65535 := by simpa [badU] using hx
            have hso := HSO.out
            have hm0 : 0 ≤ x0 / s2 % (n : Int) := Int.emod_nonneg _ (by omega)
            have hm1 : x0 / s2 % (n : Int) < (n : Int) := Int.emod_lt_of_pos _ (by omega)
            obtain ⟨r, hr⟩ : ∃ r : Nat, x0 / s2 % (n : Int) = (r : Int) := ⟨(x0 / s2 % (n : Int)).toNat, by omega⟩
            have hvl := HLP.out.vl
            have hrn : r < vs.length := by rw [hvl]; omega
            have hrl : rows[r]? = some (rows.getD r []) := by rw [List.getD_eq_getElem?_getD, List.getElem?_eq_getElem (by rw [HLP.out.cs.len]; exact hrn)]; rfl
            have hfew := HLP.out.few r _ hrl
            have hcall := fun (W : World) (hcs : CS w.heap.size W w3.heap.size gr (n : Int) s1 s2 vs rows) => use_calls w.heap.size w3.heap.size gr (n : Int) s1 s2 x0 x1 vs rows W hcs hx0.1 hx0.2 (by omega) (by omega) (by rw [hvl]; omega) r hr hrn _ hrl (by omega)
            have hst : stepC (n : Int) s1 s2 rows ⟨x0, x1⟩ = (⟨(useRow s1 (rows.getD r []) (x0 / s2 / (n : Int)) x1).1, false, (useRow s1 (rows.getD r []) (x0 / s2 / (n : Int)) x1).2.1⟩, rows.set r (useRow s1 (rows.getD r []) (x0 / s2 / (n : Int)) x1).2.2) := by
              unfold stepC
              dsimp only
              rw [hr, Int.toNat_natCast]
            have hule := useRow_len s1 (rows.getD r []) (x0 / s2 / (n : Int)) x1 hfew
            generalize useRow s1 (rows.getD r []) (x0 / s2 / (n : Int)) x1 = u at hcall hst hule
            obtain ⟨b1, b2, row'⟩ := u
            dsimp only at hst hule
            have hrun := HLP.out.run
            rw [hd] at hrun
            simp only [runC, hst] at hrun
            have HRUN := Aside0.mk hrun
            have HCALL := Aside0.mk hcall
            have HUL := Aside0.mk hule
            have HAL := Aside0.mk HLP.out.al
            clear hx hd hx0 hso hm0 hm1 hr hvl hrn hrl hfew hcall hst hule hrun
            go_wp2_with (first | (go_at_call 62; refine (HCALL.out _ ?cc).mono ?_; (case cc => exact HLP.out.cs.step Quiet.go); rintro e w5 ⟨rfl, vs', hvl', hcs', hfr⟩; have HV5 := Aside0.mk hvl'; have HC5 := Aside0.mk hcs'; have W5 := Aside0.mk (CS.acc2 hfr HLP.out.cs HLP.out.row); have HB5 := Aside0.mk (CS.be hfr HLP.out.cs HLP.out.be); clear hvl' hcs' hfr) | ((with_reducible refine gate_builtin (b := .append) (xs := #[.tmp 39, .tmp 43]) rfl ?_); at_builtin; refine Kd.R_append k36 w.heap.size rfl (.tmp 39) (.tmp 43) 29 36 (.agg #[.bool false, .bool false, .bool false]) 3 rfl Try.underlying29 info36 rfl (by decide) (by omega) (.slice A' acc.length c') acc ⟨b1, false, b2⟩ [.bool b1, .bool false, .bool b2] (fun _ => True) (fun _ => False) rfl (by first | (go_simp; done) | (go_simp; rfl)) (k36_mkM _ _ _ ⟨b1, false, b2⟩) (fun _ hk => hk.elim) (fun _ _ => trivial) W5.out (Below.refl _ _) HB5.out.size (by have := HAL.out; omega) ?_; intro v7 w9 ho hb hg hat; obtain ⟨A9, c9, rfl⟩ := Kd.R_slice ho; rw [show (acc ++ [(⟨b1, false, b2⟩ : S36)]).length = acc.length + 1 from by simp] at ho; have HO9 := Aside0.mk ho; have HG9 := Aside0.mk hg; clear ho hb hg hat))
            go_roundg (l.length - (kk + 1))
            case measure => omega
            case rel =>
              have F9 : Fr (fun k => (Value.slice A' acc.length c').ownBlock = some k) w5 w9 := (Fr.refl _ w5).grown HG9.out (fun k hk => .inl hk)
              have hrun := HRUN.out
              have hal := HAL.out
              refine ⟨kk + 1, A9, c9, acc ++ [⟨b1, false, b2⟩], vs', rows.set r row', by omega, by omega, by go_num, by simp, ⟨HC5.out.fr F9 (fun k hk => Kd.R_typed W5.out k hk), by rw [HV5.out]; exact HLP.out.vl, fun i xs hi => ?_, by simp [hal], by rw [← hrun]; simp, by simpa using HO9.out, HB5.out.trans (F9.below (fun k hk => Kd.R_base W5.out k hk) HB5.out.size)⟩⟩
              by_cases e : i = r
              · subst e
                have hil := (List.getElem?_eq_some_iff.1 hi).1
                rw [List.length_set] at hil
                rw [List.getElem?_set_self hil] at hi
                injection hi with hi
                subst hi
                exact HUL.out
              · rw [List.getElem?_set_ne (Ne.symm e)] at hi
                exact HLP.out.few i xs hi
          · have hltz : ¬ (kk : Int) < (l.length : Int) := by omega
            have HE : Aside0 (kk = l.length) := ⟨by omega⟩
            go_wp2
            go_ret
            have hpl := HLP.out.run
            rw [HE.out, List.drop_length] at hpl
            rw [Int.toNat_natCast] at hpl
            simp only [runC, List.append_nil] at hpl
            rw [← hpl]
            exact ⟨_, rfl, HLP.out.row, HLP.out.be⟩
    · rw [if_neg (fun x => hl x.2.1)] at h
      subst h
      have hli : (2000 : Int) < (l.length : Int) := by omega
      go_enter Try.func12, Try.ntmps12
      go_wp2_with (go_at_call 57; refine (impl_isShape.calls s0 s1 s2 true _ HSH.out).mono ?_; rintro e w1 ⟨rfl, hb⟩; have HB1 := Aside0.mk (Fr.step ((Fr.refl (fun _ => False) w).alloc _) hb); clear hb)
      go_ret
      exact ⟨_, rfl, Kd.R_nil _ _ _ _ _, HB1.out.below (fun _ h => h.elim) (Nat.le_refl _)⟩
end Go.Proofs.Ytglehilfemfiiaa.GR
