/- slices.Insert of one way at the head of a row, walked by hand. -/
import Derived.Test.YtglehilfemfiiaaCcdU
import Derived.Lib.Overlaps
namespace Go.Proofs.Ytglehilfemfiiaa.GU
open Go.RowKit Go.Proofs.YtglehilfemfiiaaW.PrintWords Go.Proofs.YtglehilfemfiiaaW.PrintLast Go.Proofs.YtglehilfemfiiaaW.PrintMore Go.Proofs.Ytglehilfemfiiaa.Q Go.Proofs.Ytglehilfemfiiaa.Hnd
set_option linter.unusedVariables false
set_option linter.unusedSimpArgs false
/-- What Insert leaves: the row with the new way ahead, in the old block or a new one. -/
def InsPost (W : World) (base : Nat) (v : Value) (x : S118) (l : List S118) (e : Ending) (w' : World) : Prop :=
  ∃ v' : Value, e = .returned v' ∧ Kd.R k118 118 w' base (fun _ => True) v' (x :: l) ∧ Fr (fun k => v.ownBlock = some k) W w' ∧ ∀ k, v'.ownBlock = some k → v.ownBlock = some k ∨ W.heap.size ≤ k
theorem k118_C1 {W : World} {gv : Nat} {x : S118} (hv : W.heap[gv]? = some (.cells #[.int .i64 x.f0, .bool x.f1] 118 (0, 0))) : Kd.C k118 W (some ⟨gv, 0, none⟩) 1 [x] :=
  (Kd.R_reads' (R_of_cells (xs := [x]) (spare := []) (c := 1) (n := 1) (base := 0) (ok := fun _ => True) (Nat.zero_le _) trivial hv rfl rfl (Nat.le_refl _) (by decide))).2.2
set_option maxHeartbeats 4000000 in
set_option maxRecDepth 100000 in
theorem ins_nil (A : Option Addr) (c gv : Nat) (x : S118) (W : World) (base : Nat) (hr : Kd.R k118 118 W base (fun _ => True) (.slice A 0 c) []) (hv : W.heap[gv]? = some (.cells #[.int .i64 x.f0, .bool x.f1] 118 (0, 0))) (hb : base ≤ W.heap.size) :
    Calls Try.prog 99 #[.slice A 0 c, .int .i64 0, .slice (some ⟨gv, 0, none⟩) 1 1] W (InsPost W base (.slice A 0 c) x []) := by
  have hu116 := Try.underlying116
  have HR := Aside0.mk hr
  have HV := Aside0.mk (k118_C1 hv)
  have HB0 := Aside0.mk hb
  clear hr hv hb
  go_enter Try.func99, Try.ntmps99
  go_wp2_with ((with_reducible refine gate_builtin (b := .append) (xs := #[.tmp 23, .tmp 24]) rfl ?_); at_builtin; refine Kd.R_append_rows k118 (w0 := W) base rfl (.tmp 23) (.tmp 24) 116 118 (.agg #[.int .i64 0, .bool false]) 16 rfl Try.underlying116 info118 rfl (by decide) (by omega) (.slice A 0 c) [] [x] _ _ _ (fun _ => True) (fun _ => False) rfl rfl ?aO ?aR (fun _ _ h => h) (fun _ h => h.elim) ?aF ?aB ?aS ?aL ?_; (case aR => exact HV.out); (case aB => exact Below.refl _ _); (case aF => exact (fun _ _ => trivial)); (case aO => exact HR.out); (case aS => exact HB0.out); (case aL => decide); intro v1 w1 ho hbel hg hat; have HO := Aside0.mk ho; have HG := Aside0.mk hg; have HAT := Aside0.mk hat; clear ho hbel hg hat)
  go_ret
  exact ⟨v1, rfl, HO.out, (Fr.refl _ W).grown HG.out (fun k hk => .inl hk), fun k hk => by
    rcases HAT.out with e | ⟨b, e, hle⟩
    · exact .inl (e ▸ hk)
    · rw [e] at hk
      injection hk with hk
      exact .inr (hk ▸ hle)⟩
theorem splice_a (Z : List Value) (a b : Value) (C : List Value) (h : 2 + C.length ≤ Z.length) : splice (splice Z 0 [a, b]) 2 C = (a :: b :: C) ++ Z.drop (2 + C.length) := by
  unfold splice
  match Z, h with
  | [], h => simp at h <;> omega
  | [_], h => simp at h <;> omega
  | z1 :: z2 :: Z, h =>
    simp [Nat.add_comm 2]
theorem splice_b (Z : List Value) (a b : Value) (C : List Value) (h : 2 + C.length ≤ Z.length) : splice (splice Z 2 C) 0 [a, b] = (a :: b :: C) ++ Z.drop (2 + C.length) := by
  unfold splice
  match Z, h with
  | [], h => simp at h <;> omega
  | [_], h => simp at h <;> omega
  | z1 :: z2 :: Z, h =>
    simp [Nat.add_comm 2]
section
variable {ops : Array Oper} {rest : List Oper} {o : Oper} {a : Act} {Q : Exit → Act → World → Prop}
theorem wpList_zeros {W : World} (hgd : o.guard = none) (s x : Operand) (ho : o.op = .call { callee := .builtin .append, args := #[s, x], argTypes := #[116, 3] })
    (A : Option Addr) (cap m : Nat) (z : Int) (hs : a.eval s = .slice A 0 cap) (hx : a.eval x = .int .i64 z) (hz : z = (m : Int)) (hm : 0 < m) (hcap : cap < m) (hbytes : m * 16 ≤ 140737488355328)
    (h : ∀ c, m ≤ c → c ≤ maxLen → wpList Try.prog ops Q rest (a.put o.dst (.slice (some ⟨W.heap.size, 0, none⟩) m c)) (W.drew.alloc (.cells (zcells m ++ zcells (c - m)).toArray 118))) :
    wpList Try.prog ops Q (o :: rest) a W := by
  subst hz
  obtain ⟨i0, hi, hz0, hz1, hz2⟩ := info_parts info118
  obtain ⟨c, h1, h2, hr⟩ := run_zeros_new (P := Try.prog) W 116 3 o.type 118 i0 (.agg #[.int .i64 0, .bool false]) 2 16 Try.underlying116 Try.underlying3 hi hz0 hz1 hz2 rfl (by omega) (by omega) A cap .i64 m hm hcap hbytes
  refine wpList_plain hgd fun K hK => ?_
  have hh := h c h1 h2
  rw [zeroCells_eq, zeroCells_eq] at hr
  rw [List.append_toArray] at hr
  unfold Oper.wp execOp
  simp only [ho, resolve, invoke, builtin, Sem.run_bind, Sem.run_pure, Result.andThen_ok, List.map_toArray, List.map_cons, List.map_nil, hs, hx, hr]
  exact hK _ _ hh
end
set_option maxHeartbeats 4000000 in
set_option maxRecDepth 100000 in
theorem ins_new (g m gv : Nat) (x : S118) (l : List S118) (W : World) (base : Nat) (hr : Kd.R k118 118 W base (fun _ => True) (.slice (some ⟨g, 0, none⟩) (m + 1) (m + 1)) l) (hv : W.heap[gv]? = some (.cells #[.int .i64 x.f0, .bool x.f1] 118 (0, 0))) (hb : base ≤ W.heap.size) (hm : m < 1000) :
    Calls Try.prog 99 #[.slice (some ⟨g, 0, none⟩) (m + 1) (m + 1), .int .i64 0, .slice (some ⟨gv, 0, none⟩) 1 1] W (InsPost W base (.slice (some ⟨g, 0, none⟩) (m + 1) (m + 1)) x l) := by
  have hu116 := Try.underlying116
  obtain ⟨hml, hbg, hlc, hcm, hok, spare, hh, hl2⟩ := R_cells hr
  have HH := Aside0.mk hh
  have HV := Aside0.mk hv
  have HB0 := Aside0.mk hb
  have HML := Aside0.mk hml
  have hne1 : ((0 : Int) == (m : Int) + 1) = false := beq_eq_false_iff_ne.mpr (by omega)
  have hgt : (m : Int) + 1 + 1 > (m : Int) + 1 := by omega
  have HG := Aside0.mk (blk_lt hh)
  have HGV := Aside0.mk (blk_lt hv)
  clear hr hh hv hb hlc hcm hok hl2 hml
  go_enter Try.func99, Try.ntmps99
  obtain ⟨C2, hC2⟩ : ∃ C : List Value, C = [.int .i64 x.f0, .bool x.f1] := ⟨_, rfl⟩
  have HC2 := Aside0.mk hC2
  clear hC2
  go_wp2_with (first | ((with_reducible refine gate_builtin (b := .append) (xs := #[.tmp 34, .tmp 39]) rfl ?_); at_builtin; refine wpList_zeros (W := W) rfl (.tmp 34) (.tmp 39) rfl _ _ (m + 2) _ rfl rfl (by omega) (by omega) (by omega) (by omega) ?_; intro c2 hc2 hc3) | ((with_reducible refine gate_builtin (b := .copy) (xs := #[.tmp 43, .tmp 44]) rfl ?_); refine wpList_copyN (S := fun _ => False) (w0 := W) rfl (.tmp 43) (.tmp 44) 116 116 rfl 118 2 Try.underlying116 (by kernel_rfl) W.heap.size 0 ⟨gv, 0, none⟩ (m + 2) c2 1 1 (by rfl) (by rfl) (zcells (m + 2) ++ zcells (c2 - (m + 2))) 118 (new_at (by simp)) C2 ?cn ?cs ?cf ?c1 (((Fr.refl _ W).drew).alloc _) (.inr (Nat.le_refl _)) ?_; (case cn => rw [HC2.out]; simp); (case cs => rw [HC2.out]; intro j v hj; rw [Addr.add_lit, Nat.zero_add]; exact (blk_cell (bq HV.out) j).trans (by simpa using hj)); (case cf => rw [HC2.out]; simp [zcells_len]; omega); (case c1 => rw [HC2.out]; intro v hv; simp at hv; rcases hv with rfl | rfl <;> rfl); intro w2 hb2 hf2 hf3; have HB2 := Aside0.mk hb2; have HF2 := Aside0.mk hf2; clear hb2 hf2 hf3))
  have HK := Aside0.mk (HF2.out.blk HH.out (fun h => h))
  obtain ⟨C, hC⟩ : ∃ C : List Value, C = cellsW l := ⟨_, rfl⟩
  have HC := Aside0.mk hC
  have HCL := Aside0.mk (show C.length = (m + 1) * 2 by rw [hC, cellsW_len, ← HML.out])
  clear hC
  have q1 : ¬ c2 = 1 := by omega
  have q2 : (1 : Int) ≤ (m : Int) + 2 := by omega
  have q3 : (1 : Int) ≤ (m : Int) + 1 + 1 := by omega
  have q4 : (0 : Int) ≤ (m : Int) + 1 := by omega
  have CF := Aside0.mk (show 2 + C.length ≤ (splice (zcells (m + 2) ++ zcells (c2 - (m + 2))) 0 C2).length by
    rw [HCL.out, length_splice _ _ _ (by rw [HC2.out]; simp [zcells_len]; omega), List.length_append, zcells_len, zcells_len]; omega)
  have CN := Aside0.mk (show C.length = Nat.min (m + 1) (m + 1) * 2 by rw [HCL.out]; simp)
  have HX : Aside0 (∀ w3 : World, w3.heap[W.heap.size]? = some (.cells (splice (splice (zcells (m + 2) ++ zcells (c2 - (m + 2))) 0 C2) 2 C).toArray 118 (0, 0)) → Kd.R k118 118 w3 base (fun _ => True) (.slice (some ⟨W.heap.size, 0, none⟩) (m + 2) c2) (x :: l)) := ⟨fun w3 h1 => by
    have hl : 2 + C.length ≤ (zcells (m + 2) ++ zcells (c2 - (m + 2))).length := by rw [HCL.out, List.length_append, zcells_len, zcells_len]; omega
    have h3 := HCL.out
    rw [HC2.out, splice_a _ _ _ _ hl, HC.out] at h1
    rw [HC.out] at h3 hl
    refine R_of_cells HB0.out trivial (xs := x :: l) h1 ?_ (by rw [List.length_cons, ← HML.out]) hc2 hc3
    rw [List.length_append, List.length_drop, List.length_append, zcells_len, zcells_len]
    simp only [cellsW, List.length_cons, h3]
    omega⟩
  have HQ := Aside0.mk hc2
  have HQ3 := Aside0.mk hc3
  clear hc2 hc3
  have hw1 : IntKind.i64.wrap 1 = 1 := by rw [IntKind.wrap_i64]; rfl
  go_region_law ((refine step_copyN (S := fun _ => False) (w0 := W) rfl (.tmp 50) (.tmp 53) 116 116 rfl 118 2 Try.underlying116 (by kernel_rfl) W.heap.size 2 ⟨g, 0, none⟩ (m + 1) (c2 - 1) (m + 1) (m + 1) (by simp [Act.eval, Act.put, q1]) (by simp [Act.eval, Act.put]) (splice (zcells (m + 2) ++ zcells (c2 - (m + 2))) 0 C2) 118 (blk_drew HB2.out) C CN.out ?cs CF.out ?c1 (HF2.out.drew) (.inr (Nat.le_refl _)) ?_; (case cs => rw [HC.out]; intro j v hj; rw [Addr.add_lit, Nat.zero_add]; exact (blk_cell (blk_drew HK.out) j).trans (by rw [List.getElem?_toArray, List.getElem?_append_left (List.getElem?_eq_some_iff.1 hj).1]; exact hj)); (case c1 => rw [HC.out]; exact cellsW_one _); intro w3 hb3 hf3 hf4; have HB3 := Aside0.mk hb3; have HF3 := Aside0.mk hf3; clear hb3 hf3 hf4))
  clear hw1
  go_wp2
  go_ret
  exact ⟨_, rfl, HX.out _ HB3.out, HF3.out.mono (fun _ h => h.elim), fun k hk => .inr (by have : W.heap.size = k := by simpa [Value.ownBlock] using hk
                                                                                          omega)⟩
set_option maxHeartbeats 1000000 in
set_option maxRecDepth 100000 in
theorem ins_room (g m c gv : Nat) (x : S118) (l : List S118) (W : World) (base : Nat) (hr : Kd.R k118 118 W base (fun _ => True) (.slice (some ⟨g, 0, none⟩) (m + 1) c) l) (hv : W.heap[gv]? = some (.cells #[.int .i64 x.f0, .bool x.f1] 118 (0, 0))) (hgv : gv ≠ g) (hb : base ≤ W.heap.size) (hc : m + 2 ≤ c) :
    Calls Try.prog 99 #[.slice (some ⟨g, 0, none⟩) (m + 1) c, .int .i64 0, .slice (some ⟨gv, 0, none⟩) 1 1] W (InsPost W base (.slice (some ⟨g, 0, none⟩) (m + 1) c) x l) := by
  have hu116 := Try.underlying116
  obtain ⟨hml, hbg, hlc, hcm, hok, spare, hh, hl2⟩ := R_cells hr
  have hcm' : c ≤ 9223372036854775807 := hcm
  have hov : ∀ lb cb, (callFunc 113 #[.slice (some ⟨gv, 0, none⟩) 1 1, .slice (some ⟨g, 2, none⟩) lb cb]).run Try.prog W = .ok (.value (.bool false)) W := fun lb cb => by
    rw [run_callFunc_extern Try.func113 (by kernel_rfl) (by kernel_rfl) (by kernel_rfl) (e := Extern.SlicesOverlaps.overlaps #[116, 116] #[4]) (by kernel_rfl),
      Lib.run_overlaps_apart W 116 4 118 Try.underlying116 2 (fun w => by kernel_rfl) ⟨gv, 0, none⟩ ⟨g, 2, none⟩ 1 1 lb cb hgv 118 118 2 (c * 2)
        (by simp [World.shape?, hv]) (by simp only [World.shape?, hh, List.size_toArray, hl2]) (by omega) (blk_frozen hv 0) (blk_frozen hv 2)]
    rfl
  have HH := Aside0.mk hh
  have HV := Aside0.mk hv
  have HB0 := Aside0.mk hb
  have HML := Aside0.mk hml
  have hne1 : ((0 : Int) == (m : Int) + 1) = false := beq_eq_false_iff_ne.mpr (by omega)
  have hgt : ¬ (m : Int) + 1 + 1 > (c : Int) := by omega
  have HCM := Aside0.mk hcm
  have HGV := Aside0.mk hgv
  obtain ⟨L, hL⟩ : ∃ L, L = cellsW l ++ spare := ⟨_, rfl⟩
  rw [← hL] at hl2
  have HH := Aside0.mk (show W.heap[g]? = some (.cells L.toArray 118 (0, 0)) by rw [hL]; exact hh)
  obtain ⟨C2, hC2⟩ : ∃ C : List Value, C = [.int .i64 x.f0, .bool x.f1] := ⟨_, rfl⟩
  have HC2 := Aside0.mk hC2
  obtain ⟨C, hC⟩ : ∃ C : List Value, C = cellsW l := ⟨_, rfl⟩
  have HC := Aside0.mk hC
  have HCL := Aside0.mk (show C.length = (m + 1) * 2 by rw [hC, cellsW_len, ← hml])
  have q1 : ¬ c = 1 := by omega
  have q0 : ¬ c = 0 := by omega
  have q2 : (1 : Int) ≤ (m : Int) + 2 := by omega
  have q3 : (m : Int) + 1 + 1 ≤ (c : Int) := by omega
  have q4 : (0 : Int) ≤ (m : Int) + 2 := by omega
  have q5 : m + 2 ≤ c := hc
  have HCJ := Aside0.mk (show ∀ (j : Nat) (v : Value), C[j]? = some v → L.toArray[j]? = some v by intro j v hj; rw [List.getElem?_toArray, hL, ← hC, List.getElem?_append_left (List.getElem?_eq_some_iff.1 hj).1]; exact hj)
  have CF := Aside0.mk (show 2 + C.length ≤ L.length by rw [HCL.out, hl2]; omega)
  have CG := Aside0.mk (show 0 + C2.length ≤ (splice L 2 C).length by rw [length_splice _ _ _ CF.out, HC2.out, hl2]; simp; omega)
  have CN := Aside0.mk (show C.length = Nat.min (m + 2) (m + 1) * 2 by rw [HCL.out]; simp [Nat.min_def])
  have HX : Aside0 (∀ w3 : World, w3.heap[g]? = some (.cells (splice (splice L 2 C) 0 C2).toArray 118 (0, 0)) → Kd.R k118 118 w3 base (fun _ => True) (.slice (some ⟨g, 0, none⟩) (m + 2) c) (x :: l)) := ⟨fun w3 h1 => by
    have hl := CF.out
    have h3 := HCL.out
    rw [HC2.out, splice_b _ _ _ _ hl, HC.out] at h1
    rw [HC.out] at h3 hl
    refine R_of_cells hbg trivial (xs := x :: l) h1 ?_ (by rw [List.length_cons, ← HML.out]) hc hcm
    rw [List.length_append, List.length_drop, hl2]
    simp only [cellsW, List.length_cons, h3]
    omega⟩
  clear hr hh hv hb hlc hcm hok hl2 hml hL hC2 hC hgv hc hbg
  go_enter Try.func99, Try.ntmps99
  go_wp2_with (simp only [hov])
  have q6 : (0 : Int) ≤ (m : Int) + 1 + 1 := by omega
  have q7 : (1 : Int) ≤ (m : Int) + 1 + 1 := by omega
  have hw1 : IntKind.i64.wrap 1 = 1 := by rw [IntKind.wrap_i64]; rfl
  go_region_law ((refine step_copyN (S := fun k => k = g) (w0 := W) rfl (.tmp 73) (.tmp 76) 116 116 rfl 118 2 Try.underlying116 (by kernel_rfl) g 2 ⟨g, 0, none⟩ (m + 1) (c - 1) (m + 1 + 1) c (by simp [Act.eval, Act.put, q1]) (by simp [Act.eval, Act.put]) L 118 (blk_drew HH.out) C CN.out ?cs CF.out ?c1 ((Fr.refl (fun k => k = g) W).drew) (.inl rfl) ?_; (case cs => intro j v hj; rw [Addr.add_lit, Nat.zero_add]; exact (blk_cell (blk_drew HH.out) j).trans (HCJ.out j v hj)); (case c1 => rw [HC.out]; exact cellsW_one _); intro w2 hb2 hf2 hf3; have HB2 := Aside0.mk hb2; have HF2 := Aside0.mk hf2; clear hb2 hf2 hf3))
  clear hw1
  have HV2 := Aside0.mk (HF2.out.blk HV.out HGV.out)
  go_wp2_with ((with_reducible refine gate_builtin (b := .copy) (xs := #[.tmp 80, .tmp 81]) rfl ?_); refine wpList_copyN (S := fun k => k = g) (w0 := W) rfl (.tmp 80) (.tmp 81) 116 116 rfl 118 2 Try.underlying116 (by kernel_rfl) g 0 ⟨gv, 0, none⟩ (m + 1 + 1) c 1 1 (by simp [Act.eval, Act.put]) (by simp [Act.eval, Act.put]) (splice L 2 C) 118 HB2.out C2 ?cn ?cs CG.out ?c1 HF2.out (.inl rfl) ?_; (case cn => rw [HC2.out]; simp); (case cs => rw [HC2.out]; intro j v hj; rw [Addr.add_lit, Nat.zero_add]; exact (blk_cell HV2.out j).trans (by simpa using hj)); (case c1 => rw [HC2.out]; intro v hv; simp at hv; rcases hv with rfl | rfl <;> rfl); intro w3 hb3 hf3 hf4; have HB3 := Aside0.mk hb3; have HF3 := Aside0.mk hf3; clear hb3 hf3 hf4)
  go_ret
  exact ⟨_, rfl, HX.out _ HB3.out, HF3.out.mono (fun k hk => by subst hk; rfl), fun k hk => .inl hk⟩
end Go.Proofs.Ytglehilfemfiiaa.GU
