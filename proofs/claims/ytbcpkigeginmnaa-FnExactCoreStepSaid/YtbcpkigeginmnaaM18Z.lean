/- Told by a program of this session, out of the translation: each function of the group as a plain Lean function, and that Go's call comes to just its answer. Lean checks it. -/
import Derived.Test.YtbcpkigeginmnaaM17Z
import Derived.Test.YtbcpkigeginmnaaM13Z
import Derived.Test.YtbcpkigeginmnaaM4Z
import Derived.Laws.CopyOwn
import Derived.Deep.RegionLaw
import Derived.Test.YtbcpkigeginmnaaM3Z
set_option linter.unusedVariables false
set_option linter.unusedSimpArgs false
section
namespace Go.Proofs.Ytbcpkigeginmnaa.GF
open Go.RowKit Go.Proofs.YtbcpkigeginmnaaW.PrintWords Go.Proofs.YtbcpkigeginmnaaW.PrintLast Go.Proofs.YtbcpkigeginmnaaW.PrintMore Go.Proofs.Ytbcpkigeginmnaa.Q Go.Proofs.Ytbcpkigeginmnaa.Hnd Go.Proofs.Ytbcpkigeginmnaa.Lst
section
variable {P : Program} {ops : Array Oper} {rest : List Oper} {o : Oper} {a : Act} {Q : Exit → Act → World → Prop} {K : Act → World → Prop} {E : Prop} {w w0 : World} {S : Nat → Prop}
theorem fr_setRow {S : Nat → Prop} {w0 w : World} {g : Nat} (h : Fr S w0 w) (hg : S g ∨ w0.heap.size ≤ g) (cs : Array Value) : Fr S w0 (w.setRow g cs) := by
  refine h.trans (T := fun k => k = g) ?_ (fun i hi => by subst hi; exact hg)
  exact ⟨rfl, rfl, rfl, by simp [World.setRow], fun k hk hn => setRow_other w g k cs hn⟩
theorem step_copy1 (hgd : o.guard = none) (d s : Operand) (dT sT : TypeId)
    (ho : o.op = .call { callee := .builtin .copy, args := #[d, s], argTypes := #[dT, sT] }) (elem : TypeId) (hu : P.underlying dT = some (.slice elem)) (hsz : (P.info? elem).map (·.size) = some 1)
    (g off : Nat) (ad : Addr) (dLen dCap sLen sCap : Nat) (hd : a.eval d = .slice (some ⟨g, off, none⟩) dLen dCap) (hs : a.eval s = .slice (some ad) sLen sCap)
    (cur : List Value) (t : TypeId) (hg : w.heap[g]? = some (.cells cur.toArray t (0, 0))) (cs : List Value) (hn : cs.length = Nat.min sLen dLen)
    (hsrc : ∀ j v, cs[j]? = some v → w.cell? (ad.add j) = some v) (hfit : off + cs.length ≤ cur.length) (h1 : ∀ v ∈ cs, v.oneCell' = true) (hf : Fr S w0 w) (hS : S g ∨ w0.heap.size ≤ g)
    (h : ∀ w', w'.heap[g]? = some (.cells (splice cur off cs).toArray t (0, 0)) → Fr S w0 w' → Fr (fun k => k = g) w w' → K (a.put o.dst (goInt cs.length)) w') :
    if Region.wanted o (yielded ops a.tmps) = true then Oper.wp P o a w K Q else E := by
  have hw : Region.wanted o (yielded ops a.tmps) = true := by simp [Region.wanted, hgd]
  rw [if_pos hw]
  have hrun := run_copy_row (P := P) w dT sT o.type elem g off dLen dCap ad sLen sCap cur.toArray t cs hu hsz hg hn hsrc (by simpa using hfit) h1
  unfold Oper.wp
  simp [execOp, ho, resolve, invoke, builtin, hd, hs, hrun, Result.andThen]
  refine h _ ?_ (fr_setRow hf hS _) (fr_setRow (Fr.refl (fun k => k = g) w) (.inl rfl) _)
  simpa [splice] using setRow_heap w g _ (cur.take off ++ (cs ++ cur.drop (off + cs.length))).toArray t _ hg
end
variable {W : World} {base g n c : Nat} {ok : Nat → Prop} {xs : List Int}
theorem RB_cells (h : Kd.R (Kd.int .u8) 5 W base ok (.slice (some ⟨g, 0, none⟩) n c) xs) :
    n = xs.length ∧ base ≤ g ∧ n ≤ c ∧ c ≤ maxLen ∧ ok g ∧ ∃ spare : List Value, W.heap[g]? = some (.cells (encs (Value.int .u8) xs ++ spare).toArray 5 (0, 0)) ∧ (encs (Value.int .u8) xs ++ spare).length = c := by
  have hok := h.1 g rfl
  obtain ⟨hl, hw⟩ := Kd.own_of_R h
  rcases hw with ⟨e, _⟩ | ⟨g', cap', cur, e, hb, hh, hc, hm, hs, ht⟩
  · cases e
  · injection e with e1 e2 e3
    injection e1 with e1
    injection e1 with e1
    subst e1; subst e3
    refine ⟨e2, hb, e2 ▸ hc, hm, hok, cur.toList.drop (xs.length * 1), ?_, ?_⟩
    · rw [← ht, List.take_append_drop]
      exact hh
    · rw [← ht, List.take_append_drop, Array.length_toList, hs, Nat.mul_one]
theorem RB_of_cells {spare : List Value} (hb : base ≤ g) (hok : ok g) (hh : W.heap[g]? = some (.cells (encs (Value.int .u8) xs ++ spare).toArray 5 (0, 0))) (hl : (encs (Value.int .u8) xs ++ spare).length = c) (hn : n = xs.length) (hc : n ≤ c) (hm : c ≤ maxLen) :
    Kd.R (Kd.int .u8) 5 W base ok (.slice (some ⟨g, 0, none⟩) n c) xs := by
  subst hn
  refine Kd.R_of_own ⟨by simp [encs], .inr ⟨g, c, _, rfl, hb, hh, hc, hm, by rw [List.size_toArray, hl, Nat.mul_one], ?_⟩⟩ (fun k hk => ?_)
  · rw [Nat.mul_one, show xs.length = (encs (Value.int .u8) xs).length by simp [encs]]
    simp
  · have : g = k := by simpa [Value.ownBlock] using hk
    exact this ▸ hok
theorem splice_putB (row bs : List Int) (spare : List Value) (o : Nat) (h : o + bs.length ≤ row.length) : splice (encs (Value.int .u8) row ++ spare) o (encs (Value.int .u8) bs) = encs (Value.int .u8) (putB row o bs) ++ spare := by
  unfold splice putB encs
  have e1 : o ≤ (row.map (Value.int .u8)).length := by rw [List.length_map]; omega
  have e2 : o + bs.length ≤ (row.map (Value.int .u8)).length := by rw [List.length_map]; omega
  rw [List.length_map, List.take_append_of_le_length e1, List.drop_append_of_le_length e2]
  simp [List.map_take, List.map_drop]
theorem encs_one (l : List Int) : ∀ v ∈ encs (Value.int .u8) l, v.oneCell' = true := fun v hv => by
  unfold encs at hv
  obtain ⟨x, _, rfl⟩ := List.mem_map.1 hv
  rfl
theorem src_at {bs : List Int} {s j : Nat} {v : Value} {sp : List Value} (h : (encs (Value.int .u8) (bs.take s))[j]? = some v) : (encs (Value.int .u8) bs ++ sp)[j]? = some v := by
  unfold encs at h ⊢
  rw [List.map_take, List.getElem?_take] at h
  split at h
  · rw [List.getElem?_append_left (List.getElem?_eq_some_iff.1 h).1]
    exact h
  · cases h
theorem cut_run (go nr co o : Nat) (h1 : o < nr) (h2 : nr ≤ co) (W : World) : (Instr.slice 68 (.slice (some ⟨go, 0, none⟩) nr co) (some (.int .i64 (o : Int))) none none).run Try.prog W = .ok (.slice (some ⟨go, o, none⟩) (nr - o) (co - o)) W := by
  have h3 : ¬ co = o := by omega
  have hu := Try.underlying68
  go_simp
  exact fun hlt => absurd hlt (by omega)
theorem take_run (gb n cb s : Nat) (h1 : s ≤ cb) (h2 : 0 < s) (W : World) : (Instr.slice 68 (.slice (some ⟨gb, 0, none⟩) n cb) none (some (.int .i64 (s : Int))) none).run Try.prog W = .ok (.slice (some ⟨gb, 0, none⟩) s cb) W := by
  have hu := Try.underlying68
  go_simp
set_option maxHeartbeats 8000000 in
set_option maxRecDepth 100000 in
theorem store_calls (w0 W : World) (lo hi gp ty : Nat) (bx : Array Value) (v0 v2 : Value) (r : List Int) (ram : List (List Int)) (A : Option Addr) (c : Nat) (l : List S70) (a x : Int) (s i o K : Nat) (bs : List Int)
    (hB : Below w0.heap.size w0 W) (hG : Gst w0 W lo hi v0 v2 r ram) (hl : Kd.C k70 w0 A l.length l) (hc : l.length ≤ c)
    (hbx : W.heap[gp]? = some (.cells bx ty (0, 0))) (hb2 : bx[2]? = some v2) (hgp : ¬ (lo ≤ gp ∧ gp < hi))
    (hfa : impl_faultAt.f K l a (s : Int) 2 = some 0) (hat : impl_windowAt.f l (wrap64 a) = some (i : Int)) (hbs : impl_BytesOf.f x = some bs) (hi1 : i < l.length) (hi2 : i < ram.length) (ho : wrap64 a - (rd_T70 l (i : Int)).f0 = (o : Int)) (hs0 : 0 < s) (hs : s ≤ 4) (hb4 : bs.length = 4)
    (hos : o + s ≤ (rd_L2 ram (i : Int)).length) (hlen : (rd_L2 ram (i : Int)).length ≤ 9000000) :
    Calls Try.prog 63 #[.pointer (some ⟨gp, 0, none⟩), .slice A l.length c, .int .u32 a, .int .i64 (s : Int), .int .u32 x] W fun e w' => e = .returned (.int .i64 0) ∧ Gst w0 w' lo hi v0 v2 r (stM ram i o bs s) ∧ Fr (fun k => lo ≤ k ∧ k < hi) W w' := by
  have hu28 := Try.underlying28
  obtain ⟨g, cap, rfl, hg1, hg2, _⟩ := Kd.S_form hG.r2 (by omega)
  obtain ⟨A0, c0, rfl⟩ := Kd.R_slice hG.r0
  have S2 := Kd.S_apart' hG.r2 (Kd.R_typed hG.r0) (by decide)
  obtain ⟨oki, cc, hcl, hM, hcc, hoki, hH⟩ := Kd.S_lend S2 [] (i : Int) (by omega) (by omega)
  rw [Int.toNat_natCast, rd_L2_at] at hM
  obtain ⟨vi, rfl, hRi⟩ := hM
  have hx := hcc 0 _ rfl
  rw [Int.toNat_natCast, show (Kd.slice 5 (Kd.int .u8)).sz = 1 from rfl, Nat.mul_one, Nat.add_zero] at hx
  obtain ⟨nr, hnr⟩ : ∃ nr : Nat, nr = (rd_L2 ram (i : Int)).length := ⟨_, rfl⟩
  obtain ⟨go, co, rfl, hgo1, hgo2, _⟩ := Kd.R_form hRi (by omega)
  rw [← hnr] at hRi hx hH hos hlen
  obtain ⟨hn0, hbg0, hnc, hcm, hogo, spare, hcells, hsl⟩ := RB_cells hRi
  have hgk := hoki go hogo
  obtain ⟨ad, rfl, hw0, _, _⟩ := at_T70 hl (i : Int) (by omega) (by omega)
  rw [Int.toNat_natCast] at hw0
  have hadl := World.block_lt_of_cell? _ _ hw0
  have hbc := kc hbx 2 hb2
  have hge := hG.ge
  have hle := hG.le
  have hgpl := blk_lt hbx
  have hbl : (bs.take s).length = s := by rw [List.length_take]; omega
  have HG := Aside0.mk hG
  have HB := Aside0.mk hB
  have HL := Aside0.mk hl
  have HC := Aside0.mk hc
  have HFA := Aside0.mk hfa
  have HAT := Aside0.mk hat
  have HBS := Aside0.mk hbs
  have HB4 := Aside0.mk hb4
  have HH := Aside0.mk hH
  have HRI := Aside0.mk hRi
  have HGO := Aside0.mk hgo2
  have HOG := Aside0.mk hogo
  have HGK := Aside0.mk hgk
  have HCE := Aside0.mk hcells
  have HSL := Aside0.mk hsl
  have HNR := Aside0.mk hnr
  have HCM := Aside0.mk hcm
  have HBL := Aside0.mk hbl
  have HNC := Aside0.mk hnc
  have HOS := Aside0.mk hos
  have HS4 := Aside0.mk hs
  have HS0 := Aside0.mk hs0
  have HG0 := Aside0.mk (show w0.heap.size ≤ go by omega)
  have N1 := Aside0.mk (show gp ≠ go from fun e => hgp (e ▸ hgk.1.1))
  have N2 := Aside0.mk (show g ≠ go from fun e => hgk.2 e.symm)
  have N3 := Aside0.mk (show (ad.add (i * 3)).block ≠ go by omega)
  have C1 := Aside0.mk hbc
  have C2 := Aside0.mk hx
  have C3 := Aside0.mk ((hB.cell hadl).trans hw0)
  have L1 := Aside0.mk hgpl
  have L2 := Aside0.mk hg2
  have L3 := Aside0.mk (show (ad.add (i * 3)).block < W.heap.size by have := hB.size; omega)
  have b1 : (0 : Int) ≤ (i : Int) := by omega
  have b2 : (i : Int) < (ram.length : Int) := by omega
  have b3 : (i : Int) < (l.length : Int) := by omega
  have q4 := cut_run go nr co o (by omega) hnc
  have q6 : ∀ n cb : Nat, s ≤ cb → ∀ gb W', (Instr.slice 68 (.slice (some ⟨gb, 0, none⟩) n cb) none (some (.int .i64 (s : Int))) none).run Try.prog W' = .ok (.slice (some ⟨gb, 0, none⟩) s cb) W' := fun n cb h gb W' => take_run gb n cb s h hs0 W'
  have Q6 := Aside0.mk q6
  have e1 : IntKind.i64.wrap (wrap64 a - (rd_T70 l (i : Int)).f0) = (o : Int) := by rw [ho, IntWalk.i64_in _ (by omega)]
  have b4 : (0 : Int) ≤ (o : Int) := by omega
  have b5 : (o : Int) ≤ (nr : Int) := by omega
  have b6 : (nr : Int) ≤ (co : Int) := by omega
  have b7 : (o : Int) ≤ (co : Int) := by omega
  have b8 : ¬ co = o := by omega
  have e1b : IntKind.i64.wrap (IntKind.i64.wrap a - (rd_T70 l (i : Int)).f0) = (o : Int) := by rw [i64_w a]; exact e1
  clear hn0 hbg0 hG hB hl hc hbx hb2 hgp hfa hat hbs hb4 hi1 hi2 ho hs0 hs hos hlen S2 hcl hcc hoki hH hx hnr hgo1 hgo2 hRi hnc hcm hogo hcells hsl hgk hw0 hadl hbc hge hle hgpl hbl hg1 hg2 q6
  go_enter Try.func63, Try.ntmps63
  go_wp2_with (first | (go_at_call 81; refine (impl_faultAt.calls K (some ad) c l a (s : Int) 2 0 _ (cq (Kd.C_below HL.out HB.out)) HC.out HFA.out).mono ?_; rintro e w1 ⟨rfl, hb'⟩; have F1 := Aside0.mk ((Fr.refl (fun _ => False) W).step hb'); clear hb') | (go_at_call 82; refine (impl_windowAt.calls (some ad) c l (wrap64 a) (i : Int) _ (cq (Kd.C_below HL.out (HB.out.trans (F1.out.below (fun _ h => h.elim) HB.out.size)))) HC.out HAT.out).mono ?_; rintro e w2 ⟨rfl, hb'⟩; have F2 := Aside0.mk ((fq F1.out).step hb'); clear hb'))
  have x1 := (F2.out.cell (p := ⟨gp, 2, none⟩) L1.out (fun h => h)).trans C1.out
  have x2 := (F2.out.cell (p := ⟨g, i, none⟩) L2.out (fun h => h)).trans C2.out
  have x3 := (F2.out.cell (p := ad.add (i * 3)) L3.out (fun h => h)).trans C3.out
  go_region_held3 (fun w' => w'.cell? ⟨gp, 2, none⟩ = some (.slice (some ⟨g, 0, none⟩) ram.length cap) ∧ w'.cell? ⟨g, i, none⟩ = some (.slice (some ⟨go, 0, none⟩) nr co) ∧ w'.cell? (ad.add (i * 3)) = some (.int .i64 (rd_T70 l (i : Int)).f0)) (go_keep)
    ((first | (go_at_call 86; refine (impl_BytesOf.calls x bs _ HBS.out).mono ?_; rintro e w3 ⟨vb, rfl, hR, hb'⟩; obtain ⟨gb, cb, rfl, _, _, _⟩ := Kd.R_form hR (by rw [HB4.out]; decide); have F3 := Aside0.mk ((fq F2.out).step hb'); have HRB := Aside0.mk (RB_cells hR); clear hR hb'; have z1 := (F3.out.cell (p := ⟨gp, 2, none⟩) L1.out (fun h => h)).trans C1.out; have z2 := (F3.out.cell (p := ⟨g, i, none⟩) L2.out (fun h => h)).trans C2.out; have z3 := (F3.out.cell (p := ad.add (i * 3)) L3.out (fun h => h)).trans C3.out; have q7 := Q6.out bs.length cb (by have := HRB.out.2.2.1; have := HB4.out; have := HS4.out; omega) gb) | (refine step_copy1 (S := fun k => k = go) (w0 := W) rfl (.tmp 39) (.tmp 43) 68 68 rfl 5 Try.underlying68 (by kernel_rfl) go o ⟨gb, 0, none⟩ (nr - o) (co - o) s cb (by simp [Act.eval, Act.put]) (by simp [Act.eval, Act.put]) (encs (Value.int .u8) (rd_L2 ram (i : Int)) ++ spare) 5 (bq (F3.out.blk HCE.out (fun h => h))) (encs (Value.int .u8) (bs.take s)) ?cn ?cs ?cf ?c1 (fq (F3.out.mono (fun _ h => h.elim))) (.inl rfl) ?_; (case cn => rw [encs_length, HBL.out]; exact (Nat.min_eq_left (by have := HOS.out; omega)).symm); (case cs => intro j v hj; rw [Addr.add_lit, Nat.zero_add]; obtain ⟨_, _, _, _, _, sp, hk, _⟩ := HRB.out; exact (blk_cell (bq hk) j).trans (by rw [List.getElem?_toArray]; exact src_at hj)); (case cf => rw [encs_length, HBL.out, List.length_append, encs_length, ← HNR.out]; have := HOS.out; omega); (case c1 => exact encs_one _); intro w4 hb3 hf3 hf4; have HB3 := Aside0.mk hb3; have F4 := Aside0.mk hf3; clear hb3 hf3 hf4; have y1 := (F4.out.cell (p := ⟨gp, 2, none⟩) L1.out N1.out).trans C1.out; have y2 := (F4.out.cell (p := ⟨g, i, none⟩) L2.out N2.out).trans C2.out; have y3 := (F4.out.cell (p := ad.add (i * 3)) L3.out N3.out).trans C3.out)))
  all_goals
    go_wp2
    refine bodyPost_ret (v := .int .i64 0) (by simp [results, Try.results63, go_sem]) rfl ?_
    have hb4 := HB3.out
    rw [splice_putB _ _ _ _ (by rw [HBL.out, ← HNR.out]; exact HOS.out)] at hb4
    have hl1 : (putB (rd_L2 ram (i : Int)) o (bs.take s)).length = nr := by rw [putB_length _ _ _ (by rw [HBL.out, ← HNR.out]; exact HOS.out), ← HNR.out]
    have hR1 : Kd.R (Kd.int .u8) 5 w4 w0.heap.size oki (.slice (some ⟨go, 0, none⟩) nr co) (putB (rd_L2 ram (i : Int)) o (bs.take s)) :=
      RB_of_cells HG0.out HOG.out hb4 (by rw [← HSL.out, List.length_append, List.length_append, encs_length, encs_length, hl1, ← HNR.out]) hl1.symm HNC.out HCM.out
    have hH1 := Kd.H_step HH.out (w1 := w4) (fun k hk hn hlt => F4.out.block k hlt (fun e => hn (e ▸ HOG.out)))
    have hS1 := Kd.H_back hH1 (x' := putB (rd_L2 ram (i : Int)) o (bs.take s)) (okp := fun k => some k = (Value.slice (some ⟨go, 0, none⟩) nr co).ownBlock) ⟨_, rfl, Kd.R_tight rfl hR1⟩ (fun k hk => (show go = k by simpa [Value.ownBlock] using hk.symm) ▸ HOG.out)
    rw [Int.toNat_natCast] at hS1
    have FF : Fr (fun k => (lo ≤ k ∧ k < hi) ∧ some k ≠ (Value.slice A0 r.length c0).ownBlock) W w4 := F4.out.mono (fun k hk => hk ▸ HGK.out.1)
    refine ⟨rfl, ⟨?_, ?_, HG.out.ge, Nat.le_trans HG.out.le F4.out.size⟩, ?_⟩
    · exact Kd.R_mono (rq (FF.R (Kd.R_tight rfl HG.out.r0) (fun k hk hs => hs.2 hk))) (fun k hk => HG.out.r0.1 k hk.symm)
    · exact Kd.S_mono hS1 (fun k hk => hk.1)
    · exact fq (FF.mono (fun k hk => hk.1))
theorem store_fault (w0 W : World) (gp : Nat) (A : Option Addr) (c : Nat) (l : List S70) (a x s t : Int) (K : Nat) (hB : Below w0.heap.size w0 W) (hl : Kd.C k70 w0 A l.length l) (hc : l.length ≤ c) (hfa : impl_faultAt.f K l a s 2 = some t) (ht : t ≠ 0) :
    Calls Try.prog 63 #[.pointer (some ⟨gp, 0, none⟩), .slice A l.length c, .int .u32 a, .int .i64 s, .int .u32 x] W fun e w' => e = .returned (.int .i64 t) ∧ Below W.heap.size W w' := by
  have HB := Aside0.mk hB
  have HL := Aside0.mk hl
  have HFA := Aside0.mk hfa
  have tb : (t != 0) = true := bne_iff_ne.mpr ht
  clear hB hl hfa ht
  go_enter Try.func63, Try.ntmps63
  go_wp2_with (go_at_call 81; refine (impl_faultAt.calls K A c l a s 2 t _ (cq (Kd.C_below HL.out HB.out)) hc HFA.out).mono ?_; rintro e w1 ⟨rfl, hb'⟩; have F1 := Aside0.mk hb'; clear hb')
  go_ret
  exact ⟨rfl, F1.out⟩
end Go.Proofs.Ytbcpkigeginmnaa.GF
end
section
namespace Go.Proofs.Ytbcpkigeginmnaa.GF
open Go.RowKit Go.Proofs.YtbcpkigeginmnaaW.PrintWords Go.Proofs.YtbcpkigeginmnaaW.PrintLast Go.Proofs.YtbcpkigeginmnaaW.PrintMore Go.Proofs.Ytbcpkigeginmnaa.Q
attribute [local go_sem] max2_int min2_int max_two min_two max_three min_three max_four min_four   -- for this text's walks alone

mutual
def impl_formOf.j0 : Nat → Int → Bool → Option (Int)
 | 0, _, _ => none
 | k + 1, x10, x11 => if x11 = true then (some 0) else (if x10 = 14 then (impl_formOf.j1 k x10 (x10 == 14)) else (if x10 = 22 then (impl_formOf.j1 k x10 (x10 == 22)) else (if x10 = 28 then (impl_formOf.j1 k x10 (x10 == 28)) else (impl_formOf.j1 k x10 (x10 == 29)))))
def impl_formOf.j1 : Nat → Int → Bool → Option (Int)
 | 0, _, _ => none
 | k + 1, x10, x15 => if x15 = true then (some 9) else (if x10 = 23 then (some 10) else (if x10 = 24 then (some 1) else (if x10 = 32 then (some 8) else (some 11))))
end
def impl_formOf.f (k : Nat) (a0 : Int) : Option (Int) := (impl_within.f a0 0 32).bind fun t650 => (if t650 = true then ((impl_within.f a0 1 12).bind fun t651 => (if t651 = true then (some 7) else (if a0 = 0 then (impl_formOf.j0 k a0 (a0 == 0)) else (if a0 = 30 then (impl_formOf.j0 k a0 (a0 == 30)) else (impl_formOf.j0 k a0 (a0 == 31)))))) else (some (-1)))
set_option maxHeartbeats 8000000 in
set_option maxRecDepth 100000 in
theorem impl_formOf.calls (k : Nat) (a0 : Int) (r : Int) (w : World) (h : impl_formOf.f k a0 = some r) :
  Calls Try.prog 107 #[.int .i64 a0] w fun e w' => e = .returned (.int .i64 r) ∧ Drawn0 w w' := by
 have H : ((impl_within.f a0 0 32).bind fun t650 => (if t650 = true then ((impl_within.f a0 1 12).bind fun t651 => (if t651 = true then (some 7) else (if a0 = 0 then (impl_formOf.j0 k a0 (a0 == 0)) else (if a0 = 30 then (impl_formOf.j0 k a0 (a0 == 30)) else (impl_formOf.j0 k a0 (a0 == 31)))))) else (some (-1)))) = some r := h
 clear h
 replace H := Option.bind_eq_some_iff.mp H
 obtain ⟨t650, A20, H⟩ := H
 (try dsimp only at H)
 have A2 := Aside0.mk A20
 clear A20
 by_cases c3 : t650 = true
 ·subst c3
  rw [if_pos rfl] at H
  replace H := Option.bind_eq_some_iff.mp H
  obtain ⟨t651, A40, H⟩ := H
  (try dsimp only at H)
  have A4 := Aside0.mk A40
  clear A40
  by_cases c5 : t651 = true
  ·subst c5
   rw [if_pos rfl] at H
   obtain rfl := Option.some.inj H
   go_enter Try.func107, Try.ntmps107
   go_wp2_with (first | ((with_reducible refine gate_callee (f := 43) rfl ?_); refine goesL_ (some 5) rfl rfl Try.func43 (by kernel_rfl) rfl #[.int .i64 a0, .int .i64 0, .int .i64 32] rfl (by (try simp only [List.map_toArray, List.map_cons, List.map_nil]); first | done | rfl | (simp only [List.length_drop, List.length_take]; rfl)) ?_; (with_reducible refine (impl_within.calls a0 0 32 true _ A2.out).mono ?_); rintro e w' ⟨rfl, ⟨nd, rfl⟩⟩; refine ⟨_, rfl, ?_⟩) | ((with_reducible refine gate_callee (f := 43) rfl ?_); refine goesL_ (some 9) rfl rfl Try.func43 (by kernel_rfl) rfl #[.int .i64 a0, .int .i64 1, .int .i64 12] rfl (by (try simp only [List.map_toArray, List.map_cons, List.map_nil]); first | done | rfl | (simp only [List.length_drop, List.length_take]; rfl)) ?_; (with_reducible refine (impl_within.calls a0 1 12 true _ A4.out).mono ?_); rintro e w' ⟨rfl, ⟨nd, rfl⟩⟩; refine ⟨_, rfl, ?_⟩))
   go_ret
   exact ⟨by first | rfl | (simp; done) | (simp [*]; done), by repeat (first | exact Drawn0.refl _ | apply Drawn0.step)⟩
  ·replace c5 := Bool.eq_false_iff.mpr c5
   subst c5
   rw [if_neg (show ¬ (false = true) by decide)] at H
   have HC6 := Aside0.mk H
   clear H
   go_enter Try.func107, Try.ntmps107
   go_upto_if 11 with (first | ((with_reducible refine gate_callee (f := 43) rfl ?_); refine goesL_ (some 5) rfl rfl Try.func43 (by kernel_rfl) rfl #[.int .i64 a0, .int .i64 0, .int .i64 32] rfl (by (try simp only [List.map_toArray, List.map_cons, List.map_nil]); first | done | rfl | (simp only [List.length_drop, List.length_take]; rfl)) ?_; (with_reducible refine (impl_within.calls a0 0 32 true _ A2.out).mono ?_); rintro e w' ⟨rfl, ⟨nd, rfl⟩⟩; refine ⟨_, rfl, ?_⟩) | ((with_reducible refine gate_callee (f := 43) rfl ?_); refine goesL_ (some 9) rfl rfl Try.func43 (by kernel_rfl) rfl #[.int .i64 a0, .int .i64 1, .int .i64 12] rfl (by (try simp only [List.map_toArray, List.map_cons, List.map_nil]); first | done | rfl | (simp only [List.length_drop, List.length_take]; rfl)) ?_; (with_reducible refine (impl_within.calls a0 1 12 false _ A4.out).mono ?_); rintro e w' ⟨rfl, ⟨nd, rfl⟩⟩; refine ⟨_, rfl, ?_⟩))
   (try simp only [Act.put, List.setIfInBounds_toArray, List.set_cons_zero, List.set_cons_succ])
   go_cut [11] (fun v11 wc => ∃ (kq : Nat) (x11_5 : Bool), v11 = .bool x11_5 ∧ Aside0 (impl_formOf.j0 kq a0 x11_5 = some r) ∧ Aside0 (kq ≤ k) ∧ Drawn0 w wc)
   case first =>
    have H := HC6.out
    clear HC6
    by_cases c7 : a0 = 0
    ·rw [if_pos c7] at H
     have c7b0 : (a0 == 0) = true := beq_iff_eq.mpr c7
     have c7b1 : (a0 != 0) = false := bne_eq_false_iff_eq.mpr c7
     clear c7
     (first | rw [c7b0] | (simp only [i64_w, i32_w]; rw [c7b0]) | skip)
     have H' := Aside0.mk H
     clear H
     go_wp2
     go_meet
     case rel => exact ⟨_, ((a0 == 0)), (by first | rfl | (simp; done) | (simp [*]; done)), H', ⟨by first | omega | exact Nat.le_refl _⟩, by repeat (first | exact Drawn0.refl _ | apply Drawn0.step)⟩
    ·rw [if_neg c7] at H
     have c7b0 : (a0 == 0) = false := beq_eq_false_iff_ne.mpr c7
     have c7b1 : (a0 != 0) = true := bne_iff_ne.mpr c7
     (first | rw [c7b0] | (simp only [i64_w, i32_w]; rw [c7b0]) | skip)
     by_cases c8 : a0 = 30
     ·rw [if_pos c8] at H
      have c8b0 : (a0 == 30) = true := beq_iff_eq.mpr c8
      have c8b1 : (a0 != 30) = false := bne_eq_false_iff_eq.mpr c8
      clear c8
      have H' := Aside0.mk H
      clear H
      go_wp2
      go_meet
      case rel => exact ⟨_, ((a0 == 30)), (by first | rfl | (simp; done) | (simp [*]; done)), H', ⟨by first | omega | exact Nat.le_refl _⟩, by repeat (first | exact Drawn0.refl _ | apply Drawn0.step)⟩
     ·rw [if_neg c8] at H
      have c8b0 : (a0 == 30) = false := beq_eq_false_iff_ne.mpr c8
      have c8b1 : (a0 != 30) = true := bne_iff_ne.mpr c8
      have H' := Aside0.mk H
      clear H
      go_wp2
      go_meet
      case rel => exact ⟨_, ((a0 == 31)), (by first | rfl | (simp; done) | (simp [*]; done)), H', ⟨by first | omega | exact Nat.le_refl _⟩, by repeat (first | exact Drawn0.refl _ | apply Drawn0.step)⟩
   case rest =>
    clear HC6
    try clear c1
    try clear p2
    try clear c3
    try clear c4
    try clear c5
    try clear c7
    try clear c7b0
    try clear c7b1
    try clear c8
    try clear c8b0
    try clear c8b1
    obtain ⟨kq, x11_5, rfl, HA, HJ5, ⟨mc5, rfl⟩⟩ := hcut
    cases kq with
    | zero => exact absurd HA.out (by simp [impl_formOf.j0])
    | succ kj5 =>
     have H := HA.out
     clear HA
     simp only [impl_formOf.j0] at H
     by_cases c9 : x11_5 = true
     ·subst c9
      rw [if_pos rfl] at H
      obtain rfl := Option.some.inj H
      go_wp2
      go_ret
      exact ⟨by first | rfl | (simp; done) | (simp [*]; done), by repeat (first | exact Drawn0.refl _ | apply Drawn0.step)⟩
     ·replace c9 := Bool.eq_false_iff.mpr c9
      subst c9
      rw [if_neg (show ¬ (false = true) by decide)] at H
      have HC10 := Aside0.mk H
      clear H
      go_upto_if 15 with (fail)
      go_cut [15] (fun v15 wc => ∃ (kq : Nat) (x15_9 : Bool), v15 = .bool x15_9 ∧ Aside0 (impl_formOf.j1 kq a0 x15_9 = some r) ∧ Aside0 (kq ≤ kj5) ∧ Drawn0 w wc)
      case first =>
       have H := HC10.out
       clear HC10
       by_cases c11 : a0 = 14
       ·rw [if_pos c11] at H
        have c11b0 : (a0 == 14) = true := beq_iff_eq.mpr c11
        have c11b1 : (a0 != 14) = false := bne_eq_false_iff_eq.mpr c11
        clear c11
        (first | rw [c11b0] | (simp only [i64_w, i32_w]; rw [c11b0]) | skip)
        have H' := Aside0.mk H
        clear H
        go_wp2
        go_meet
        case rel => exact ⟨_, ((a0 == 14)), (by first | rfl | (simp; done) | (simp [*]; done)), H', ⟨by have := HJ5.out; first | omega | exact Nat.le_refl _⟩, by repeat (first | exact Drawn0.refl _ | apply Drawn0.step)⟩
       ·rw [if_neg c11] at H
        have c11b0 : (a0 == 14) = false := beq_eq_false_iff_ne.mpr c11
        have c11b1 : (a0 != 14) = true := bne_iff_ne.mpr c11
        (first | rw [c11b0] | (simp only [i64_w, i32_w]; rw [c11b0]) | skip)
        by_cases c12 : a0 = 22
        ·rw [if_pos c12] at H
         have c12b0 : (a0 == 22) = true := beq_iff_eq.mpr c12
         have c12b1 : (a0 != 22) = false := bne_eq_false_iff_eq.mpr c12
         clear c12
         have H' := Aside0.mk H
         clear H
         go_wp2
         go_meet
         case rel => exact ⟨_, ((a0 == 22)), (by first | rfl | (simp; done) | (simp [*]; done)), H', ⟨by have := HJ5.out; first | omega | exact Nat.le_refl _⟩, by repeat (first | exact Drawn0.refl _ | apply Drawn0.step)⟩
        ·rw [if_neg c12] at H
         have c12b0 : (a0 == 22) = false := beq_eq_false_iff_ne.mpr c12
         have c12b1 : (a0 != 22) = true := bne_iff_ne.mpr c12
         by_cases c13 : a0 = 28
         ·rw [if_pos c13] at H
          have c13b0 : (a0 == 28) = true := beq_iff_eq.mpr c13
          have c13b1 : (a0 != 28) = false := bne_eq_false_iff_eq.mpr c13
          clear c13
          have H' := Aside0.mk H
          clear H
          go_wp2
          go_meet
          case rel => exact ⟨_, ((a0 == 28)), (by first | rfl | (simp; done) | (simp [*]; done)), H', ⟨by have := HJ5.out; first | omega | exact Nat.le_refl _⟩, by repeat (first | exact Drawn0.refl _ | apply Drawn0.step)⟩
         ·rw [if_neg c13] at H
          have c13b0 : (a0 == 28) = false := beq_eq_false_iff_ne.mpr c13
          have c13b1 : (a0 != 28) = true := bne_iff_ne.mpr c13
          have H' := Aside0.mk H
          clear H
          go_wp2
          go_meet
          case rel => exact ⟨_, ((a0 == 29)), (by first | rfl | (simp; done) | (simp [*]; done)), H', ⟨by have := HJ5.out; first | omega | exact Nat.le_refl _⟩, by repeat (first | exact Drawn0.refl _ | apply Drawn0.step)⟩
      case rest =>
       clear HC10
       try clear c1
       try clear p2
       try clear c3
       try clear c4
       try clear c5
       try clear c7
       try clear c7b0
       try clear c7b1
       try clear c8
       try clear c8b0
       try clear c8b1
       try clear c9
       try clear c10
       try clear c11
       try clear c11b0
       try clear c11b1
       try clear c12
       try clear c12b0
       try clear c12b1
       try clear c13
       try clear c13b0
       try clear c13b1
       try clear p2
       obtain ⟨kq, x15_9, rfl, HA, HJ9, ⟨mc9, rfl⟩⟩ := hcut
       cases kq with
       | zero => exact absurd HA.out (by simp [impl_formOf.j1])
       | succ kj9 =>
        have H := HA.out
        clear HA
        simp only [impl_formOf.j1] at H
        by_cases c14 : x15_9 = true
        ·subst c14
         rw [if_pos rfl] at H
         obtain rfl := Option.some.inj H
         go_wp2
         go_ret
         exact ⟨by first | rfl | (simp; done) | (simp [*]; done), by repeat (first | exact Drawn0.refl _ | apply Drawn0.step)⟩
        ·replace c14 := Bool.eq_false_iff.mpr c14
         subst c14
         rw [if_neg (show ¬ (false = true) by decide)] at H
         by_cases c15 : a0 = 23
         ·rw [if_pos c15] at H
          have c15b0 : (a0 == 23) = true := beq_iff_eq.mpr c15
          have c15b1 : (a0 != 23) = false := bne_eq_false_iff_eq.mpr c15
          clear c15
          obtain rfl := Option.some.inj H
          go_wp2
          go_ret
          exact ⟨by first | rfl | (simp; done) | (simp [*]; done), by repeat (first | exact Drawn0.refl _ | apply Drawn0.step)⟩
         ·rw [if_neg c15] at H
          have c15b0 : (a0 == 23) = false := beq_eq_false_iff_ne.mpr c15
          have c15b1 : (a0 != 23) = true := bne_iff_ne.mpr c15
          by_cases c16 : a0 = 24
          ·rw [if_pos c16] at H
           have c16b0 : (a0 == 24) = true := beq_iff_eq.mpr c16
           have c16b1 : (a0 != 24) = false := bne_eq_false_iff_eq.mpr c16
           clear c16
           obtain rfl := Option.some.inj H
           go_wp2
           go_ret
           exact ⟨by first | rfl | (simp; done) | (simp [*]; done), by repeat (first | exact Drawn0.refl _ | apply Drawn0.step)⟩
          ·rw [if_neg c16] at H
           have c16b0 : (a0 == 24) = false := beq_eq_false_iff_ne.mpr c16
           have c16b1 : (a0 != 24) = true := bne_iff_ne.mpr c16
           by_cases c17 : a0 = 32
           ·rw [if_pos c17] at H
            have c17b0 : (a0 == 32) = true := beq_iff_eq.mpr c17
            have c17b1 : (a0 != 32) = false := bne_eq_false_iff_eq.mpr c17
            clear c17
            obtain rfl := Option.some.inj H
            go_wp2
            go_ret
            exact ⟨by first | rfl | (simp; done) | (simp [*]; done), by repeat (first | exact Drawn0.refl _ | apply Drawn0.step)⟩
           ·rw [if_neg c17] at H
            have c17b0 : (a0 == 32) = false := beq_eq_false_iff_ne.mpr c17
            have c17b1 : (a0 != 32) = true := bne_iff_ne.mpr c17
            obtain rfl := Option.some.inj H
            go_wp2
            go_ret
            exact ⟨by first | rfl | (simp; done) | (simp [*]; done), by repeat (first | exact Drawn0.refl _ | apply Drawn0.step)⟩
 ·replace c3 := Bool.eq_false_iff.mpr c3
  subst c3
  rw [if_neg (show ¬ (false = true) by decide)] at H
  obtain rfl := Option.some.inj H
  go_enter Try.func107, Try.ntmps107
  go_wp2_with (first | ((with_reducible refine gate_callee (f := 43) rfl ?_); refine goesL_ (some 5) rfl rfl Try.func43 (by kernel_rfl) rfl #[.int .i64 a0, .int .i64 0, .int .i64 32] rfl (by (try simp only [List.map_toArray, List.map_cons, List.map_nil]); first | done | rfl | (simp only [List.length_drop, List.length_take]; rfl)) ?_; (with_reducible refine (impl_within.calls a0 0 32 false _ A2.out).mono ?_); rintro e w' ⟨rfl, ⟨nd, rfl⟩⟩; refine ⟨_, rfl, ?_⟩))
  go_ret
  exact ⟨by first | rfl | (simp; done) | (simp [*]; done), by repeat (first | exact Drawn0.refl _ | apply Drawn0.step)⟩

def impl_isImm.f (a0 : Int) : Option (Bool) := (impl_within.f a0 (-8192) 8191).bind fun t652 => (some t652)
set_option maxHeartbeats 8000000 in
set_option maxRecDepth 100000 in
theorem impl_isImm.calls (a0 : Int) (r : Bool) (w : World) (h : impl_isImm.f a0 = some r) :
  Calls Try.prog 108 #[.int .i64 a0] w fun e w' => e = .returned (.bool r) ∧ Drawn0 w w' := by
 have H : ((impl_within.f a0 (-8192) 8191).bind fun t652 => (some t652)) = some r := h
 clear h
 replace H := Option.bind_eq_some_iff.mp H
 obtain ⟨t652, A20, H⟩ := H
 (try dsimp only at H)
 have A2 := Aside0.mk A20
 clear A20
 obtain rfl := Option.some.inj H
 go_enter Try.func108, Try.ntmps108
 go_wp2_with (first | ((with_reducible refine gate_callee (f := 43) rfl ?_); refine goesL_ (some 4) rfl rfl Try.func43 (by kernel_rfl) rfl #[.int .i64 a0, .int .i64 (-8192), .int .i64 8191] rfl (by (try simp only [List.map_toArray, List.map_cons, List.map_nil]); first | done | rfl | (simp only [List.length_drop, List.length_take]; rfl)) ?_; (with_reducible refine (impl_within.calls a0 (-8192) 8191 t652 _ A2.out).mono ?_); rintro e w' ⟨rfl, ⟨nd, rfl⟩⟩; refine ⟨_, rfl, ?_⟩))
 go_ret
 exact ⟨by first | rfl | (simp; done) | (simp [*]; done), by repeat (first | exact Drawn0.refl _ | apply Drawn0.step)⟩



def impl_SarWord.f (a0 : Int) (a1 : Int) : Option (Int) := if 0 ≤ (Int.tmod a1 32) then (some ((shr .i32 (wrap32 (a0)) (Int.tmod a1 32)) % 4294967296)) else (none)
set_option maxHeartbeats 8000000 in
set_option maxRecDepth 100000 in
theorem impl_SarWord.calls (a0 : Int) (a1 : Int) (r : Int) (w : World) (h : impl_SarWord.f a0 a1 = some r) :
  Calls Try.prog 109 #[.int .u32 a0, .int .u32 a1] w fun e w' => e = .returned (.int .u32 r) ∧ Drawn0 w w' := by
 have H : (if 0 ≤ (Int.tmod a1 32) then (some ((shr .i32 (wrap32 (a0)) (Int.tmod a1 32)) % 4294967296)) else (none)) = some r := h
 clear h
 obtain ⟨ji3, hji3⟩ : ∃ j_ : Int, (Int.tmod a1 32) = j_ := ⟨_, rfl⟩
 replace H : (if 0 ≤ (ji3) then (some ((shr .i32 (wrap32 (a0)) (ji3)) % 4294967296)) else (none)) = some r := by first | (rw [hji3] at H; exact H) | (simp only [hji3] at H ⊢; exact H)
 by_cases c4 : 0 ≤ (ji3)
 ·rw [if_pos c4] at H
  have c4b0 := eq_true c4
  have c4b1 : decide (0 ≤ (ji3)) = true := decide_eq_true c4
  clear c4
  obtain ⟨ji5, hji5⟩ : ∃ j_ : Int, (shr .i32 (wrap32 (a0)) (ji3)) = j_ := ⟨_, rfl⟩
  replace H : (some ((ji5) % 4294967296)) = some r := by first | (rw [hji5] at H; exact H) | (simp only [hji5] at H ⊢; exact H)
  have hji5_ : ((wrap32 (a0)) / 2 ^ min (ji3).toNat 32) = ji5 := hji5
  have hji5z : (ji3) ≤ 32 → ((wrap32 (a0)) / 2 ^ (ji3).toNat) = ji5 := shr_small hji5
  obtain rfl := Option.some.inj H
  go_enter Try.func109, Try.ntmps109
  go_wp2
  go_ret
  exact ⟨by first | rfl | (simp; done) | (simp only [← hji3, ← hji5] <;> (first | rfl | simp)) | (simp [*]; done), by repeat (first | exact Drawn0.refl _ | apply Drawn0.step)⟩
 ·rw [if_neg c4] at H
  exact absurd H (by simp)

def impl_bitOf.f (a0 : Bool) : Option (Int) := if a0 = true then (some 1) else (some 0)
set_option maxHeartbeats 8000000 in
set_option maxRecDepth 100000 in
theorem impl_bitOf.calls (a0 : Bool) (r : Int) (w : World) (h : impl_bitOf.f a0 = some r) :
  Calls Try.prog 110 #[.bool a0] w fun e w' => e = .returned (.int .u32 r) ∧ Drawn0 w w' := by
 have H : (if a0 = true then (some 1) else (some 0)) = some r := h
 clear h
 by_cases c2 : a0 = true
 ·subst c2
  rw [if_pos rfl] at H
  obtain rfl := Option.some.inj H
  go_enter Try.func110, Try.ntmps110
  go_wp2
  go_ret
  exact ⟨by first | rfl | (simp; done) | (simp [*]; done), by repeat (first | exact Drawn0.refl _ | apply Drawn0.step)⟩
 ·replace c2 := Bool.eq_false_iff.mpr c2
  subst c2
  rw [if_neg (show ¬ (false = true) by decide)] at H
  obtain rfl := Option.some.inj H
  go_enter Try.func110, Try.ntmps110
  go_wp2
  go_ret
  exact ⟨by first | rfl | (simp; done) | (simp [*]; done), by repeat (first | exact Drawn0.refl _ | apply Drawn0.step)⟩

def impl_LessWord.f (a0 : Int) (a1 : Int) : Option (Bool) := some (decide ((wrap32 (a0)) < (wrap32 (a1))))
set_option maxHeartbeats 8000000 in
set_option maxRecDepth 100000 in
theorem impl_LessWord.calls (a0 : Int) (a1 : Int) (r : Bool) (w : World) (h : impl_LessWord.f a0 a1 = some r) :
  Calls Try.prog 111 #[.int .u32 a0, .int .u32 a1] w fun e w' => e = .returned (.bool r) ∧ Drawn0 w w' := by
 have H : (some (decide ((wrap32 (a0)) < (wrap32 (a1))))) = some r := h
 clear h
 obtain rfl := Option.some.inj H
 go_enter Try.func111, Try.ntmps111
 go_wp2
 go_ret
 exact ⟨by first | rfl | (simp; done) | (simp [*]; done), by repeat (first | exact Drawn0.refl _ | apply Drawn0.step)⟩

end Go.Proofs.Ytbcpkigeginmnaa.GF
end
