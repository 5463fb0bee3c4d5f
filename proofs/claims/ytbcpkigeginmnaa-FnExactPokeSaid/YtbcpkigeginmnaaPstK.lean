/- The program's store into a guest's memory, walked by hand. -/
import Derived.Test.YtbcpkigeginmnaaGFx0K
import Derived.Test.YtbcpkigeginmnaaGFx13K
import Derived.Test.YtbcpkigeginmnaaGFx25K
import Derived.Test.YtbcpkigeginmnaaMrgK
import Derived.Deep.RegionHeld3
import Derived.Test.YtbcpkigeginmnaaGFx12K
import Derived.Test.YtbcpkigeginmnaaWinFK
import Derived.Laws.CopyOwn
import Derived.Deep.RegionLaw
section
namespace Go.Proofs.Ytbcpkigeginmnaa.GF
open Go.RowKit Go.Proofs.YtbcpkigeginmnaaW.PrintWords Go.Proofs.YtbcpkigeginmnaaW.PrintLast Go.Proofs.YtbcpkigeginmnaaW.PrintMore Go.Proofs.Ytbcpkigeginmnaa.Q Go.Proofs.Ytbcpkigeginmnaa.Hnd Go.Proofs.Ytbcpkigeginmnaa.Lst
set_option linter.unusedVariables false
set_option linter.unusedSimpArgs false
/-- The row with bytes written from o on. -/
def putB (row : List Int) (o : Nat) (bs : List Int) : List Int := row.take o ++ bs ++ row.drop (o + bs.length)
theorem putB_length (row : List Int) (o : Nat) (bs : List Int) (h : o + bs.length ≤ row.length) : (putB row o bs).length = row.length := by
  unfold putB
  rw [List.length_append, List.length_append, List.length_take, List.length_drop]
  omega
theorem putB_nil (row : List Int) (o : Nat) : putB row o [] = row := by
  unfold putB
  rw [List.append_nil, List.length_nil, Nat.add_zero, List.take_append_drop]
theorem putB_set (row : List Int) (o : Nat) (bs : List Int) (j : Nat) (h : o + j < row.length) (hj : j < bs.length) : (putB row o (bs.take j)).set (o + j) bs[j] = putB row o (bs.take (j + 1)) := by
  have e1 : (bs.take j).length = j := by rw [List.length_take]; omega
  have e2 : (bs.take (j + 1)).length = j + 1 := by rw [List.length_take]; omega
  have e3 : (row.take o ++ bs.take j).length = o + j := by rw [List.length_append, List.length_take, e1]; omega
  unfold putB
  rw [e1, e2, List.set_append_right _ _ (by omega), e3, Nat.sub_self, List.drop_eq_getElem_cons h, List.set_cons_zero, List.take_succ_eq_append_getElem hj]
  simp only [List.append_assoc, List.cons_append, List.nil_append, Nat.add_assoc]
theorem rd_L2_at (ram : List (List Int)) (i : Nat) : ram.getD i [] = rd_L2 ram (i : Int) := by unfold rd_L2; rw [Int.toNat_natCast]
theorem rd_at0 (l : List Int) (i : Nat) (h : i < l.length) : rdOf 0 l (i : Int) = l[i] := by
  unfold rdOf
  rw [Int.toNat_natCast, List.getD_eq_getElem?_getD, List.getElem?_eq_getElem h]
  rfl
/-- Row i of the rows, with the first j bytes written. -/
def stM (ram : List (List Int)) (i o : Nat) (bs : List Int) (j : Nat) : List (List Int) := ram.set i (putB (rd_L2 ram (i : Int)) o (bs.take j))
theorem stM_length (ram : List (List Int)) (i o : Nat) (bs : List Int) (j : Nat) : (stM ram i o bs j).length = ram.length := by unfold stM; rw [List.length_set]
theorem stM_zero (ram : List (List Int)) (i o : Nat) (bs : List Int) (h : i < ram.length) : stM ram i o bs 0 = ram := by
  unfold stM
  rw [List.take_zero, putB_nil, ← rd_L2_at, List.getD_eq_getElem?_getD, List.getElem?_eq_getElem h]
  exact List.set_getElem_self h
theorem stM_get (ram : List (List Int)) (i o : Nat) (bs : List Int) (j : Nat) (h : i < ram.length) : (stM ram i o bs j).getD i [] = putB (rd_L2 ram (i : Int)) o (bs.take j) := by
  unfold stM
  rw [List.getD_eq_getElem?_getD, List.getElem?_set_self h]
  rfl
theorem stM_set (ram : List (List Int)) (i o : Nat) (bs : List Int) (j : Nat) (row : List Int) : (stM ram i o bs j).set i row = ram.set i row := by
  unfold stM
  rw [List.set_set]
set_option maxHeartbeats 8000000 in
set_option maxRecDepth 100000 in
theorem put_calls (w0 W : World) (lo hi : Nat) (v0 v2 : Value) (r : List Int) (p : Int) (ram : List (List Int)) (A : Option Addr) (c : Nat) (l : List S70) (a x : Int) (s i o K : Nat) (bs : List Int)
    (hB : Below w0.heap.size w0 W) (hG : Gst w0 W lo hi v0 v2 r ram) (hl : Kd.C k70 w0 A l.length l) (hc : l.length ≤ c)
    (hat : spec_l07At.f K l a = some (i : Int)) (hbs : spec_BytesOf.f x = some bs) (hi1 : i < l.length) (hi2 : i < ram.length) (ho : a - (rd_T70 l (i : Int)).f0 = (o : Int)) (hs : s ≤ 4) (hb4 : bs.length = 4)
    (hos : o + s ≤ (rd_L2 ram (i : Int)).length) (hlen : (rd_L2 ram (i : Int)).length ≤ 9000000) :
    Calls Try.prog 62 #[.slice A l.length c, .agg #[v0, .int .u32 p, v2], .int .i64 a, .int .i64 (s : Int), .int .u32 x] W fun e w' => e = .returned (.tuple #[]) ∧ Gst w0 w' lo hi v0 v2 r (stM ram i o bs s) ∧ Fr (fun k => lo ≤ k ∧ k < hi) W w' := by
  have hu28 := Try.underlying28
  obtain ⟨g, cap, rfl, hg1, hg2, _⟩ := Kd.S_form hG.r2 (by omega)
  obtain ⟨A0, c0, rfl⟩ := Kd.R_slice hG.r0
  have S2 := Kd.S_apart' hG.r2 (Kd.R_typed hG.r0) (by decide)
  have HG := Aside0.mk hG
  have HB := Aside0.mk hB
  have HL := Aside0.mk hl
  have HAT := Aside0.mk hat
  have HBS := Aside0.mk hbs
  have HB4 := Aside0.mk hb4
  have HS2 := Aside0.mk S2
  have HO := Aside0.mk ho
  have HOS := Aside0.mk hos
  have HLEN := Aside0.mk hlen
  have HI1 := Aside0.mk hi1
  have HI2 := Aside0.mk hi2
  have HS4 := Aside0.mk hs
  clear hG hB hl hat hbs hb4 S2 ho hos hlen
  go_enter Try.func62, Try.ntmps62
  go_wp2_with (first | (go_at_call 84; go_loud (refine (spec_l07At.calls K A c l a (i : Int) _ (cq (Kd.C_below HL.out HB.out)) hc HAT.out).mono ?_; rintro e w1 ⟨rfl, hb'⟩; have F1 := Aside0.mk ((Fr.refl (fun _ => False) W).alloc (.cells #[.slice A0 r.length c0, .int .u32 p, .slice (some ⟨g, 0, none⟩) ram.length cap] 28) |>.step hb'); have K1 := Aside0.mk (blk_below at1_0 hb'); clear hb')) | (go_at_call 85; go_loud (refine (spec_BytesOf.calls x bs _ HBS.out).mono ?_; rintro e w2 ⟨vb, rfl, hR, hb'⟩; have F2 := Aside0.mk ((fq F1.out).step hb'); have K2 := Aside0.mk (blk_below (bq K1.out) hb'); have HR := Aside0.mk hR; have hz2 := hb'.size; clear hR hb')))
  have hz0 : W.heap.size < w1.heap.size := blk_lt K1.out
  obtain ⟨gb, cb, rfl, hgb1, hgb2, _⟩ := Kd.R_form HR.out (by rw [HB4.out]; omega)
  have NB : gb ≠ W.heap.size := (by omega)
  have HRB : Aside0 (Kd.R (Kd.int .u8) 5 w2 W.heap.size (fun k => k = gb) (.slice (some ⟨gb, 0, none⟩) bs.length cb) bs) := ⟨Kd.R_lower (Kd.R_mono (Kd.R_tight rfl HR.out) (fun k hk => by simpa [Value.ownBlock] using hk)) (Nat.le_of_lt hz0)⟩
  have hgz : W.heap.size ≤ gb := by omega
  have HGZ := Aside0.mk hgz
  have HGE := Aside0.mk HG.out.ge
  have HLE := Aside0.mk HG.out.le
  have HS0 : Aside0 (Kd.S (Kd.slice 5 (Kd.int .u8)) 68 w2 w0.heap.size (fun k => (lo ≤ k ∧ k < hi) ∧ some k ≠ (Value.slice A0 r.length c0).ownBlock) (.slice (some ⟨g, 0, none⟩) ram.length cap) (stM ram i o bs 0)) := ⟨by rw [stM_zero ram i o bs HI2.out]; exact Kd.S_step HS2.out (fun k _ hlt => F2.out.block k hlt (fun h => h))⟩
  have HBW := Aside0.mk (HB.out.trans (F2.out.below (fun _ h => h.elim) HB.out.size))
  have HF0 := Aside0.mk (F2.out.mono (T := fun k => (lo ≤ k ∧ k < hi) ∧ some k ≠ (Value.slice A0 r.length c0).ownBlock) (fun _ h => h.elim))
  clear hgz hz0 hz2 hgb1 hgb2 hg1 hg2 hi1 hi2
  go_wp2
  go_loopg [12] s (fun gg s12 wr => ∃ j : Nat, j ≤ s ∧ s - j ≤ gg ∧ s12 = .int .i64 (j : Int) ∧ Aside0 (Kd.S (Kd.slice 5 (Kd.int .u8)) 68 wr w0.heap.size (fun k => (lo ≤ k ∧ k < hi) ∧ some k ≠ (Value.slice A0 r.length c0).ownBlock) (.slice (some ⟨g, 0, none⟩) ram.length cap) (stM ram i o bs j)) ∧ Aside0 (Fr (fun k => (lo ≤ k ∧ k < hi) ∧ some k ≠ (Value.slice A0 r.length c0).ownBlock) W wr) ∧ Aside0 (Below w0.heap.size w0 wr) ∧ Aside0 (wr.heap[W.heap.size]? = some (.cells #[.slice A0 r.length c0, .int .u32 p, .slice (some ⟨g, 0, none⟩) ram.length cap] 28 (0, 0))) ∧ Aside0 (Kd.R (Kd.int .u8) 5 wr W.heap.size (fun k => k = gb) (.slice (some ⟨gb, 0, none⟩) bs.length cb) bs))
  case atStart => exact ⟨0, by omega, by omega, rfl, HS0, HF0, HBW, K2, HRB⟩
  case round =>
    clear HS0 HF0 HBW K2 HRB
    obtain ⟨j, hj, hg, rfl, HSr, HFr, HBr, HKr, HRr⟩ := hrel
    by_cases hlt : j < s
    · have hltz : (j : Int) < (s : Int) := by omega
      obtain ⟨oki, cc, hcl, hM, hcc, hoki, hH⟩ := Kd.S_lend HSr.out [] (i : Int) (by omega) (by have := HI2.out; omega)
      rw [Int.toNat_natCast, stM_get ram i o bs j HI2.out] at hM
      obtain ⟨vi, rfl, hRi⟩ := hM
      have hx := hcc 0 _ rfl
      rw [Int.toNat_natCast, show (Kd.slice 5 (Kd.int .u8)).sz = 1 from rfl, Nat.mul_one, Nat.add_zero] at hx
      have hbl : (bs.take j).length = j := by rw [List.length_take, HB4.out]; omega
      have hrl : (putB (rd_L2 ram (i : Int)) o (bs.take j)).length = (rd_L2 ram (i : Int)).length := putB_length _ _ _ (by rw [hbl]; have := HOS.out; omega)
      obtain ⟨nr, hnr⟩ : ∃ nr : Nat, nr = (rd_L2 ram (i : Int)).length := ⟨_, rfl⟩
      have hos := HOS.out
      have hlen := HLEN.out
      rw [← hnr] at hrl hos hlen
      obtain ⟨go, co, rfl, hgo1, hgo2, _⟩ := Kd.R_form hRi (by rw [hrl]; omega)
      rw [hrl] at hRi hx hH
      obtain ⟨m, hm⟩ : ∃ m : Nat, m = o + j := ⟨_, rfl⟩
      obtain ⟨hy, hyf⟩ := Kd.R_celln 0 hRi (m : Int) (by omega) (by omega)
      rw [Int.toNat_natCast] at hy hyf
      have hjb : j < bs.length := by rw [HB4.out]; omega
      obtain ⟨hb, _⟩ := Kd.R_celln 0 HRr.out (j : Int) (by omega) (by omega)
      rw [Int.toNat_natCast, rd_at0 bs j hjb] at hb
      have hbox := kc HKr.out 2 rfl
      obtain ⟨ad, rfl, hw0, _, _⟩ := at_T70 HL.out (i : Int) (by omega) (by have := HI1.out; omega)
      rw [Int.toNat_natCast] at hw0
      have hadl := World.block_lt_of_cell? _ _ hw0
      replace hw0 := (HBr.out.cell hadl).trans hw0
      obtain ⟨hP, hGr⟩ := Kd.R_putg hRi (m : Int) bs[j]
      rw [Int.toNat_natCast, hm, putB_set (rd_L2 ram (i : Int)) o bs j (by rw [← hnr]; omega) hjb, ← hm] at hP
      rw [Int.toNat_natCast] at hGr
      have hgk := hoki go (hRi.1 go rfl)
      have hogo := hRi.1 go rfl
      have hge := HGE.out
      have hle := HLE.out
      have hgz := HGZ.out
      have f1 : go < W.heap.size := by omega
      have HNE := Aside0.mk (show W.heap.size ≠ go by omega)
      have HNG := Aside0.mk (show g ≠ go from fun e => hgk.2 e.symm)
      have HNA := Aside0.mk (show (ad.add (i * 3)).block ≠ go by have := hgo1; omega)
      have HNB := Aside0.mk (show gb ≠ go by omega)
      have HG0 := Aside0.mk (show w0.heap.size ≤ go by omega)
      have HH := Aside0.mk (Kd.H_grown hH hGr (fun k hk => by injection hk with hk; subst hk; exact hogo))
      have HP := Aside0.mk (Kd.R_tight rfl hP)
      have HOG := Aside0.mk hogo
      have HGK := Aside0.mk hgk.1
      have HM := Aside0.mk hm
      have b1 : (0 : Int) ≤ (i : Int) := by omega
      have b2 : (i : Int) < (ram.length : Int) := by have := HI2.out; omega
      have b3 : (i : Int) < (l.length : Int) := by have := HI1.out; omega
      have b4 : (0 : Int) ≤ (m : Int) := by omega
      have b5 : (m : Int) < (nr : Int) := by omega
      have b6 : (0 : Int) ≤ (j : Int) := by omega
      have b7 : (j : Int) < (bs.length : Int) := by omega
      have e3 : IntKind.i64.wrap ((j : Int) + 1) = ((j + 1 : Nat) : Int) := by rw [IntWalk.i64_in _ (by omega)]; omega
      have e1 : IntKind.i64.wrap (a - (rd_T70 l (i : Int)).f0) = (o : Int) := by rw [HO.out, IntWalk.i64_in _ (by omega)]
      have e2 : IntKind.i64.wrap ((o : Int) + (j : Int)) = (m : Int) := by rw [IntWalk.i64_in _ (by omega)]; omega
      clear hadl hH hP hGr hRi hoki hogo hgk hgo1 hgo2 hge hle hgz f1 hm hos hlen hrl hnr hbl hcc
      have s1 : Aside0 ((wr.setCell ⟨go, m, none⟩ (.int .u8 bs[j])).cell? ⟨W.heap.size, 2, none⟩ = some (.slice (some ⟨g, 0, none⟩) ram.length cap)) := ⟨Eq.trans (cell_far (p := ⟨go, m, none⟩) HNE.out _) hbox⟩
      have s2 : Aside0 ((wr.setCell ⟨go, m, none⟩ (.int .u8 bs[j])).cell? ⟨g, i, none⟩ = some (.slice (some ⟨go, 0, none⟩) nr co)) := ⟨Eq.trans (cell_far (p := ⟨go, m, none⟩) HNG.out _) hx⟩
      have s3 : Aside0 ((wr.setCell ⟨go, m, none⟩ (.int .u8 bs[j])).cell? (ad.add (i * 3)) = some (.int .i64 (rd_T70 l (i : Int)).f0)) := ⟨Eq.trans (cell_far (p := ⟨go, m, none⟩) HNA.out _) hw0⟩
      have s4 : Aside0 ((wr.setCell ⟨go, m, none⟩ (.int .u8 bs[j])).cell? ⟨gb, j, none⟩ = some (.int .u8 bs[j])) := ⟨Eq.trans (cell_far (p := ⟨go, m, none⟩) HNB.out _) hb⟩
      go_wp2
      go_region_held3 (fun w' => w'.cell? ⟨W.heap.size, 2, none⟩ = some (.slice (some ⟨g, 0, none⟩) ram.length cap) ∧ w'.cell? ⟨g, i, none⟩ = some (.slice (some ⟨go, 0, none⟩) nr co) ∧ w'.cell? (ad.add (i * 3)) = some (.int .i64 (rd_T70 l (i : Int)).f0) ∧ w'.cell? ⟨gb, j, none⟩ = some (.int .u8 bs[j])) (first | exact ⟨s1.out, s2.out, s3.out, s4.out⟩ | go_keep) (fail)
      go_wp2
      go_roundg (s - (j + 1))
      case measure => omega
      case rel =>
        have hb2 := Kd.H_back HH.out (x' := putB (rd_L2 ram (i : Int)) o (bs.take (j + 1))) (okp := fun k => some k = (Value.slice (some ⟨go, 0, none⟩) nr co).ownBlock) ⟨_, rfl, HP.out⟩ (fun k hk => (show go = k by simpa [Value.ownBlock] using hk.symm) ▸ HOG.out)
        rw [Int.toNat_natCast, stM_set] at hb2
        exact ⟨j + 1, by omega, by omega, rfl, ⟨Kd.S_drew hb2⟩, ⟨((HFr.out).set (p := ⟨go, m, none⟩) (.inl HGK.out) _).drew⟩, ⟨below_drew1 (HBr.out.setCell HG0.out _)⟩, ⟨blk_drew (blk_far HKr.out HNE.out _)⟩, ⟨Kd.R_drew (Kd.R_far HRr.out (fun k hk => by rw [hk]; exact HNB.out) _)⟩⟩
    · have hltz : ¬ (j : Int) < (s : Int) := by omega
      obtain rfl : j = s := by omega
      go_wp2
      (first | go_end0 | ((try simp only [Exit.inBlock, Exit.then]); refine bodyPost_ret (results_none rfl _ _ _) rfl ?_))
      refine ⟨rfl, ⟨?_, Kd.S_mono HSr.out (fun k hk => hk.1), HGE.out, Nat.le_trans HLE.out HFr.out.size⟩, HFr.out.mono (fun k hk => hk.1)⟩
      exact Kd.R_mono (HFr.out.R (Kd.R_tight rfl HG.out.r0) (fun k hk hs => hs.2 hk)) (fun k hk => HG.out.r0.1 k hk.symm)
end Go.Proofs.Ytbcpkigeginmnaa.GF
end
section
namespace Go.Proofs.Ytbcpkigeginmnaa.GF
open Go.RowKit Go.Proofs.YtbcpkigeginmnaaW.PrintWords Go.Proofs.YtbcpkigeginmnaaW.PrintLast Go.Proofs.YtbcpkigeginmnaaW.PrintMore Go.Proofs.Ytbcpkigeginmnaa.Q Go.Proofs.Ytbcpkigeginmnaa.Hnd Go.Proofs.Ytbcpkigeginmnaa.Lst
set_option linter.unusedVariables false
set_option linter.unusedSimpArgs false
section
variable {P : Program} {ops : Array Oper} {rest : List Oper} {o : Oper} {a : Act} {Q : Exit → Act → World → Prop} {K : Act → World → Prop} {E : Prop} {w w0 : World} {S : Nat → Prop}
theorem fr_setRow {S : Nat → Prop} {w0 w : World} {g : Nat} (h : Fr S w0 w) (hg : S g ∨ w0.heap.size ≤ g) (cs : Array Value) : Fr S w0 (w.setRow g cs) := by
  refine h.trans (T := fun k => k = g) ?_ (fun i hi => by subst hi; exact hg)
  exact ⟨rfl, rfl, rfl, by simp [World.setRow], fun k hk hn => setRow_other w g k cs hn⟩
/-- copy within a region that draws: the cells that go over are laid over the row from a place on. -/
theorem step_copy1 (hgd : o.guard = none) (d s : Operand) (dT sT : TypeId)
    (ho : o.op = .call { callee := .builtin .copy, args := #[d, s], argTypes := #[dT, sT] }) (elem : TypeId) (hu : P.underlying dT = some (.slice elem)) (hsz : (P.info? elem).map (·.size) = some 1)
    (g off : Nat) (ad : Addr) (dLen dCap sLen sCap : Nat) (hd : a.eval d = .slice (some ⟨g, off, none⟩) dLen dCap) (hs : a.eval s = .slice (some ad) sLen sCap)
    (cur : List Value) (t : TypeId) (hg : w.heap[g]? = some (.cells cur.toArray t (0, 0))) (cs : List Value) (hn : cs.length = Nat.min sLen dLen)
    (hsrc : ∀ j v, cs[j]? = some v → w.cell? (ad.add j) = some v) (hfit : off + cs.length ≤ cur.length) (h1 : ∀ v ∈ cs, v.oneCell' = true) (hf : Fr S w0 w) (hS : S g ∨ w0.heap.size ≤ g)
    (h : ∀ w', w'.heap[g]? = some (.cells (splice cur off cs).toArray t (0, 0)) → Fr S w0 w' → Fr (fun k => k = g) w w' → K (a.put o.dst (goInt cs.length)) w') :
    if Region.wanted o (yielded ops a.tmps) = true then Oper.wp P o a w K Q else E := by
  have hw : Region.wanted o (yielded ops a.tmps) = true := by simp [Region.wanted, hgd]
  rw [if_pos hw]
  have hrun := run_copy_row (P := P) w dT sT o.type elem g off dLen dCap ad sLen sCap cur.toArray t cs hu hsz hg hn hsrc (by simpa using hfit) h1
  unfold Oper.wp
  simp [execOp, ho, resolve, invoke, builtin, hd, hs, hrun, Result.andThen]
  refine h _ ?_ (fr_setRow hf hS _) (fr_setRow (Fr.refl (fun k => k = g) w) (.inl rfl) _)
  simpa [splice] using setRow_heap w g _ (cur.take off ++ (cs ++ cur.drop (off + cs.length))).toArray t _ hg
end
variable {W : World} {base g n c : Nat} {ok : Nat → Prop} {xs : List Int}
/-- A row of bytes as its cells. -/
theorem RB_cells (h : Kd.R (Kd.int .u8) 5 W base ok (.slice (some ⟨g, 0, none⟩) n c) xs) :
    n = xs.length ∧ base ≤ g ∧ n ≤ c ∧ c ≤ maxLen ∧ ok g ∧ ∃ spare : List Value, W.heap[g]? = some (.cells (encs (Value.int .u8) xs ++ spare).toArray 5 (0, 0)) ∧ (encs (Value.int .u8) xs ++ spare).length = c := by
  have hok := h.1 g rfl
  obtain ⟨hl, hw⟩ := Kd.own_of_R h
  rcases hw with ⟨e, _⟩ | ⟨g', cap', cur, e, hb, hh, hc, hm, hs, ht⟩
  · cases e
  · injection e with e1 e2 e3
    injection e1 with e1
    injection e1 with e1
    subst e1; subst e3
    refine ⟨e2, hb, e2 ▸ hc, hm, hok, cur.toList.drop (xs.length * 1), ?_, ?_⟩
    · rw [← ht, List.take_append_drop]
      exact hh
    · rw [← ht, List.take_append_drop, Array.length_toList, hs, Nat.mul_one]
theorem RB_of_cells {spare : List Value} (hb : base ≤ g) (hok : ok g) (hh : W.heap[g]? = some (.cells (encs (Value.int .u8) xs ++ spare).toArray 5 (0, 0))) (hl : (encs (Value.int .u8) xs ++ spare).length = c) (hn : n = xs.length) (hc : n ≤ c) (hm : c ≤ maxLen) :
    Kd.R (Kd.int .u8) 5 W base ok (.slice (some ⟨g, 0, none⟩) n c) xs := by
  subst hn
  refine Kd.R_of_own ⟨by simp [encs], .inr ⟨g, c, _, rfl, hb, hh, hc, hm, by rw [List.size_toArray, hl, Nat.mul_one], ?_⟩⟩ (fun k hk => ?_)
  · rw [Nat.mul_one, show xs.length = (encs (Value.int .u8) xs).length by simp [encs]]
    simp
  · have : g = k := by simpa [Value.ownBlock] using hk
    exact this ▸ hok
theorem splice_putB (row bs : List Int) (spare : List Value) (o : Nat) (h : o + bs.length ≤ row.length) : splice (encs (Value.int .u8) row ++ spare) o (encs (Value.int .u8) bs) = encs (Value.int .u8) (putB row o bs) ++ spare := by
  unfold splice putB encs
  have e1 : o ≤ (row.map (Value.int .u8)).length := by rw [List.length_map]; omega
  have e2 : o + bs.length ≤ (row.map (Value.int .u8)).length := by rw [List.length_map]; omega
  rw [List.length_map, List.take_append_of_le_length e1, List.drop_append_of_le_length e2]
  simp [List.map_take, List.map_drop]
theorem encs_one (l : List Int) : ∀ v ∈ encs (Value.int .u8) l, v.oneCell' = true := fun v hv => by
  unfold encs at hv
  obtain ⟨x, _, rfl⟩ := List.mem_map.1 hv
  rfl
theorem src_at {bs : List Int} {s j : Nat} {v : Value} {sp : List Value} (h : (encs (Value.int .u8) (bs.take s))[j]? = some v) : (encs (Value.int .u8) bs ++ sp)[j]? = some v := by
  unfold encs at h ⊢
  rw [List.map_take, List.getElem?_take] at h
  split at h
  · rw [List.getElem?_append_left (List.getElem?_eq_some_iff.1 h).1]
    exact h
  · cases h
theorem cut_run (go nr co o : Nat) (h1 : o < nr) (h2 : nr ≤ co) (W : World) : (Instr.slice 68 (.slice (some ⟨go, 0, none⟩) nr co) (some (.int .i64 (o : Int))) none none).run Try.prog W = .ok (.slice (some ⟨go, o, none⟩) (nr - o) (co - o)) W := by
  have h3 : ¬ co = o := by omega
  have hu := Try.underlying68
  go_simp
  exact fun hlt => absurd hlt (by omega)
theorem take_run (gb n cb s : Nat) (h1 : s ≤ cb) (h2 : 0 < s) (W : World) : (Instr.slice 68 (.slice (some ⟨gb, 0, none⟩) n cb) none (some (.int .i64 (s : Int))) none).run Try.prog W = .ok (.slice (some ⟨gb, 0, none⟩) s cb) W := by
  have hu := Try.underlying68
  go_simp
set_option maxHeartbeats 8000000 in
set_option maxRecDepth 100000 in
/-- A guest's store that meets no fault: the box at gp holds the guest's rows in its first cells. -/
theorem store_calls (w0 W : World) (lo hi gp ty : Nat) (bx : Array Value) (v0 v2 : Value) (r : List Int) (ram : List (List Int)) (A : Option Addr) (c : Nat) (l : List S70) (a x : Int) (s i o K : Nat) (bs : List Int)
    (hB : Below w0.heap.size w0 W) (hG : Gst w0 W lo hi v0 v2 r ram) (hl : Kd.C k70 w0 A l.length l) (hc : l.length ≤ c)
    (hbx : W.heap[gp]? = some (.cells bx ty (0, 0))) (hb2 : bx[2]? = some v2) (hgp : ¬ (lo ≤ gp ∧ gp < hi))
    (hfa : impl_faultAt.f K l a (s : Int) 2 = some 0) (hat : impl_windowAt.f l (wrap64 a) = some (i : Int)) (hbs : impl_BytesOf.f x = some bs) (hi1 : i < l.length) (hi2 : i < ram.length) (ho : wrap64 a - (rd_T70 l (i : Int)).f0 = (o : Int)) (hs0 : 0 < s) (hs : s ≤ 4) (hb4 : bs.length = 4)
    (hos : o + s ≤ (rd_L2 ram (i : Int)).length) (hlen : (rd_L2 ram (i : Int)).length ≤ 9000000) :
    Calls Try.prog 63 #[.pointer (some ⟨gp, 0, none⟩), .slice A l.length c, .int .u32 a, .int .i64 (s : Int), .int .u32 x] W fun e w' => e = .returned (.int .i64 0) ∧ Gst w0 w' lo hi v0 v2 r (stM ram i o bs s) ∧ Fr (fun k => lo ≤ k ∧ k < hi) W w' := by
  have hu28 := Try.underlying28
  obtain ⟨g, cap, rfl, hg1, hg2, _⟩ := Kd.S_form hG.r2 (by omega)
  obtain ⟨A0, c0, rfl⟩ := Kd.R_slice hG.r0
  have S2 := Kd.S_apart' hG.r2 (Kd.R_typed hG.r0) (by decide)
  obtain ⟨oki, cc, hcl, hM, hcc, hoki, hH⟩ := Kd.S_lend S2 [] (i : Int) (by omega) (by omega)
  rw [Int.toNat_natCast, rd_L2_at] at hM
  obtain ⟨vi, rfl, hRi⟩ := hM
  have hx := hcc 0 _ rfl
  rw [Int.toNat_natCast, show (Kd.slice 5 (Kd.int .u8)).sz = 1 from rfl, Nat.mul_one, Nat.add_zero] at hx
  obtain ⟨nr, hnr⟩ : ∃ nr : Nat, nr = (rd_L2 ram (i : Int)).length := ⟨_, rfl⟩
  obtain ⟨go, co, rfl, hgo1, hgo2, _⟩ := Kd.R_form hRi (by omega)
  rw [← hnr] at hRi hx hH hos hlen
  obtain ⟨hn0, hbg0, hnc, hcm, hogo, spare, hcells, hsl⟩ := RB_cells hRi
  have hgk := hoki go hogo
  obtain ⟨ad, rfl, hw0, _, _⟩ := at_T70 hl (i : Int) (by omega) (by omega)
  rw [Int.toNat_natCast] at hw0
  have hadl := World.block_lt_of_cell? _ _ hw0
  have hbc := kc hbx 2 hb2
  have hge := hG.ge
  have hle := hG.le
  have hgpl := blk_lt hbx
  have hbl : (bs.take s).length = s := by rw [List.length_take]; omega
  have HG := Aside0.mk hG
  have HB := Aside0.mk hB
  have HL := Aside0.mk hl
  have HC := Aside0.mk hc
  have HFA := Aside0.mk hfa
  have HAT := Aside0.mk hat
  have HBS := Aside0.mk hbs
  have HB4 := Aside0.mk hb4
  have HH := Aside0.mk hH
  have HRI := Aside0.mk hRi
  have HGO := Aside0.mk hgo2
  have HOG := Aside0.mk hogo
  have HGK := Aside0.mk hgk
  have HCE := Aside0.mk hcells
  have HSL := Aside0.mk hsl
  have HNR := Aside0.mk hnr
  have HCM := Aside0.mk hcm
  have HBL := Aside0.mk hbl
  have HNC := Aside0.mk hnc
  have HOS := Aside0.mk hos
  have HS4 := Aside0.mk hs
  have HS0 := Aside0.mk hs0
  have HG0 := Aside0.mk (show w0.heap.size ≤ go by omega)
  have N1 := Aside0.mk (show gp ≠ go from fun e => hgp (e ▸ hgk.1.1))
  have N2 := Aside0.mk (show g ≠ go from fun e => hgk.2 e.symm)
  have N3 := Aside0.mk (show (ad.add (i * 3)).block ≠ go by omega)
  have C1 := Aside0.mk hbc
  have C2 := Aside0.mk hx
  have C3 := Aside0.mk ((hB.cell hadl).trans hw0)
  have L1 := Aside0.mk hgpl
  have L2 := Aside0.mk hg2
  have L3 := Aside0.mk (show (ad.add (i * 3)).block < W.heap.size by have := hB.size; omega)
  have b1 : (0 : Int) ≤ (i : Int) := by omega
  have b2 : (i : Int) < (ram.length : Int) := by omega
  have b3 : (i : Int) < (l.length : Int) := by omega
  have q4 := cut_run go nr co o (by omega) hnc
  have q6 : ∀ n cb : Nat, s ≤ cb → ∀ gb W', (Instr.slice 68 (.slice (some ⟨gb, 0, none⟩) n cb) none (some (.int .i64 (s : Int))) none).run Try.prog W' = .ok (.slice (some ⟨gb, 0, none⟩) s cb) W' := fun n cb h gb W' => take_run gb n cb s h hs0 W'
  have Q6 := Aside0.mk q6
  have e1 : IntKind.i64.wrap (wrap64 a - (rd_T70 l (i : Int)).f0) = (o : Int) := by rw [ho, IntWalk.i64_in _ (by omega)]
  have b4 : (0 : Int) ≤ (o : Int) := by omega
  have b5 : (o : Int) ≤ (nr : Int) := by omega
  have b6 : (nr : Int) ≤ (co : Int) := by omega
  have b7 : (o : Int) ≤ (co : Int) := by omega
  have b8 : ¬ co = o := by omega
  have e1b : IntKind.i64.wrap (IntKind.i64.wrap a - (rd_T70 l (i : Int)).f0) = (o : Int) := by rw [i64_w a]; exact e1
  clear hn0 hbg0 hG hB hl hc hbx hb2 hgp hfa hat hbs hb4 hi1 hi2 ho hs0 hs hos hlen S2 hcl hcc hoki hH hx hnr hgo1 hgo2 hRi hnc hcm hogo hcells hsl hgk hw0 hadl hbc hge hle hgpl hbl hg1 hg2 q6
  go_enter Try.func63, Try.ntmps63
  go_wp2_with (first | (go_at_call 81; refine (impl_faultAt.calls K (some ad) c l a (s : Int) 2 0 _ (cq (Kd.C_below HL.out HB.out)) HC.out HFA.out).mono ?_; rintro e w1 ⟨rfl, hb'⟩; have F1 := Aside0.mk ((Fr.refl (fun _ => False) W).step hb'); clear hb') | (go_at_call 82; refine (impl_windowAt.calls (some ad) c l (wrap64 a) (i : Int) _ (cq (Kd.C_below HL.out (HB.out.trans (F1.out.below (fun _ h => h.elim) HB.out.size)))) HC.out HAT.out).mono ?_; rintro e w2 ⟨rfl, hb'⟩; have F2 := Aside0.mk ((fq F1.out).step hb'); clear hb'))
  have x1 := (F2.out.cell (p := ⟨gp, 2, none⟩) L1.out (fun h => h)).trans C1.out
  have x2 := (F2.out.cell (p := ⟨g, i, none⟩) L2.out (fun h => h)).trans C2.out
  have x3 := (F2.out.cell (p := ad.add (i * 3)) L3.out (fun h => h)).trans C3.out
  go_region_held3 (fun w' => w'.cell? ⟨gp, 2, none⟩ = some (.slice (some ⟨g, 0, none⟩) ram.length cap) ∧ w'.cell? ⟨g, i, none⟩ = some (.slice (some ⟨go, 0, none⟩) nr co) ∧ w'.cell? (ad.add (i * 3)) = some (.int .i64 (rd_T70 l (i : Int)).f0)) (go_keep)
    ((first | (go_at_call 86; refine (impl_BytesOf.calls x bs _ HBS.out).mono ?_; rintro e w3 ⟨vb, rfl, hR, hb'⟩; obtain ⟨gb, cb, rfl, _, _, _⟩ := Kd.R_form hR (by rw [HB4.out]; decide); have F3 := Aside0.mk ((fq F2.out).step hb'); have HRB := Aside0.mk (RB_cells hR); clear hR hb'; have z1 := (F3.out.cell (p := ⟨gp, 2, none⟩) L1.out (fun h => h)).trans C1.out; have z2 := (F3.out.cell (p := ⟨g, i, none⟩) L2.out (fun h => h)).trans C2.out; have z3 := (F3.out.cell (p := ad.add (i * 3)) L3.out (fun h => h)).trans C3.out; have q7 := Q6.out bs.length cb (by have := HRB.out.2.2.1; have := HB4.out; have := HS4.out; omega) gb) | (refine step_copy1 (S := fun k => k = go) (w0 := W) rfl (.tmp 39) (.tmp 43) 68 68 rfl 5 Try.underlying68 (by kernel_rfl) go o ⟨gb, 0, none⟩ (nr - o) (co - o) s cb (by simp [Act.eval, Act.put]) (by simp [Act.eval, Act.put]) (encs (Value.int .u8) (rd_L2 ram (i : Int)) ++ spare) 5 (bq (F3.out.blk HCE.out (fun h => h))) (encs (Value.int .u8) (bs.take s)) ?cn ?cs ?cf ?c1 (fq (F3.out.mono (fun _ h => h.elim))) (.inl rfl) ?_; (case cn => rw [encs_length, HBL.out]; exact (Nat.min_eq_left (by have := HOS.out; omega)).symm); (case cs => intro j v hj; rw [Addr.add_lit, Nat.zero_add]; obtain ⟨_, _, _, _, _, sp, hk, _⟩ := HRB.out; exact (blk_cell (bq hk) j).trans (by rw [List.getElem?_toArray]; exact src_at hj)); (case cf => rw [encs_length, HBL.out, List.length_append, encs_length, ← HNR.out]; have := HOS.out; omega); (case c1 => exact encs_one _); intro w4 hb3 hf3 hf4; have HB3 := Aside0.mk hb3; have F4 := Aside0.mk hf3; clear hb3 hf3 hf4; have y1 := (F4.out.cell (p := ⟨gp, 2, none⟩) L1.out N1.out).trans C1.out; have y2 := (F4.out.cell (p := ⟨g, i, none⟩) L2.out N2.out).trans C2.out; have y3 := (F4.out.cell (p := ad.add (i * 3)) L3.out N3.out).trans C3.out)))
  all_goals
    go_wp2
    refine bodyPost_ret (v := .int .i64 0) (by simp [results, Try.results63, go_sem]) rfl ?_
    have hb4 := HB3.out
    rw [splice_putB _ _ _ _ (by rw [HBL.out, ← HNR.out]; exact HOS.out)] at hb4
    have hl1 : (putB (rd_L2 ram (i : Int)) o (bs.take s)).length = nr := by rw [putB_length _ _ _ (by rw [HBL.out, ← HNR.out]; exact HOS.out), ← HNR.out]
    have hR1 : Kd.R (Kd.int .u8) 5 w4 w0.heap.size oki (.slice (some ⟨go, 0, none⟩) nr co) (putB (rd_L2 ram (i : Int)) o (bs.take s)) :=
      RB_of_cells HG0.out HOG.out hb4 (by rw [← HSL.out, List.length_append, List.length_append, encs_length, encs_length, hl1, ← HNR.out]) hl1.symm HNC.out HCM.out
    have hH1 := Kd.H_step HH.out (w1 := w4) (fun k hk hn hlt => F4.out.block k hlt (fun e => hn (e ▸ HOG.out)))
    have hS1 := Kd.H_back hH1 (x' := putB (rd_L2 ram (i : Int)) o (bs.take s)) (okp := fun k => some k = (Value.slice (some ⟨go, 0, none⟩) nr co).ownBlock) ⟨_, rfl, Kd.R_tight rfl hR1⟩ (fun k hk => (show go = k by simpa [Value.ownBlock] using hk.symm) ▸ HOG.out)
    rw [Int.toNat_natCast] at hS1
    have FF : Fr (fun k => (lo ≤ k ∧ k < hi) ∧ some k ≠ (Value.slice A0 r.length c0).ownBlock) W w4 := F4.out.mono (fun k hk => hk ▸ HGK.out.1)
    refine ⟨rfl, ⟨?_, ?_, HG.out.ge, Nat.le_trans HG.out.le F4.out.size⟩, ?_⟩
    · exact Kd.R_mono (rq (FF.R (Kd.R_tight rfl HG.out.r0) (fun k hk hs => hs.2 hk))) (fun k hk => HG.out.r0.1 k hk.symm)
    · exact Kd.S_mono hS1 (fun k hk => hk.1)
    · exact fq (FF.mono (fun k hk => hk.1))
/-- A store that meets a fault writes nothing. -/
theorem store_fault (w0 W : World) (gp : Nat) (A : Option Addr) (c : Nat) (l : List S70) (a x s t : Int) (K : Nat) (hB : Below w0.heap.size w0 W) (hl : Kd.C k70 w0 A l.length l) (hc : l.length ≤ c) (hfa : impl_faultAt.f K l a s 2 = some t) (ht : t ≠ 0) :
    Calls Try.prog 63 #[.pointer (some ⟨gp, 0, none⟩), .slice A l.length c, .int .u32 a, .int .i64 s, .int .u32 x] W fun e w' => e = .returned (.int .i64 t) ∧ Below W.heap.size W w' := by
  have HB := Aside0.mk hB
  have HL := Aside0.mk hl
  have HFA := Aside0.mk hfa
  have tb : (t != 0) = true := bne_iff_ne.mpr ht
  clear hB hl hfa ht
  go_enter Try.func63, Try.ntmps63
  go_wp2_with (go_at_call 81; refine (impl_faultAt.calls K A c l a s 2 t _ (cq (Kd.C_below HL.out HB.out)) hc HFA.out).mono ?_; rintro e w1 ⟨rfl, hb'⟩; have F1 := Aside0.mk hb'; clear hb')
  go_ret
  exact ⟨rfl, F1.out⟩
end Go.Proofs.Ytbcpkigeginmnaa.GF
end
