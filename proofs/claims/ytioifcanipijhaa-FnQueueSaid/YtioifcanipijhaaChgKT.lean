/- ChanPlay, walked by hand. -/
import Derived.Test.YtioifcanipijhaaGKx0T
import Derived.Test.YtioifcanipijhaaGKx1T
import Derived.Test.YtioifcanipijhaaChfKT
namespace Go.Proofs.Ytioifcanipijhaa.GK
open Go.Shelf Go.RowKit Go.Proofs.YtioifcanipijhaaW.PrintWords Go.Proofs.YtioifcanipijhaaW.PrintLast Go.Proofs.YtioifcanipijhaaW.PrintMore Go.Proofs.Ytioifcanipijhaa.Q Go.Proofs.Ytioifcanipijhaa.Hnd
set_option linter.unusedVariables false
set_option linter.unusedSimpArgs false
theorem pq {W W' : World} {base g2 g5 g6 : Nat} {a0 a1 a2 a3 h : Int} {xs ys : List Int} {v1 v2 : Value} (p : PS W base g2 g5 g6 a0 a1 a2 a3 h xs ys v1 v2) [q : Quiet W W'] : PS W' base g2 g5 g6 a0 a1 a2 a3 h xs ys v1 v2 := p.below q.go
/-- The ends behind an operation. -/
def endsF (a0 a3 : Int) (s : Int × List Int × List Int) (op : S70) : Int × List Int × List Int :=
  if op.f0 = 0 then (s.1, (sendF a0 a3 s.1 s.2.1 op.f1).2, s.2.2) else if op.f0 = 1 then (s.1, s.2.1, (recvF a0 s.2.2).2.2) else if op.f0 = 2 then ((bordF a0 s.1 s.2.1 s.2.2).1, [], (bordF a0 s.1 s.2.1 s.2.2).2) else (s.1, [], s.2.2)
/-- What an operation is told. -/
def saidF (a0 a3 : Int) (s : Int × List Int × List Int) (op : S70) : S72 :=
  if op.f0 = 0 then ⟨(sendF a0 a3 s.1 s.2.1 op.f1).1, 0⟩ else if op.f0 = 1 then ⟨(recvF a0 s.2.2).2.1, (recvF a0 s.2.2).1⟩ else ⟨0, 0⟩
def playF (a0 a3 : Int) : Int × List Int × List Int → List S70 → List S72
  | _, [] => []
  | s, op :: ops => saidF a0 a3 s op :: playF a0 a3 (endsF a0 a3 s op) ops
theorem playF_length (a0 a3 : Int) (ops : List S70) : ∀ s, (playF a0 a3 s ops).length = ops.length := by
  induction ops with
  | nil => intro s; rfl
  | cons op ops ih => intro s; simp [playF, ih]
theorem ends_len (a0 a3 : Int) (s : Int × List Int × List Int) (op : S70) : (endsF a0 a3 s op).2.1.length + (endsF a0 a3 s op).2.2.length ≤ s.2.1.length + s.2.2.length + 1 := by
  obtain ⟨h, xs, ys⟩ := s
  unfold endsF sendF bordF
  dsimp only
  split
  · split
    · simp; omega
    · split
      · simp
      · simp; omega
  · split
    · cases ys with
      | nil => simp [recvF]
      | cons y ys =>
        show xs.length + (if a0 = 1 then ys else y :: ys).length ≤ _
        split
        · simp; omega
        · simp
    · split
      · split
        · simp; omega
        · split
          · simp; omega
          · simp; omega
      · simp; omega
theorem drop_op (ops : List S70) (k : Nat) (hk : k < ops.length) : ops.drop k = rd_T70 ops (k : Int) :: ops.drop (k + 1) := by
  rw [List.drop_eq_getElem_cons hk]
  congr 1
  unfold rd_T70
  rw [Int.toNat_natCast, List.getD_eq_getElem?_getD, List.getElem?_eq_getElem hk]
  rfl
def impl_ChanPlay.f (a0 a1 a2 a3 : Int) (ops : List S70) : Option (List S72) :=
  (impl_isChan.f a0 a1 a2 a3).bind fun b => some (if b = true ∧ ops.length ≤ 1000 ∧ ops.any badOp = false then playF a0 a3 (0, [], []) ops else [])
/-- What the loop holds behind k operations. -/
def Loop (w wr : World) (base g2 g5 g6 : Nat) (a0 a1 a2 a3 : Int) (ops : List S70) (k : Nat) (A : Option Addr) (c : Nat) (acc : List S72) : Prop :=
  ∃ h xs ys v1 v2, PS wr base g2 g5 g6 a0 a1 a2 a3 h xs ys v1 v2 ∧ xs.length + ys.length ≤ k ∧ acc.length = k ∧ acc ++ playF a0 a3 (h, xs, ys) (ops.drop k) = playF a0 a3 (0, [], []) ops ∧ Kd.R k72 72 wr base (fun _ => True) (.slice A acc.length c) acc ∧ Below w.heap.size w wr ∧ base ≤ wr.heap.size
set_option maxHeartbeats 8000000 in
set_option maxRecDepth 100000 in
theorem impl_ChanPlay.calls (a0 a1 a2 a3 : Int) (A : Option Addr) (c : Nat) (ops : List S70) (r : List S72) (w : World) (hr : Kd.C k70 w A ops.length ops) (hc : ops.length ≤ c) (h : impl_ChanPlay.f a0 a1 a2 a3 ops = some r) :
    Calls Try.prog 47 #[.agg #[.int .i64 a0, .int .i64 a1, .int .i64 a2, .int .i64 a3], .slice A ops.length c] w fun e w' => ∃ v1_ : Value, e = .returned v1_ ∧ Kd.R k72 72 w' w.heap.size (fun _ => True) v1_ r ∧ Below w.heap.size w w' := by
  have hu29 := Try.underlying29
  have hu70 := Try.underlying70
  have hu72 := Try.underlying72
  unfold impl_ChanPlay.f at h
  obtain ⟨b, hb, h⟩ := Option.bind_eq_some_iff.mp h
  replace h := Option.some.inj h
  have HR := Aside0.mk hr
  have HB := Aside0.mk hb
  have eg : ∀ args w, (callFunc 81 args).run Try.prog w = .ok (.enter 81 args) w := enters_of Try.func81 (by kernel_rfl) rfl
  have HCT := Aside0.mk (fun (W : World) (hC : Kd.C k70 W A ops.length ops) => contains_calls badOp 81 #[] eg A c ops W (bad_pred W) hC)
  clear hr hb eg
  cases b with
  | false =>
    rw [if_neg (fun x => by cases x.1)] at h
    subst h
    go_enter Try.func47, Try.ntmps47
    go_wp2_with (go_at_call 79; refine (impl_isChan.calls a0 a1 a2 a3 false _ HB.out).mono ?_; rintro e w1 ⟨rfl, hb⟩; have HB1 := Aside0.mk hb; clear hb)
    go_ret
    exact ⟨_, rfl, Kd.R_nil _ _ _ _ _, ((Fr.refl (fun _ => False) w).alloc _ |>.step HB1.out).below (fun _ h => h.elim) (Nat.le_refl _)⟩
  | true =>
    by_cases hl : ops.length ≤ 1000
    · have hli : (ops.length : Int) ≤ 1000 := by omega
      cases hbad : ops.any badOp with
      | true =>
        rw [if_neg (fun x => by rw [hbad] at x; cases x.2.2)] at h
        subst h
        rw [hbad] at HCT
        clear hbad
        go_enter Try.func47, Try.ntmps47
        go_wp2_with (first | (go_at_call 79; refine (impl_isChan.calls a0 a1 a2 a3 true _ HB.out).mono ?_; rintro e w1 ⟨rfl, hb⟩; have HB1 := Aside0.mk (Fr.step ((Fr.refl (fun _ => False) w).alloc _) hb); clear hb) | (go_at_call 80; refine (HCT.out _ (Kd.C_below HR.out (HB1.out.below (fun _ h => h.elim) (Nat.le_refl _)))).mono ?_; rintro e w2 ⟨rfl, hb⟩; have HB2 := Aside0.mk (HB1.out.step hb); clear hb))
        go_ret
        exact ⟨_, rfl, Kd.R_nil _ _ _ _ _, HB2.out.below (fun _ h => h.elim) (Nat.le_refl _)⟩
      | false =>
        rw [if_pos ⟨rfl, hl, hbad⟩] at h
        subst h
        rw [hbad] at HCT
        clear hbad
        go_enter Try.func47, Try.ntmps47
        go_wp2_with (first | (go_at_call 79; refine (impl_isChan.calls a0 a1 a2 a3 true _ HB.out).mono ?_; rintro e w1 ⟨rfl, hb⟩; have HB1 := Aside0.mk (Fr.step ((Fr.refl (fun _ => False) w).alloc _) hb); have K2 := Aside0.mk (blk_below at1_0 hb); have hs1 : w.heap.size < w1.heap.size := (by have := hb.size; simp at this; omega); clear hb) | (go_at_call 80; refine (HCT.out _ (Kd.C_below HR.out (HB1.out.below (fun _ h => h.elim) (Nat.le_refl _)))).mono ?_; rintro e w2 ⟨rfl, hb⟩; have HB2 := Aside0.mk (HB1.out.step hb); have L2 := Aside0.mk (blk_below K2.out hb); have hs2 : w.heap.size < w2.heap.size := (by have := hb.size; omega); clear hb))
        have HM := Aside0.mk hs2
        go_loopg [7, 9, 10, 25] ops.length (fun gg s7 _ _ s25 wr => ∃ (kk : Nat) (A' : Option Addr) (c' : Nat) (acc : List S72), kk ≤ ops.length ∧ ops.length - kk ≤ gg ∧ s25 = .int .i64 (kk : Int) ∧ s7 = .slice A' acc.length c' ∧ Aside0 (Loop w wr w2.heap.size w.heap.size w2.heap.size (w2.heap.size + 1) a0 a1 a2 a3 ops kk A' c' acc))
        case atStart => exact ⟨0, none, 0, [], by omega, by omega, rfl, rfl, ⟨0, [], [], .slice none 0 0, .slice none 0 0, ⟨bq L2.out, at2_0, at2_1, Kd.R_nil _ _ _ _ _, Kd.Q_nil _ _ _ _ _, fun k e => by simp [Value.ownBlock] at e, HM.out, Nat.le_refl _, by omega, by omega⟩, by simp, rfl, rfl, Kd.R_nil _ _ _ _ _, (fq HB2.out).below (fun _ h => h.elim) (Nat.le_refl _), by simp; omega⟩⟩
        case round =>
          obtain ⟨kk, A', c', acc, hk, hg, rfl, rfl, HLP⟩ := hrel
          obtain ⟨h, xs, ys, v1, v2, hps, hlen, hacc, hplay, hrow, hbel, hsz⟩ := HLP.out
          clear HLP
          have HP := Aside0.mk hps
          have HW := Aside0.mk hrow
          have HBL := Aside0.mk hbel
          have HPL := Aside0.mk hplay
          have HLN := Aside0.mk hlen
          have HAC := Aside0.mk hacc
          have HSZ := Aside0.mk hsz
          clear hps hrow hbel hplay hlen hacc hsz
          by_cases hlt : kk < ops.length
          · have hltz : (kk : Int) < (ops.length : Int) := by omega
            obtain ⟨ad, rfl, h0, h1⟩ := at_T70 (Kd.C_below HR.out HBL.out) (kk : Int) (by omega) (by omega)
            rw [Int.toNat_natCast] at h0 h1
            have HD := Aside0.mk (drop_op ops kk hlt)
            generalize rd_T70 ops (kk : Int) = op at h0 h1 HD
            obtain ⟨x0, x1⟩ := op
            dsimp only at h0 h1
            have y0 := kc HP.out.k2 0 rfl
            have y1 := kc HP.out.k2 1 rfl
            have y2 := kc HP.out.k2 2 rfl
            have y3 := kc HP.out.k2 3 rfl
            have lt2 := blk_lt HP.out.k2
            have ne2 : w.heap.size ≠ wr.heap.size := by omega
            have ne2' : w.heap.size ≠ wr.heap.size + 1 := by omega
            have nr : w2.heap.size + 1 < wr.heap.size := blk_lt HP.out.k6
            have HNR := Aside0.mk nr
            clear nr
            by_cases c0 : x0 = 0
            · have HX0 := Aside0.mk c0
              rw [c0] at h0
              have hm : (xs.length : Nat) < 2000000 := by have := HLN.out; omega
              have HX := Aside0.mk hm
              clear hm c0
              go_wp2_with (first | (go_at_call 67; refine (send_calls w2.heap.size h a0 a1 a2 a3 x1 v1 xs w2.heap.size _ (pq HP.out).k5 (Kd.R_mono (pq HP.out).r1 (fun _ hk => hk.1)) (Nat.le_trans HSZ.out (by simp; omega)) HX.out).mono ?_; rintro e w5 hp; have hp0 := hp.1; subst hp0; obtain ⟨v1', hps5, hfr5⟩ := PS.send (pq HP.out) (Nat.le_trans HSZ.out (by simp; omega)) hp; clear hp; have HP2 := Aside0.mk hps5; have KS := Aside0.mk (PS.frame hfr5 at2_1 (by decide) (by have := blk_lt HP.out.k5; omega) (by have := blk_lt HP.out.k6; omega)); have HW2 := Aside0.mk (PS.row (pq HP.out) hfr5 (rq (Kd.R_mono (R_in HW.out) (fun _ hk => hk.2.2)))); have HB5 := Aside0.mk (((HBL.out.alloc (Nat.le_trans (Nat.le_of_lt HM.out) HSZ.out) _).alloc (by have := HSZ.out; have := HM.out; simp; omega) _).trans (hfr5.below (fun k hs => Nat.le_trans (Nat.le_of_lt HM.out) (SP_ge hs (Nat.le_refl _) (Nat.le_succ _))) (by have := HSZ.out; have := HM.out; simp; omega))); have HSZ5 := Aside0.mk (Nat.le_trans HSZ.out (Nat.le_trans (by simp; omega) hfr5.size)); clear hps5 hfr5; have u0 := kc KS.out 0 rfl; have u1 := kc KS.out 1 rfl; have g0 := blk_frozen KS.out 0; have g1 := blk_frozen KS.out 1) | ((with_reducible refine gate_builtin (b := .append) (xs := #[.tmp 53, .tmp 55]) rfl ?_); at_builtin; refine Kd.R_append k72 w2.heap.size rfl (.tmp 53) (.tmp 55) 66 72 (.agg #[.int .i64 0, .int .u32 0]) 16 rfl Try.underlying66 info72 rfl (by decide) (by omega) (.slice A' acc.length c') acc ⟨(sendF a0 a3 h xs x1).1, 0⟩ [.int .i64 ((sendF a0 a3 h xs x1).1), .int .u32 (0)] (fun _ => True) (fun _ => False) rfl (by first | (go_simp; done) | (go_simp; rfl)) (k72_mkM _ _ _ ⟨(sendF a0 a3 h xs x1).1, 0⟩) (fun _ hk => hk.elim) (fun _ _ => trivial) (Kd.R_mono (Kd.R_far (p := ⟨wr.heap.size + 1, 0, none⟩) HW2.out (fun k hk => by show k ≠ wr.heap.size + 1; omega) _) (fun _ _ => trivial)) (Below.refl _ _) (by have := HSZ5.out; simp; omega) (by have := HAC.out; omega) ?_; intro v7 w9 ho hb hg hat; obtain ⟨A9, c9, rfl⟩ := Kd.R_slice ho; rw [show (acc ++ [(⟨(sendF a0 a3 h xs x1).1, 0⟩ : S72)]).length = acc.length + 1 from by simp] at ho; have HO9 := Aside0.mk ho; have HG9 := Aside0.mk hg; clear ho hb hg hat))
              go_roundg (ops.length - (kk + 1))
              case measure => omega
              case rel =>
                have F9 := ((Fr.refl (T72 w5 w2.heap.size) w5).set (.inl ⟨by have := HSZ.out; show _ ≤ wr.heap.size + 1; omega, _, KS.out⟩) _).grown HG9.out (fun k hk => .inl ⟨((Kd.R_bound HW2.out).1 k hk).2.1, Kd.R_typed HW2.out k hk⟩)
                have hpl := HPL.out
                rw [HD.out] at hpl
                have he : endsF a0 a3 (h, xs, ys) ⟨x0, x1⟩ = (h, (sendF a0 a3 h xs x1).2, ys) := by unfold endsF; rw [if_pos HX0.out]
                have hs : saidF a0 a3 (h, xs, ys) ⟨x0, x1⟩ = ⟨(sendF a0 a3 h xs x1).1, 0⟩ := by unfold saidF; rw [if_pos HX0.out]
                have hle := ends_len a0 a3 (h, xs, ys) ⟨x0, x1⟩
                simp only [playF] at hpl
                rw [he, hs] at hpl
                rw [he] at hle
                refine ⟨kk + 1, A9, c9, acc ++ [⟨(sendF a0 a3 h xs x1).1, 0⟩], by omega, by omega, by go_num, by simp, ⟨_, _, _, _, _, HP2.out.other F9, ?_, by simp; exact HAC.out, ?_, by simpa using HO9.out, ?_, ?_⟩⟩
                · have := HLN.out
                  dsimp only at hle
                  omega
                · rw [← hpl]; simp
                · exact HB5.out.trans (F9.below (fun k hs => Nat.le_trans (Nat.le_of_lt HM.out) hs.1) (Nat.le_trans (Nat.le_of_lt HM.out) HSZ5.out))
                · exact Nat.le_trans HSZ5.out F9.size
            · have HX0 := Aside0.mk c0
              have c0b : (x0 == 0) = false := beq_eq_false_iff_ne.mpr c0
              clear c0
              by_cases c1 : x0 = 1
              · have HX1 := Aside0.mk c1
                rw [c1] at h0
                clear c1 c0b
                go_wp2_with (first | (go_at_call 65; refine (recv_calls (w2.heap.size + 1) a0 a1 a2 a3 v2 ys w2.heap.size _ (pq HP.out).k6 (Kd.Q_mono (pq HP.out).r2 (fun _ hk => hk.2))).mono ?_; rintro e w5 hp; have hp0 := hp.1; subst hp0; obtain ⟨v2', hps5, hfr5⟩ := PS.recv (pq HP.out) hp; clear hp; have HP2 := Aside0.mk hps5; have KS := Aside0.mk (PS.frame hfr5 at2_1 (by decide) (by have := blk_lt HP.out.k5; omega) (by have := blk_lt HP.out.k6; omega)); have HW2 := Aside0.mk (PS.row (pq HP.out) hfr5 (rq (Kd.R_mono (R_in HW.out) (fun _ hk => hk.2.2)))); have HB5 := Aside0.mk (((HBL.out.alloc (Nat.le_trans (Nat.le_of_lt HM.out) HSZ.out) _).alloc (by have := HSZ.out; have := HM.out; simp; omega) _).trans (hfr5.below (fun k hs => Nat.le_trans (Nat.le_of_lt HM.out) (SP_ge hs (Nat.le_refl _) (Nat.le_succ _))) (by have := HSZ.out; have := HM.out; simp; omega))); have HSZ5 := Aside0.mk (Nat.le_trans HSZ.out (Nat.le_trans (by simp; omega) hfr5.size)); clear hps5 hfr5; have u0 := kc KS.out 0 rfl; have u1 := kc KS.out 1 rfl; have g0 := blk_frozen KS.out 0; have g1 := blk_frozen KS.out 1) | ((with_reducible refine gate_builtin (b := .append) (xs := #[.tmp 53, .tmp 55]) rfl ?_); at_builtin; refine Kd.R_append k72 w2.heap.size rfl (.tmp 53) (.tmp 55) 66 72 (.agg #[.int .i64 0, .int .u32 0]) 16 rfl Try.underlying66 info72 rfl (by decide) (by omega) (.slice A' acc.length c') acc ⟨(recvF a0 ys).2.1, (recvF a0 ys).1⟩ [.int .i64 ((recvF a0 ys).2.1), .int .u32 ((recvF a0 ys).1)] (fun _ => True) (fun _ => False) rfl (by first | (go_simp; done) | (go_simp; rfl)) (k72_mkM _ _ _ ⟨(recvF a0 ys).2.1, (recvF a0 ys).1⟩) (fun _ hk => hk.elim) (fun _ _ => trivial) (Kd.R_mono (Kd.R_far (p := ⟨wr.heap.size + 1, 0, none⟩) (Kd.R_far (p := ⟨wr.heap.size + 1, 1, none⟩) HW2.out (fun k hk => by show k ≠ wr.heap.size + 1; omega) _) (fun k hk => by show k ≠ wr.heap.size + 1; omega) _) (fun _ _ => trivial)) (Below.refl _ _) (by have := HSZ5.out; simp; omega) (by have := HAC.out; omega) ?_; intro v7 w9 ho hb hg hat; obtain ⟨A9, c9, rfl⟩ := Kd.R_slice ho; rw [show (acc ++ [(⟨(recvF a0 ys).2.1, (recvF a0 ys).1⟩ : S72)]).length = acc.length + 1 from by simp] at ho; have HO9 := Aside0.mk ho; have HG9 := Aside0.mk hg; clear ho hb hg hat))
                go_roundg (ops.length - (kk + 1))
                case measure => omega
                case rel =>
                  have F9 := (((Fr.refl (T72 w5 w2.heap.size) w5).set (.inl ⟨by have := HSZ.out; show _ ≤ wr.heap.size + 1; omega, _, KS.out⟩) _).set (.inl ⟨by have := HSZ.out; show _ ≤ wr.heap.size + 1; omega, _, KS.out⟩) _).grown HG9.out (fun k hk => .inl ⟨((Kd.R_bound HW2.out).1 k hk).2.1, Kd.R_typed HW2.out k hk⟩)
                  have hpl := HPL.out
                  rw [HD.out] at hpl
                  have he : endsF a0 a3 (h, xs, ys) ⟨x0, x1⟩ = (h, xs, (recvF a0 ys).2.2) := by unfold endsF; rw [if_neg HX0.out, if_pos HX1.out]
                  have hs : saidF a0 a3 (h, xs, ys) ⟨x0, x1⟩ = ⟨(recvF a0 ys).2.1, (recvF a0 ys).1⟩ := by unfold saidF; rw [if_neg HX0.out, if_pos HX1.out]
                  have hle := ends_len a0 a3 (h, xs, ys) ⟨x0, x1⟩
                  simp only [playF] at hpl
                  rw [he, hs] at hpl
                  rw [he] at hle
                  refine ⟨kk + 1, A9, c9, acc ++ [⟨(recvF a0 ys).2.1, (recvF a0 ys).1⟩], by omega, by omega, by go_num, by simp, ⟨_, _, _, _, _, HP2.out.other F9, ?_, by simp; exact HAC.out, ?_, by simpa using HO9.out, ?_, ?_⟩⟩
                  · have := HLN.out
                    dsimp only at hle
                    omega
                  · rw [← hpl]; simp
                  · exact HB5.out.trans (F9.below (fun k hs => Nat.le_trans (Nat.le_of_lt HM.out) hs.1) (Nat.le_trans (Nat.le_of_lt HM.out) HSZ5.out))
                  · exact Nat.le_trans HSZ5.out F9.size
              · have HX1 := Aside0.mk c1
                have c1b : (x0 == 1) = false := beq_eq_false_iff_ne.mpr c1
                clear c1
                by_cases c2 : x0 = 2
                · have HX2 := Aside0.mk c2
                  rw [c2] at h0
                  clear c2 c0b c1b
                  go_wp2_with (first | (go_at_call 68; refine (bord_calls w2.heap.size (w2.heap.size + 1) h a0 a1 a2 a3 v1 v2 xs ys w2.heap.size _ (pq HP.out).k5 (pq HP.out).r1 (pq HP.out).k6 (pq HP.out).r2 (by omega) (Nat.le_trans HSZ.out (by simp; omega)) (by have := HLN.out; omega) (by have := HLN.out; omega)).mono ?_; rintro e w5 hp; have hp' := hp; obtain ⟨vc, _, hp0, _⟩ := hp'; subst hp0; obtain ⟨v2', hps5, hfr5⟩ := PS.bord (pq HP.out) hp; clear hp; have HP2 := Aside0.mk hps5; have KS := Aside0.mk (PS.frame hfr5 at2_1 (by decide) (by have := blk_lt HP.out.k5; omega) (by have := blk_lt HP.out.k6; omega)); have HW2 := Aside0.mk (PS.row (pq HP.out) hfr5 (rq (Kd.R_mono (R_in HW.out) (fun _ hk => hk.2.2)))); have HB5 := Aside0.mk (((HBL.out.alloc (Nat.le_trans (Nat.le_of_lt HM.out) HSZ.out) _).alloc (by have := HSZ.out; have := HM.out; simp; omega) _).trans (hfr5.below (fun k hs => Nat.le_trans (Nat.le_of_lt HM.out) (SP_ge hs (Nat.le_refl _) (Nat.le_succ _))) (by have := HSZ.out; have := HM.out; simp; omega))); have HSZ5 := Aside0.mk (Nat.le_trans HSZ.out (Nat.le_trans (by simp; omega) hfr5.size)); clear hps5 hfr5; have u0 := kc KS.out 0 rfl; have u1 := kc KS.out 1 rfl; have g0 := blk_frozen KS.out 0; have g1 := blk_frozen KS.out 1) | ((with_reducible refine gate_builtin (b := .append) (xs := #[.tmp 53, .tmp 55]) rfl ?_); at_builtin; refine Kd.R_append k72 w2.heap.size rfl (.tmp 53) (.tmp 55) 66 72 (.agg #[.int .i64 0, .int .u32 0]) 16 rfl Try.underlying66 info72 rfl (by decide) (by omega) (.slice A' acc.length c') acc ⟨0, 0⟩ [.int .i64 (0), .int .u32 (0)] (fun _ => True) (fun _ => False) rfl (by first | (go_simp; done) | (go_simp; rfl)) (k72_mkM _ _ _ ⟨0, 0⟩) (fun _ hk => hk.elim) (fun _ _ => trivial) (Kd.R_mono HW2.out (fun _ _ => trivial)) (Below.refl _ _) (by have := HSZ5.out; simp; omega) (by have := HAC.out; omega) ?_; intro v7 w9 ho hb hg hat; obtain ⟨A9, c9, rfl⟩ := Kd.R_slice ho; rw [show (acc ++ [(⟨0, 0⟩ : S72)]).length = acc.length + 1 from by simp] at ho; have HO9 := Aside0.mk ho; have HG9 := Aside0.mk hg; clear ho hb hg hat))
                  go_roundg (ops.length - (kk + 1))
                  case measure => omega
                  case rel =>
                    have F9 := (Fr.refl (T72 w5 w2.heap.size) w5).grown HG9.out (fun k hk => .inl ⟨((Kd.R_bound HW2.out).1 k hk).2.1, Kd.R_typed HW2.out k hk⟩)
                    have hpl := HPL.out
                    rw [HD.out] at hpl
                    have he : endsF a0 a3 (h, xs, ys) ⟨x0, x1⟩ = ((bordF a0 h xs ys).1, [], (bordF a0 h xs ys).2) := by unfold endsF; rw [if_neg HX0.out, if_neg HX1.out, if_pos HX2.out]
                    have hs : saidF a0 a3 (h, xs, ys) ⟨x0, x1⟩ = ⟨0, 0⟩ := by unfold saidF; rw [if_neg HX0.out, if_neg HX1.out]
                    have hle := ends_len a0 a3 (h, xs, ys) ⟨x0, x1⟩
                    simp only [playF] at hpl
                    rw [he, hs] at hpl
                    rw [he] at hle
                    refine ⟨kk + 1, A9, c9, acc ++ [⟨0, 0⟩], by omega, by omega, by go_num, by simp, ⟨_, _, _, _, _, HP2.out.other F9, ?_, by simp; exact HAC.out, ?_, by simpa using HO9.out, ?_, ?_⟩⟩
                    · have := HLN.out
                      dsimp only at hle
                      omega
                    · rw [← hpl]; simp
                    · exact HB5.out.trans (F9.below (fun k hs => Nat.le_trans (Nat.le_of_lt HM.out) hs.1) (Nat.le_trans (Nat.le_of_lt HM.out) HSZ5.out))
                    · exact Nat.le_trans HSZ5.out F9.size
                · have HX2 := Aside0.mk c2
                  have c2b : (x0 == 2) = false := beq_eq_false_iff_ne.mpr c2
                  clear c2
                  have r0 := kc HP.out.k5 0 rfl
                  have r1 := kc HP.out.k5 1 rfl
                  have fz0 := blk_frozen HP.out.k5 0
                  have fz1 := blk_frozen HP.out.k5 1
                  have nz0 : w2.heap.size ≠ wr.heap.size := by have := HNR.out; omega
                  have nz1 : w2.heap.size ≠ wr.heap.size + 1 := by have := HNR.out; omega
                  have nz2 : w2.heap.size < wr.heap.size := by have := HNR.out; omega
                  have hdr := HP.out.drop
                  have hsz2 := hdr.2.size
                  have HP2 : Aside0 (PS (((wr.setCell ⟨w2.heap.size, 1, none⟩ (.slice none 0 0)).alloc (.cells #[.int .i64 x0, .int .u32 x1] 70 (0, 0))).alloc (.cells #[.int .i64 0, .int .u32 0] 72 (0, 0))) w2.heap.size w.heap.size w2.heap.size (w2.heap.size + 1) a0 a1 a2 a3 h [] ys (.slice none 0 0) v2) := ⟨pq hdr.1⟩
                  have hse : (wr.setCell ⟨w2.heap.size, 1, none⟩ (.slice none 0 0)).heap.size = wr.heap.size := by simp
                  have KS : Aside0 ((((wr.setCell ⟨w2.heap.size, 1, none⟩ (.slice none 0 0)).alloc (.cells #[.int .i64 x0, .int .u32 x1] 70 (0, 0))).alloc (.cells #[.int .i64 0, .int .u32 0] 72 (0, 0))).heap[wr.heap.size + 1]? = some (.cells #[.int .i64 0, .int .u32 0] 72 (0, 0))) := ⟨hse ▸ at2_1⟩
                  have HW2 : Aside0 (Kd.R k72 72 (((wr.setCell ⟨w2.heap.size, 1, none⟩ (.slice none 0 0)).alloc (.cells #[.int .i64 x0, .int .u32 x1] 70 (0, 0))).alloc (.cells #[.int .i64 0, .int .u32 0] 72 (0, 0))) w2.heap.size (fun k => k < wr.heap.size) (.slice A' acc.length c') acc) := ⟨rq (PS.row HP.out hdr.2 (Kd.R_mono (R_in HW.out) (fun _ hk => hk.2.2)))⟩
                  have HB5 : Aside0 (Below w.heap.size w (((wr.setCell ⟨w2.heap.size, 1, none⟩ (.slice none 0 0)).alloc (.cells #[.int .i64 x0, .int .u32 x1] 70 (0, 0))).alloc (.cells #[.int .i64 0, .int .u32 0] 72 (0, 0)))) := ⟨((HBL.out.setCell (Nat.le_of_lt HM.out) _).alloc (by have := HSZ.out; have := HM.out; simp; omega) _).alloc (by have := HSZ.out; have := HM.out; simp; omega) _⟩
                  have HSZ5 : Aside0 (w2.heap.size ≤ (((wr.setCell ⟨w2.heap.size, 1, none⟩ (.slice none 0 0)).alloc (.cells #[.int .i64 x0, .int .u32 x1] 70 (0, 0))).alloc (.cells #[.int .i64 0, .int .u32 0] 72 (0, 0))).heap.size) := ⟨by have := HSZ.out; simp; omega⟩
                  clear hdr hsz2 hse
                  go_wp2_with ((with_reducible refine gate_builtin (b := .append) (xs := #[.tmp 53, .tmp 55]) rfl ?_); at_builtin; refine Kd.R_append k72 w2.heap.size rfl (.tmp 53) (.tmp 55) 66 72 (.agg #[.int .i64 0, .int .u32 0]) 16 rfl Try.underlying66 info72 rfl (by decide) (by omega) (.slice A' acc.length c') acc ⟨0, 0⟩ [.int .i64 (0), .int .u32 (0)] (fun _ => True) (fun _ => False) rfl (by first | (go_simp; done) | (go_simp; rfl)) (k72_mkM _ _ _ ⟨0, 0⟩) (fun _ hk => hk.elim) (fun _ _ => trivial) (Kd.R_mono HW2.out (fun _ _ => trivial)) (Below.refl _ _) (by have := HSZ5.out; simp; omega) (by have := HAC.out; omega) ?_; intro v7 w9 ho hb hg hat; obtain ⟨A9, c9, rfl⟩ := Kd.R_slice ho; rw [show (acc ++ [(⟨0, 0⟩ : S72)]).length = acc.length + 1 from by simp] at ho; have HO9 := Aside0.mk ho; have HG9 := Aside0.mk hg; clear ho hb hg hat)
                  go_roundg (ops.length - (kk + 1))
                  case measure => omega
                  case rel =>
                    have F9 := (Fr.refl (T72 (((wr.setCell ⟨w2.heap.size, 1, none⟩ (.slice none 0 0)).alloc (.cells #[.int .i64 x0, .int .u32 x1] 70 (0, 0))).alloc (.cells #[.int .i64 0, .int .u32 0] 72 (0, 0))) w2.heap.size) (((wr.setCell ⟨w2.heap.size, 1, none⟩ (.slice none 0 0)).alloc (.cells #[.int .i64 x0, .int .u32 x1] 70 (0, 0))).alloc (.cells #[.int .i64 0, .int .u32 0] 72 (0, 0)))).grown HG9.out (fun k hk => .inl ⟨((Kd.R_bound HW2.out).1 k hk).2.1, Kd.R_typed HW2.out k hk⟩)
                    have hpl := HPL.out
                    rw [HD.out] at hpl
                    have he : endsF a0 a3 (h, xs, ys) ⟨x0, x1⟩ = (h, [], ys) := by unfold endsF; rw [if_neg HX0.out, if_neg HX1.out, if_neg HX2.out]
                    have hs : saidF a0 a3 (h, xs, ys) ⟨x0, x1⟩ = ⟨0, 0⟩ := by unfold saidF; rw [if_neg HX0.out, if_neg HX1.out]
                    have hle := ends_len a0 a3 (h, xs, ys) ⟨x0, x1⟩
                    simp only [playF] at hpl
                    rw [he, hs] at hpl
                    rw [he] at hle
                    refine ⟨kk + 1, A9, c9, acc ++ [⟨0, 0⟩], by omega, by omega, by go_num, by simp, ⟨_, _, _, _, _, HP2.out.other F9, ?_, by simp; exact HAC.out, ?_, by simpa using HO9.out, ?_, ?_⟩⟩
                    · have := HLN.out
                      dsimp only at hle
                      omega
                    · rw [← hpl]; simp
                    · exact HB5.out.trans (F9.below (fun k hs => Nat.le_trans (Nat.le_of_lt HM.out) hs.1) (Nat.le_trans (Nat.le_of_lt HM.out) HSZ5.out))
                    · exact Nat.le_trans HSZ5.out F9.size
          · have hltz : ¬ (kk : Int) < (ops.length : Int) := by omega
            have HE : Aside0 (kk = ops.length) := ⟨by omega⟩
            go_wp2
            go_ret
            have hpl := HPL.out
            rw [HE.out, List.drop_length] at hpl
            simp only [playF, List.append_nil] at hpl
            rw [← hpl]
            exact ⟨_, rfl, Kd.R_lower HW.out (Nat.le_of_lt HM.out), HBL.out⟩
    · rw [if_neg (fun x => hl x.2.1)] at h
      subst h
      have hli : (1000 : Int) < (ops.length : Int) := by omega
      go_enter Try.func47, Try.ntmps47
      go_wp2_with (go_at_call 79; refine (impl_isChan.calls a0 a1 a2 a3 true _ HB.out).mono ?_; rintro e w1 ⟨rfl, hb⟩; have HB1 := Aside0.mk hb; clear hb)
      go_ret
      exact ⟨_, rfl, Kd.R_nil _ _ _ _ _, ((Fr.refl (fun _ => False) w).alloc _ |>.step HB1.out).below (fun _ h => h.elim) (Nat.le_refl _)⟩
end Go.Proofs.Ytioifcanipijhaa.GK
