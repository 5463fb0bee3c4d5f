/- TlbRun, walked by hand. -/
import Derived.Test.YtglehilfemfiiaaGEx0
import Derived.Test.YtglehilfemfiiaaGEx1
import Derived.Test.YtglehilfemfiiaaTluE
import Derived.Shelf.Abstract
import Derived.Lib.SliceRun
namespace Go.Proofs.Ytglehilfemfiiaa.GE
open Go.Shelf Go.RowKit Go.Proofs.YtglehilfemfiiaaW.PrintWords Go.Proofs.YtglehilfemfiiaaW.PrintLast Go.Proofs.YtglehilfemfiiaaW.PrintMore Go.Proofs.Ytglehilfemfiiaa.Q Go.Proofs.Ytglehilfemfiiaa.Hnd
set_option linter.unusedVariables false
set_option linter.unusedSimpArgs false
def PredI (g : Nat) (lb : Array Value) (p : Int → Bool) (w : World) : Prop :=
  ∀ (W : World) (x : Int), Below w.heap.size w W → Calls Try.prog g (#[.int .i64 x] ++ lb) W fun e w' => e = .returned (.bool (p x)) ∧ Below w.heap.size w w'
def idxI (p : Int → Bool) (l : List Int) : Int := match l.findIdx? p with | some i => (i : Int) | none => -1
theorem idxI_hit (p : Int → Bool) (l : List Int) (i : Nat) (x : Int) (hx : l[i]? = some x) (hp : p x = true) (hn : ∀ (j : Nat) (y : Int), j < i → l[j]? = some y → p y = false) : idxI p l = (i : Int) := by
  have : l.findIdx? p = some i := by
    rw [List.findIdx?_eq_some_iff_getElem]
    obtain ⟨hi, e⟩ := List.getElem?_eq_some_iff.1 hx
    refine ⟨hi, by rw [e]; exact hp, fun j hj => ?_⟩
    have := hn j l[j] hj (List.getElem?_eq_getElem (by omega))
    simpa using this
  unfold idxI
  rw [this]
theorem idxI_miss (p : Int → Bool) (l : List Int) (hn : ∀ (j : Nat) (y : Int), l[j]? = some y → p y = false) : idxI p l = -1 := by
  have : l.findIdx? p = none := by
    rw [List.findIdx?_eq_none_iff]
    intro x hx
    obtain ⟨j, hj⟩ := List.getElem?_of_mem hx
    exact hn j x hj
  unfold idxI
  rw [this]
theorem idxI_any (p : Int → Bool) (l : List Int) : decide (idxI p l ≥ 0) = l.any p := by
  unfold idxI
  cases h : l.findIdx? p with
  | none =>
    rw [List.findIdx?_eq_none_iff] at h
    have : l.any p = false := by
      rw [List.any_eq_false]
      intro x hx
      simp [h x hx]
    rw [this]
    rfl
  | some i =>
    rw [List.findIdx?_eq_some_iff_getElem] at h
    obtain ⟨hi, hp, _⟩ := h
    have : l.any p = true := List.any_eq_true.2 ⟨l[i], List.getElem_mem _, hp⟩
    rw [this]
    show decide ((i : Int) ≥ 0) = true
    exact decide_eq_true (by omega)
set_option maxHeartbeats 2000000 in
set_option maxRecDepth 100000 in
theorem indexI_calls (p : Int → Bool) (g : Nat) (lb : Array Value) (eg : ∀ args w, (callFunc g args).run Try.prog w = .ok (.enter g args) w) (A : Option Addr) (c : Nat) (l : List Int) (w : World)
    (hp : PredI g lb p w) (hr : Kd.C (Kd.int .i64) w A l.length l) :
    Calls Try.prog 102 #[.slice A l.length c, .func (.func g) #[] lb] w fun e w' => e = .returned (.int .i64 (idxI p l)) ∧ Below w.heap.size w w' := by
  have hbig : l.length ≤ 9223372036854775807 := hr.2.1
  have HR := Aside0.mk hr
  have HP := Aside0.mk hp
  clear hr hp
  go_enter Try.func102, Try.ntmps102
  go_wp2
  go_loopg [5, 8] l.length (fun gg _ s8 wr => ∃ kk : Nat, kk ≤ l.length ∧ l.length - kk ≤ gg ∧ s8 = .int .i64 (kk : Int) ∧ Aside0 (Below w.heap.size w wr) ∧ Aside0 (∀ (j : Nat) (y : Int), j < kk → l[j]? = some y → p y = false))
  case atStart => exact ⟨0, Nat.zero_le _, by omega, rfl, ⟨Below.refl _ w⟩, ⟨fun j y hj => absurd hj (Nat.not_lt_zero _)⟩⟩
  case round =>
    obtain ⟨kk, hkk, hg, rfl, BW, AS⟩ := hrel
    by_cases hlt : kk < l.length
    · have hltz : (kk : Int) < (l.length : Int) := by omega
      have hr2 := Kd.C_below HR.out BW.out
      obtain ⟨ad, rfl, h0⟩ := Kd.at_int hr2 (kk : Int) (by omega) (by omega)
      have hy := rd_int l kk hlt
      have hcall := HP.out wr (rd l (kk : Int)) BW.out
      generalize rd l (kk : Int) = y at h0 hcall hy
      have HY := Aside0.mk hy
      clear hy
      rw [Int.toNat_natCast] at h0
      cases hq : p y with
      | true =>
        rw [hq] at hcall
        have HQ := Aside0.mk hq
        clear hq
        go_wp2_with (go_at_fn g; refine hcall.mono ?_; rintro e w' ⟨rfl, hb'⟩)
        go_ret
        exact ⟨by rw [idxI_hit p l kk y HY.out HQ.out AS.out]; rfl, hb'⟩
      | false =>
        rw [hq] at hcall
        have HQ := Aside0.mk hq
        clear hq
        go_wp2_with (go_at_fn g; refine hcall.mono ?_; rintro e w' ⟨rfl, hb'⟩)
        go_roundg (l.length - (kk + 1))
        case measure => omega
        case rel =>
          refine ⟨kk + 1, by omega, by omega, by go_num, ⟨hb'⟩, ⟨fun j z hj hz => ?_⟩⟩
          by_cases e : j = kk
          · subst e
            rw [HY.out] at hz
            injection hz with hz
            rw [← hz]
            exact HQ.out
          · exact AS.out j z (by omega) hz
    · have hltz : ¬ (kk : Int) < (l.length : Int) := by omega
      have HE : Aside0 (kk = l.length) := ⟨by omega⟩
      go_wp2
      go_ret
      exact ⟨by rw [idxI_miss p l (fun j z hz => AS.out j z (by rw [HE.out]; exact (List.getElem?_eq_some_iff.1 hz).1) hz)]; rfl, BW.out⟩
set_option maxHeartbeats 1000000 in
theorem containsI_calls (p : Int → Bool) (g : Nat) (lb : Array Value) (eg : ∀ args w, (callFunc g args).run Try.prog w = .ok (.enter g args) w) (A : Option Addr) (c : Nat) (l : List Int) (w : World)
    (hp : PredI g lb p w) (hr : Kd.C (Kd.int .i64) w A l.length l) :
    Calls Try.prog 77 #[.slice A l.length c, .func (.func g) #[] lb] w fun e w' => e = .returned (.bool (l.any p)) ∧ Below w.heap.size w w' := by
  rw [← idxI_any]
  have hcon := indexI_calls p g lb eg A c l w hp hr
  clear hp hr
  generalize idxI p l = r at hcon ⊢
  go_enter Try.func77, Try.ntmps77
  go_wp2_with (go_at_call 102; refine hcon.mono ?_; rintro e w' ⟨rfl, hb'⟩)
  go_ret
  exact ⟨rfl, hb'⟩
/-- The closure of TlbRun: 'no address'. -/
def badA (a : Int) : Bool := !(decide (0 ≤ a ∧ a ≤ 65535))
theorem badA_pred (w : World) : PredI 78 #[] badA w := fun W x hb => by
  have hw : impl_isAddr.f x = some (decide (0 ≤ x ∧ x ≤ 65535)) := by
    unfold impl_isAddr.f impl_within.f; split <;> simp_all <;> omega
  have HW := Aside0.mk hw
  have HB := Aside0.mk hb
  clear hw hb
  show Calls Try.prog 78 #[.int .i64 x] W _
  unfold badA
  generalize decide (0 ≤ x ∧ x ≤ 65535) = b at HW ⊢
  go_enter Try.func78, Try.ntmps78
  go_wp2_with (go_at_call 60; refine (impl_isAddr.calls x b _ HW.out).mono ?_; rintro e w' ⟨rfl, hb'⟩; have HD := Aside0.mk hb'; clear hb')
  go_ret
  exact ⟨rfl, HB.out.trans (HD.out.below.mono HB.out.size)⟩
/-- What the accesses are told. -/
def hitsF (s : Int) : List Int → List Int → List Bool
  | _, [] => []
  | l, a :: bs => (useF s l (wrap64 (Int.tdiv a 64))).1 :: hitsF s (useF s l (wrap64 (Int.tdiv a 64))).2 bs
theorem hitsF_length (s : Int) (bs : List Int) : ∀ l, (hitsF s l bs).length = bs.length := by
  induction bs with
  | nil => intro l; rfl
  | cons a bs ih => intro l; simp [hitsF, ih]
theorem drop_rd (l : List Int) (k : Nat) (hk : k < l.length) : l.drop k = rd l (k : Int) :: l.drop (k + 1) := by
  rw [List.drop_eq_getElem_cons hk]
  congr 1
  have := rd_int l k hk
  rw [List.getElem?_eq_getElem hk] at this
  exact Option.some.inj this
def impl_TlbRun.f (s : Int) (l : List Int) : Option (List Bool) := some (if (1 ≤ s ∧ s ≤ 8) ∧ l.length ≤ 2000 ∧ l.any badA = false then hitsF s [] l else [])
theorem apart4 {W : World} {base g : Nat} {s : Int} {v va : Value} {xs : List Int} {acc : List Bool} {ok : Nat → Prop} (hb : W.heap[g]? = some (.cells #[.int .i64 s, v] 40 (0, 0))) (hq : Kd.Q (Kd.int .i64) 3 W base (fun k => k ≠ g) v xs) (hr : Kd.R Kd.bool 4 W base ok va acc) : ∀ k, va.ownBlock = some k → k ≠ g ∧ v.ownBlock ≠ some k := by
  intro k hk
  obtain ⟨cs, hc⟩ := Kd.R_typed hr k hk
  refine ⟨fun e => ?_, fun e => ?_⟩
  · subst e
    rw [hb] at hc
    injection hc with hc
    injection hc with _ hc
    exact absurd hc (by decide)
  · obtain ⟨_, _, _, q, hq', cells, hcell⟩ := (Kd.Q_bound hq).1 k e
    rw [hc] at hcell
    injection hcell with hcell
    injection hcell with _ hcell
    subst hcell
    exact absurd hq' (by decide)
/-- What the loop holds behind k accesses. -/
def LoopT (w wr : World) (base g : Nat) (s : Int) (l : List Int) (k : Nat) (A : Option Addr) (c : Nat) (acc : List Bool) : Prop :=
  ∃ xs v, wr.heap[g]? = some (.cells #[.int .i64 s, v] 40 (0, 0)) ∧ Kd.Q (Kd.int .i64) 3 wr base (fun k => k ≠ g) v xs ∧ xs.length ≤ k ∧ acc.length = k ∧ acc ++ hitsF s xs (l.drop k) = hitsF s [] l ∧ Kd.R Kd.bool 4 wr base (fun _ => True) (.slice A acc.length c) acc ∧ Below w.heap.size w wr ∧ base ≤ wr.heap.size
set_option maxHeartbeats 8000000 in
set_option maxRecDepth 100000 in
theorem impl_TlbRun.calls (s : Int) (A : Option Addr) (c : Nat) (l : List Int) (r : List Bool) (w : World) (hr : Kd.C (Kd.int .i64) w A l.length l) (hc : l.length ≤ c) (h : impl_TlbRun.f s l = some r) :
    Calls Try.prog 23 #[.int .i64 s, .slice A l.length c] w fun e w' => ∃ v1_ : Value, e = .returned v1_ ∧ Kd.R Kd.bool 4 w' w.heap.size (fun _ => True) v1_ r ∧ Below w.heap.size w w' := by
  have hu40 := Try.underlying40
  unfold impl_TlbRun.f at h
  replace h := Option.some.inj h
  have HR := Aside0.mk hr
  have hwi : impl_within.f s 1 8 = some (decide (1 ≤ s ∧ s ≤ 8)) := by
    unfold impl_within.f; split <;> simp_all <;> omega
  have eg : ∀ args w, (callFunc 78 args).run Try.prog w = .ok (.enter 78 args) w := enters_of Try.func78 (by kernel_rfl) rfl
  have HCT := Aside0.mk (fun (W : World) (hC : Kd.C (Kd.int .i64) W A l.length l) => containsI_calls badA 78 #[] eg A c l W (badA_pred W) hC)
  clear hr eg
  by_cases hs : 1 ≤ s ∧ s ≤ 8
  · rw [decide_eq_true hs] at hwi
    have HWI := Aside0.mk hwi
    have hs1 := hs.1
    clear hwi
    by_cases hl : l.length ≤ 2000
    · have hli : (l.length : Int) ≤ 2000 := by omega
      cases hbad : l.any badA with
      | true =>
        rw [if_neg (fun x => by rw [hbad] at x; cases x.2.2)] at h
        subst h
        rw [hbad] at HCT
        clear hbad hs
        go_enter Try.func23, Try.ntmps23
        go_wp2_with (first | (go_at_call 76; refine (impl_within.calls s 1 8 true _ HWI.out).mono ?_; rintro e w1 ⟨rfl, ⟨nd, rfl⟩⟩) | (go_at_call 77; refine (HCT.out _ (Kd.C_drewN HR.out _)).mono ?_; rintro e w2 ⟨rfl, hb⟩; have HB2 := Aside0.mk ((((Fr.refl (fun _ => False) w).drewN nd).step hb).below (fun _ h => h.elim) (Nat.le_refl _)); clear hb))
        go_ret
        exact ⟨_, rfl, Kd.R_nil _ _ _ _ _, HB2.out⟩
      | false =>
        rw [if_pos ⟨hs, hl, hbad⟩] at h
        subst h
        rw [hbad] at HCT
        clear hbad hs
        go_enter Try.func23, Try.ntmps23
        go_wp2_with (first | (go_at_call 76; refine (impl_within.calls s 1 8 true _ HWI.out).mono ?_; rintro e w1 ⟨rfl, ⟨nd, rfl⟩⟩) | (go_at_call 77; refine (HCT.out _ (Kd.C_drewN HR.out _)).mono ?_; rintro e w2 ⟨rfl, hb⟩; have HB2 := Aside0.mk ((((Fr.refl (fun _ => False) w).drewN nd).step hb).below (fun _ h => h.elim) (Nat.le_refl _)); clear hb))
        have HM := Aside0.mk HB2.out.size
        go_loopg [6, 25] l.length (fun gg s6 s25 wr => ∃ (kk : Nat) (A' : Option Addr) (c' : Nat) (acc : List Bool), kk ≤ l.length ∧ l.length - kk ≤ gg ∧ s25 = .int .i64 (kk : Int) ∧ s6 = .slice A' acc.length c' ∧ Aside0 (LoopT w wr w2.heap.size w2.heap.size s l kk A' c' acc))
        case atStart => exact ⟨0, none, 0, [], by omega, by omega, rfl, rfl, ⟨[], .slice none 0 0, at1_0, Kd.Q_nil _ _ _ _ _, by simp, rfl, rfl, Kd.R_nil _ _ _ _ _, HB2.out.alloc HB2.out.size _, by simp⟩⟩
        case round =>
          obtain ⟨kk, A', c', acc, hk, hg, rfl, rfl, HLP⟩ := hrel
          obtain ⟨xs, v, hbox, hq, hlen, hacc, hplay, hrow, hbel, hsz⟩ := HLP.out
          clear HLP
          have HP := Aside0.mk hbox
          have HQ := Aside0.mk hq
          have HW := Aside0.mk hrow
          have HBL := Aside0.mk hbel
          have HPL := Aside0.mk hplay
          have HLN := Aside0.mk hlen
          have HAC := Aside0.mk hacc
          have HSZ := Aside0.mk hsz
          clear hbox hq hrow hbel hplay hlen hacc hsz
          by_cases hlt : kk < l.length
          · have hltz : (kk : Int) < (l.length : Int) := by omega
            obtain ⟨ad, rfl, h0⟩ := Kd.at_int (Kd.C_below HR.out HBL.out) (kk : Int) (by omega) (by omega)
            rw [Int.toNat_natCast] at h0
            have HD := Aside0.mk (drop_rd l kk hlt)
            generalize rd l (kk : Int) = x at h0 HD
            go_wp2_with (first | (go_at_call 72; refine (use_calls w2.heap.size s x v xs w2.heap.size _ HP.out HQ.out HSZ.out (by have := HLN.out; omega) hs1).mono ?_; rintro e w5 ⟨rfl, v', hb1, hq', hfr, hown⟩; have K1 := Aside0.mk hb1; have Q1 := Aside0.mk hq'; have HF := Aside0.mk hfr; have W1 := Aside0.mk (hfr.R (Kd.R_tight rfl HW.out) (fun k hk hs => by have := apart4 HP.out HQ.out HW.out k hk.symm; exact hs.elim this.1 this.2)); have SZ5 := Aside0.mk (Nat.le_trans HSZ.out hfr.size); clear hb1 hq' hfr hown) | ((with_reducible refine gate_builtin (b := .append) (xs := #[.tmp 29, .tmp 32]) rfl ?_); at_builtin; refine Kd.R_append Kd.bool w2.heap.size rfl (.tmp 29) (.tmp 32) 49 4 (.bool false) 1 rfl Try.underlying49 info4 rfl (by decide) (by omega) (.slice A' acc.length c') acc (useF s xs (wrap64 (Int.tdiv x 64))).1 [.bool (useF s xs (wrap64 (Int.tdiv x 64))).1] (fun _ => True) (fun _ => False) rfl (by first | (go_simp; done) | (go_simp; rfl)) rfl (fun _ hk => hk.elim) (fun _ _ => trivial) (Kd.R_mono W1.out (fun _ _ => trivial)) (Below.refl _ _) (by have := SZ5.out; simp; omega) (by have := HAC.out; omega) ?_; intro v7 w9 ho hb hg hat; obtain ⟨A9, c9, rfl⟩ := Kd.R_slice ho; rw [show (acc ++ [(useF s xs (wrap64 (Int.tdiv x 64))).1]).length = acc.length + 1 from by simp] at ho; have HO9 := Aside0.mk ho; have HG9 := Aside0.mk hg; clear ho hb hg hat))
            go_roundg (l.length - (kk + 1))
            case measure => omega
            case rel =>
              have hap := apart4 K1.out Q1.out W1.out
              have F9 : Fr (fun k => (Value.slice A' acc.length c').ownBlock = some k) w5 w9 := (Fr.refl _ w5).grown HG9.out (fun k hk => .inl hk)
              have hpl := HPL.out
              rw [HD.out] at hpl
              simp only [hitsF] at hpl
              have hle := useF_len s xs (wrap64 (Int.tdiv x 64))
              have hln := HLN.out
              refine ⟨kk + 1, A9, c9, acc ++ [(useF s xs (wrap64 (Int.tdiv x 64))).1], by omega, by omega, by go_num, by simp, ⟨(useF s xs (wrap64 (Int.tdiv x 64))).2, v', F9.blk K1.out (fun e => (hap _ e).1 rfl), ?_, by omega, by simp; exact HAC.out, by rw [← hpl]; simp, by simpa using HO9.out, ?_, Nat.le_trans SZ5.out F9.size⟩⟩
              · exact Kd.Q_mono (F9.Q (Kd.Q_tight2 rfl Q1.out) (fun k hk e => (hap k e).2 hk.1.symm)) (fun k hk => hk.2)
              · exact (HBL.out.trans (HF.out.below (fun k hk => hk.elim (fun e => by rw [e]; exact HM.out) (fun e => Nat.le_trans HM.out ((Kd.Q_bound HQ.out).1 k e).2.1)) HBL.out.size)).trans (F9.below (fun k e => Nat.le_trans HM.out ((Kd.R_bound W1.out).1 k e).2.1) (Nat.le_trans HM.out SZ5.out))
          · have hltz : ¬ (kk : Int) < (l.length : Int) := by omega
            have HE : Aside0 (kk = l.length) := ⟨by omega⟩
            go_wp2
            go_ret
            have hpl := HPL.out
            rw [HE.out, List.drop_length] at hpl
            simp only [hitsF, List.append_nil] at hpl
            rw [← hpl]
            exact ⟨_, rfl, Kd.R_lower HW.out HM.out, HBL.out⟩
    · rw [if_neg (fun x => hl x.2.1)] at h
      subst h
      have hli : (2000 : Int) < (l.length : Int) := by omega
      go_enter Try.func23, Try.ntmps23
      go_wp2_with (go_at_call 76; refine (impl_within.calls s 1 8 true _ HWI.out).mono ?_; rintro e w1 ⟨rfl, ⟨nd, rfl⟩⟩)
      go_ret
      exact ⟨_, rfl, Kd.R_nil _ _ _ _ _, pw_below_drewN (Below.refl _ _) _⟩
  · rw [decide_eq_false hs] at hwi
    have HWI := Aside0.mk hwi
    rw [if_neg (fun x => hs x.1)] at h
    subst h
    clear hwi hs
    go_enter Try.func23, Try.ntmps23
    go_wp2_with (go_at_call 76; refine (impl_within.calls s 1 8 false _ HWI.out).mono ?_; rintro e w1 ⟨rfl, ⟨nd, rfl⟩⟩)
    go_ret
    exact ⟨_, rfl, Kd.R_nil _ _ _ _ _, pw_below_drewN (Below.refl _ _) _⟩
end Go.Proofs.Ytglehilfemfiiaa.GE
