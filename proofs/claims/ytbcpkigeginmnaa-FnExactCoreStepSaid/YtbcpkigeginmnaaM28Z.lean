/- What an argument of a plain type (whole numbers, bools, strings, structs and slices of these) reads as, told by the words of the print: its cells are of the kind d, and every number in it is one of its kind. For any program and any memory. -/
import Derived.Test.YtbcpkigeginmnaaM26Z
import Derived.Test.YtbcpkigeginmnaaM16Z
import Derived.Test.YtbcpkigeginmnaaStzFZ
import Derived.Test.YtbcpkigeginmnaaM25Z
import Derived.ProofKit
import Derived.Deep.Slices
import Derived.Deep.Fields
import Derived.Carry
import Derived.SizedLaws
import Derived.Test.YtbcpkigeginmnaaWWordsZ
set_option linter.unusedVariables false
set_option linter.unusedSimpArgs false
section
namespace Go.Proofs.Ytbcpkigeginmnaa.AidFS
open Go.RowKit Go.Proofs.Ytbcpkigeginmnaa Go.Proofs.Ytbcpkigeginmnaa.AidFW Go.Proofs.Ytbcpkigeginmnaa.AidFF Go.Proofs.Ytbcpkigeginmnaa.AidFG Go.Proofs.Ytbcpkigeginmnaa.AidFL Go.Proofs.Ytbcpkigeginmnaa.AidFP Go.Proofs.Ytbcpkigeginmnaa.AidFK Go.Proofs.Ytbcpkigeginmnaa.AidFA Go.Proofs.Ytbcpkigeginmnaa.GF Go.Proofs.Ytbcpkigeginmnaa.Lst Go.Proofs.YtbcpkigeginmnaaW.PrintWords Go.Proofs.YtbcpkigeginmnaaW.PrintLast
structure Right (l : List S70) (r : List Int) (p : Int) (ram : List (List Int)) (k : Nat) : Prop where
  wf : ∀ x ∈ l, WfW x
  W : areWB l = true
  hlen : l.length ≤ 9000000
  r16 : r.length = 16
  rw : ∀ i : Int, 0 ≤ i → i ≤ 15 → 0 ≤ rd r i ∧ rd r i < 4294967296
  p0 : 0 ≤ p
  p1 : p < 4294967296
  hram : ram.length = l.length
  fit : Fits l ram
  by_ : ∀ x ∈ ram, Bytes x
  k0 : l.length + 3000 < k
def Comes (l : List S70) (r : List Int) (p : Int) (ram : List (List Int)) (cy : Int) : Prop :=
  ∃ (R : List Int) (P : Int) (M : List (List Int)) (fa op tc : Int) (wr ca : Bool), CoreC l r p ram cy R P M fa op tc wr ca ∧ StsC l r p ram cy R P M fa op tc wr ca ∧ R.length = r.length ∧ M.length = ram.length ∧ GF.tot M = GF.tot ram
structure Dec (l : List S70) (r : List Int) (p : Int) (ram : List (List Int)) (k : Nat) (x op a b cc im : Int) : Prop where
  fi : impl_Guest_load.f k r p ram l p 4 4 = some (x, 0, p)
  fs : spec_l08Fetch.f k l r p ram = some (x, 0)
  x0 : 0 ≤ x
  x1 : x < 4294967296
  hA : decA x = #[.int .i64 op, .int .i64 a, .int .i64 b, .int .i64 cc, .int .i64 im]
  hB : decB x = true
  ha : 0 ≤ a ∧ a ≤ 15
  hb : 0 ≤ b ∧ b ≤ 15
  hcc : 0 ≤ cc ∧ cc ≤ 15
theorem setR_length (r : List Int) (n x : Int) : (setR r n x).length = r.length := by unfold setR; split <;> simp
theorem readB_range {row : List Int} (hB : Bytes row) (o : Nat) (s : Int) (hs : s = 1 ∨ s = 4) (h : (o : Int) + s ≤ (row.length : Int)) : 0 ≤ readB row o s ∧ readB row o s < 4294967296 := by
  unfold readB
  rcases hs with rfl | rfl
  · rw [if_pos rfl]
    have := byte_at hB o (by omega)
    omega
  · rw [if_neg (by decide)]
    have b0 := byte_at hB o (by omega)
    have b1 := byte_at hB (o + 1) (by omega)
    have b2 := byte_at hB (o + 2) (by omega)
    have b3 := byte_at hB (o + 3) (by omega)
    omega
section
variable {l : List S70} {r : List Int} {p : Int} {ram : List (List Int)} {k : Nat} {x op a b cc im : Int}
theorem Right.place (h : Right l r p ram k) (ad s kd : Int) (a0 : 0 ≤ ad) (a1 : ad < 4294967296) (hs : s = 1 ∨ s = 4) (h0 : fltB l ad s kd = 0) : ∃ i o : Nat, i < l.length ∧ idxB (hasB ad) l = (i : Int) ∧ ad - (rd_T70 l (i : Int)).f0 = (o : Int) ∧ (o : Int) + s ≤ (rd_T70 l (i : Int)).f1 ∧ (rd_T70 l (i : Int)).f1 ≤ 2048 := by
  obtain ⟨i, o, hi2, he, ho, hos, hf1, _, _⟩ := AidFL.place l h.wf h.W ad s kd (wf32 a0 a1) hs h0
  exact ⟨i, o, hi2, he, ho, hos, hf1⟩
theorem Right.load (h : Right l r p ram k) (P ad s kd : Int) (a0 : 0 ≤ ad) (a1 : ad < 4294967296) (hs : s = 1 ∨ s = 4) (hk : kd = 1 ∨ kd = 2 ∨ kd = 4) (h0 : fltB l ad s kd = 0) :
    ∃ z, 0 ≤ z ∧ z < 4294967296 ∧ impl_Guest_load.f k r P ram l ad s kd = some (z, 0, P) ∧ ∀ p2, spec_l08Get.f k l r p2 ram ad s = some z := by
  obtain ⟨i, o, hi2, he, ho, hos, hf1⟩ := h.place ad s kd a0 a1 hs h0
  have hl := h.fit i hi2
  have hB : Bytes (rd_L2 ram (i : Int)) := by rw [rd2 ram i (by have := h.hram; omega)]; exact h.by_ _ (List.getElem_mem _)
  have hr := readB_range hB o s hs (by omega)
  exact ⟨_, hr.1, hr.2, load_i l r P ram h.hram h.fit h.by_ ad s kd (wf32 a0 a1) hs hk h0 i o hi2 he ho hos hf1 k (by have := h.k0; omega), fun p2 => get_s l r p2 ram h.hram h.fit h.by_ h.hlen ad s hs i o hi2 he ho hos hf1 k (by have := h.k0; omega)⟩
theorem Right.loadf (h : Right l r p ram k) (P ad s kd : Int) (a0 : 0 ≤ ad) (a1 : ad < 4294967296) (hs : s = 1 ∨ s = 4) (hk : kd = 1 ∨ kd = 2 ∨ kd = 4) (h0 : fltB l ad s kd ≠ 0) : impl_Guest_load.f k r P ram l ad s kd = some (0, fltB l ad s kd, P) :=
  load_f l r P ram ad s kd (wf32 a0 a1) k (by have := h.k0; omega) _ (if_pos ⟨hs, hk⟩) h0
theorem Right.faults (h : Right l r p ram k) (ad s kd : Int) (a0 : 0 ≤ ad) (a1 : ad < 4294967296) (hs : s = 1 ∨ s = 4) (hk : kd = 1 ∨ kd = 2 ∨ kd = 4) : spec_l07Fault.f k l ad s kd = some (fltB l ad s kd) :=
  fault_s l (areW_win h.wf h.W) h.hlen ad s kd (wf32 a0 a1) hs hk k (by have := h.k0; omega)
theorem Right.faulti (h : Right l r p ram k) (ad s kd : Int) (a0 : 0 ≤ ad) (a1 : ad < 4294967296) (hs : s = 1 ∨ s = 4) (hk : kd = 1 ∨ kd = 2 ∨ kd = 4) : impl_faultAt.f k l ad s kd = some (fltB l ad s kd) := by
  rw [flt_j l ad s kd (wf32 a0 a1) k (by have := h.k0; omega), if_pos ⟨hs, hk⟩]
theorem Right.put (h : Right l r p ram k) (ad z : Int) (s : Nat) (a0 : 0 ≤ ad) (a1 : ad < 4294967296) (z0 : 0 ≤ z) (z1 : z < 4294967296) (hs : (s : Int) = 1 ∨ (s : Int) = 4) (h0 : fltB l ad (s : Int) 2 = 0) :
    ∃ i o bs, PutAt k l ram ad z s i o bs ∧ GF.tot (GF.stM ram i o bs s) = GF.tot ram := by
  have hk := h.k0
  have hw : wrap64 ad = ad := wr (by omega) (by omega)
  have fi := h.faulti ad (s : Int) 2 a0 a1 hs (by omega)
  have fs := flt_s l h.wf h.hlen ad (s : Int) 2 (wf32 a0 a1) k (by omega)
  have ft : fltT l ad (s : Int) 2 = fltB l ad (s : Int) 2 := by unfold fltT; rw [if_pos h.W, if_pos ⟨hs, by omega⟩]
  rw [ft, h0] at fs
  rw [h0] at fi
  obtain ⟨i, o, hi2, he, ho, hos, hf1⟩ := h.place ad (s : Int) 2 a0 a1 hs h0
  have hfi := h.fit i hi2
  have hi3 : i < ram.length := by have := h.hram; omega
  obtain ⟨bs, hbs⟩ : ∃ bs, impl_BytesOf.f z = some bs := ⟨_, rfl⟩
  have hb4 : bs.length = 4 := by unfold impl_BytesOf.f at hbs; injection hbs with hbs; subst hbs; rfl
  refine ⟨i, o, bs, ⟨by rw [hw, at_s l ad h.hlen k (by omega), he], by rw [hw, at_i, he], fi, fs, by rw [bytes_eq z (wf32 z0 z1), hbs], hbs, hi2, hi3, by rw [hw, ho], by omega, by omega, hb4, by omega, by omega⟩, ?_⟩
  unfold GF.stM
  exact tot_set ram i _ hi3 (by rw [putB_length _ _ _ (by rw [List.length_take, hb4]; omega), rd2 ram i hi3])
theorem Dec.core_ok (d : Dec l r p ram k x op a b cc im) (h : Right l r p ram k) (cy : Int) (h25 : op < 25) {R : List Int} {P : Int} {M : List (List Int)} {tc : Int} {wr : Bool} (hd : DoesOk l r p ram op a b cc im cy R P M tc wr) : CoreC l r p ram cy R P M 0 op tc wr false :=
  fun w W A c A0 c0 A2 c2 hc => GF.core_ok hc h.r16 h.p0 h.p1 cy x d.fi d.x0 d.x1 op a b cc im d.hA d.hB h25 R P M tc wr hd
theorem Dec.dok (d : Dec l r p ram k x op a b cc im) (cy : Int) {R : List Int} {P : Int} {M : List (List Int)} {tc : Int} {wr : Bool} (hw : DoWay l r p ram a b cc im cy op R P M tc wr) : DoesOk l r p ram op a b cc im cy R P M tc wr :=
  fun w0 w9 W lo hi gs v0 v2 A c hd => GF.do_ok w0 w9 W lo hi gs v0 v2 r p ram A c l op a b cc im cy hd d.ha d.hb d.hcc R P M tc wr hw
theorem Dec.dno (d : Dec l r p ram k x op a b cc im) (cy : Int) {t : Int} (hw : DoNo l r p ram a b cc im cy op t) : DoesBad l r p ram op a b cc im cy t :=
  fun w0 w9 W lo hi gs v0 v2 A c hd => GF.do_no w0 w9 W lo hi gs v0 v2 r p ram A c l op a b cc im cy hd d.ha d.hb d.hcc t hw
theorem Dec.sts (d : Dec l r p ram k x op a b cc im) (h : Right l r p ram k) (cy : Int) (h25 : op < 25) {R : List Int} {P : Int} {M : List (List Int)} {fa tc : Int} {wr : Bool} (hw : StsWay k l r p ram a b cc im cy op R P M fa tc wr) : StsC l r p ram cy R P M fa op tc wr false :=
  fun w0 W lo hi v0 v2 A c hs => GF.sts_way hs h.r16 h.p0 h.p1 cy x d.fs d.x0 d.x1 op a b cc im d.hA d.hB d.ha d.hb d.hcc h25 R P M fa tc wr hw
theorem Dec.core_bad (d : Dec l r p ram k x op a b cc im) (h : Right l r p ram k) (cy : Int) (h25 : op < 25) {t : Int} (ht : t ≠ 0) (hd : DoesBad l r p ram op a b cc im cy t) : CoreC l r p ram cy r p ram t op (-1) false false :=
  fun w W A c A0 c0 A2 c2 hc => GF.core_bad hc h.r16 h.p0 h.p1 cy x d.fi d.x0 d.x1 op a b cc im d.hA d.hB h25 t ht hd
theorem comes_calls (d : Dec l r p ram k x op a b cc im) (h : Right l r p ram k) (cy : Int) (h25 : op ≥ 25) : Comes l r p ram cy := by
  exact ⟨_, _, _, _, _, _, _, _, fun w W A c A0 c0 A2 c2 hc => GF.core_calls hc h.r16 h.p0 h.p1 cy x d.fi d.x0 d.x1 op a b cc im d.hA d.hB h25, fun w0 W lo hi v0 v2 A c hs => GF.sts_calls hs h.r16 h.p0 h.p1 cy x d.fs d.x0 d.x1 op a b cc im d.hA d.hB h25, rfl, rfl, rfl⟩
theorem comes_0 (d : Dec l r p ram k x 0 a b cc im) (h : Right l r p ram k) (cy : Int) : Comes l r p ram cy := by
  exact ⟨_, _, _, _, _, _, _, _, d.core_ok h cy (by decide) (d.dok cy (.w0 rfl)), d.sts h cy (by decide) (.w0 rfl), rfl, rfl, rfl⟩
theorem comes_23 (d : Dec l r p ram k x 23 a b cc im) (h : Right l r p ram k) (cy : Int) : Comes l r p ram cy := by
  exact ⟨_, _, _, _, _, _, _, _, d.core_ok h cy (by decide) (d.dok cy (.w23 rfl)), d.sts h cy (by decide) (.w23 rfl), rfl, rfl, rfl⟩
theorem comes_13 (d : Dec l r p ram k x 13 a b cc im) (h : Right l r p ram k) (cy : Int) : Comes l r p ram cy := by
  exact ⟨_, _, _, _, _, _, _, _, d.core_ok h cy (by decide) (d.dok cy (.w13 rfl)), d.sts h cy (by decide) (.w13 rfl), setR_length _ _ _, rfl, rfl⟩
theorem comes_14 (d : Dec l r p ram k x 14 a b cc im) (h : Right l r p ram k) (cy : Int) : Comes l r p ram cy := by
  exact ⟨_, _, _, _, _, _, _, _, d.core_ok h cy (by decide) (d.dok cy (.w14 rfl)), d.sts h cy (by decide) (.w14 rfl), setR_length _ _ _, rfl, rfl⟩
theorem comes_22 (d : Dec l r p ram k x 22 a b cc im) (h : Right l r p ram k) (cy : Int) : Comes l r p ram cy := by
  exact ⟨_, _, _, _, _, _, _, _, d.core_ok h cy (by decide) (d.dok cy (.w22 rfl)), d.sts h cy (by decide) (.w22 rfl), setR_length _ _ _, rfl, rfl⟩
theorem comes_24 (d : Dec l r p ram k x 24 a b cc im) (h : Right l r p ram k) (cy : Int) : Comes l r p ram cy := by
  exact ⟨_, _, _, _, _, _, _, _, d.core_ok h cy (by decide) (d.dok cy (.w24 rfl)), d.sts h cy (by decide) (.w24 rfl), setR_length _ _ _, rfl, rfl⟩
theorem comes_alu (d : Dec l r p ram k x op a b cc im) (h : Right l r p ram k) (cy : Int) (h12 : 1 ≤ op ∧ op ≤ 12) : Comes l r p ram cy := by
  obtain ⟨z, t, es, ei⟩ := alu_both op (rd r b) (rd r cc) (h.rw b d.hb.1 d.hb.2) (h.rw cc d.hcc.1 d.hcc.2) k (by have := h.k0; omega)
  by_cases ht : t = 0
  · subst ht
    exact ⟨_, _, _, _, _, _, _, _, d.core_ok h cy (by omega) (d.dok cy (.walu (within_in h12) z ei)), d.sts h cy (by omega) (.walu_ok (in_in h12) z es), setR_length _ _ _, rfl, rfl⟩
  · exact ⟨_, _, _, _, _, _, _, _, d.core_bad h cy (by omega) ht (d.dno cy (.walu (within_in h12) z t ei)), d.sts h cy (by omega) (.walu_no (in_in h12) z t ht es), rfl, rfl, rfl⟩
theorem comes_19 (d : Dec l r p ram k x 19 a b cc im) (h : Right l r p ram k) (cy : Int) : Comes l r p ram cy := by
  obtain ⟨y, es, ei⟩ := taken_both 19 (rd r a) (rd r b) (h.rw a d.ha.1 d.ha.2) (h.rw b d.hb.1 d.hb.2)
  cases y with
  | true => exact ⟨_, _, _, _, _, _, _, _, d.core_ok h cy (by decide) (d.dok cy (.w19_t rfl ei)), d.sts h cy (by decide) (.w19_t rfl es), rfl, rfl, rfl⟩
  | false => exact ⟨_, _, _, _, _, _, _, _, d.core_ok h cy (by decide) (d.dok cy (.w19_f rfl ei)), d.sts h cy (by decide) (.w19_f rfl es), rfl, rfl, rfl⟩
theorem comes_20 (d : Dec l r p ram k x 20 a b cc im) (h : Right l r p ram k) (cy : Int) : Comes l r p ram cy := by
  obtain ⟨y, es, ei⟩ := taken_both 20 (rd r a) (rd r b) (h.rw a d.ha.1 d.ha.2) (h.rw b d.hb.1 d.hb.2)
  cases y with
  | true => exact ⟨_, _, _, _, _, _, _, _, d.core_ok h cy (by decide) (d.dok cy (.w20_t rfl ei)), d.sts h cy (by decide) (.w20_t rfl es), rfl, rfl, rfl⟩
  | false => exact ⟨_, _, _, _, _, _, _, _, d.core_ok h cy (by decide) (d.dok cy (.w20_f rfl ei)), d.sts h cy (by decide) (.w20_f rfl es), rfl, rfl, rfl⟩
theorem comes_21 (d : Dec l r p ram k x 21 a b cc im) (h : Right l r p ram k) (cy : Int) : Comes l r p ram cy := by
  obtain ⟨y, es, ei⟩ := taken_both 21 (rd r a) (rd r b) (h.rw a d.ha.1 d.ha.2) (h.rw b d.hb.1 d.hb.2)
  cases y with
  | true => exact ⟨_, _, _, _, _, _, _, _, d.core_ok h cy (by decide) (d.dok cy (.w21_t rfl ei)), d.sts h cy (by decide) (.w21_t rfl es), rfl, rfl, rfl⟩
  | false => exact ⟨_, _, _, _, _, _, _, _, d.core_ok h cy (by decide) (d.dok cy (.w21_f rfl ei)), d.sts h cy (by decide) (.w21_f rfl es), rfl, rfl, rfl⟩
theorem comes_15 (d : Dec l r p ram k x 15 a b cc im) (h : Right l r p ram k) (cy : Int) : Comes l r p ram cy := by
  have a0 : 0 ≤ ((rd r b + im) % 4294967296) := by omega
  have a1 : ((rd r b + im) % 4294967296) < 4294967296 := by omega
  have fs := h.faults ((rd r b + im) % 4294967296) 4 1 a0 a1 (by decide) (by decide)
  by_cases ht : fltB l ((rd r b + im) % 4294967296) 4 1 = 0
  · obtain ⟨z, z0, z1, ei, es⟩ := h.load ((p + 4) % 4294967296) ((rd r b + im) % 4294967296) 4 1 a0 a1 (by decide) (by decide) ht
    rw [ht] at fs
    exact ⟨_, _, _, _, _, _, _, _, d.core_ok h cy (by decide) (d.dok cy (.w15 rfl z k ei)), d.sts h cy (by decide) (.w15_ok rfl fs z (es p)), setR_length _ _ _, rfl, rfl⟩
  · have ei := h.loadf ((p + 4) % 4294967296) ((rd r b + im) % 4294967296) 4 1 a0 a1 (by decide) (by decide) ht
    exact ⟨_, _, _, _, _, _, _, _, d.core_bad h cy (by decide) ht (d.dno cy (.w15 rfl _ ht k ei)), d.sts h cy (by decide) (.w15_no rfl _ ht fs), rfl, rfl, rfl⟩
theorem comes_16 (d : Dec l r p ram k x 16 a b cc im) (h : Right l r p ram k) (cy : Int) : Comes l r p ram cy := by
  have a0 : 0 ≤ ((rd r b + im) % 4294967296) := by omega
  have a1 : ((rd r b + im) % 4294967296) < 4294967296 := by omega
  have fs := h.faults ((rd r b + im) % 4294967296) 4 2 a0 a1 (by decide) (by decide)
  by_cases ht : fltB l ((rd r b + im) % 4294967296) 4 2 = 0
  · obtain ⟨i, o, bs, hp, e⟩ := h.put ((rd r b + im) % 4294967296) (rd r a) 4 a0 a1 (h.rw a d.ha.1 d.ha.2).1 (h.rw a d.ha.1 d.ha.2).2 (by decide) ht
    rw [ht] at fs
    exact ⟨_, _, _, _, _, _, _, _, d.core_ok h cy (by decide) (d.dok cy (.w16 rfl i o k bs hp)), d.sts h cy (by decide) (.w16_ok rfl fs i o bs hp), rfl, stM_length _ _ _ _ _, e⟩
  · have ei := h.faulti ((rd r b + im) % 4294967296) 4 2 a0 a1 (by decide) (by decide)
    exact ⟨_, _, _, _, _, _, _, _, d.core_bad h cy (by decide) ht (d.dno cy (.w16 rfl _ ht k ei)), d.sts h cy (by decide) (.w16_no rfl _ ht fs), rfl, rfl, rfl⟩
theorem comes_17 (d : Dec l r p ram k x 17 a b cc im) (h : Right l r p ram k) (cy : Int) : Comes l r p ram cy := by
  have a0 : 0 ≤ ((rd r b + im) % 4294967296) := by omega
  have a1 : ((rd r b + im) % 4294967296) < 4294967296 := by omega
  have fs := h.faults ((rd r b + im) % 4294967296) 1 1 a0 a1 (by decide) (by decide)
  by_cases ht : fltB l ((rd r b + im) % 4294967296) 1 1 = 0
  · obtain ⟨z, z0, z1, ei, es⟩ := h.load ((p + 4) % 4294967296) ((rd r b + im) % 4294967296) 1 1 a0 a1 (by decide) (by decide) ht
    rw [ht] at fs
    exact ⟨_, _, _, _, _, _, _, _, d.core_ok h cy (by decide) (d.dok cy (.w17 rfl z k ei)), d.sts h cy (by decide) (.w17_ok rfl fs z (es p)), setR_length _ _ _, rfl, rfl⟩
  · have ei := h.loadf ((p + 4) % 4294967296) ((rd r b + im) % 4294967296) 1 1 a0 a1 (by decide) (by decide) ht
    exact ⟨_, _, _, _, _, _, _, _, d.core_bad h cy (by decide) ht (d.dno cy (.w17 rfl _ ht k ei)), d.sts h cy (by decide) (.w17_no rfl _ ht fs), rfl, rfl, rfl⟩
theorem comes_18 (d : Dec l r p ram k x 18 a b cc im) (h : Right l r p ram k) (cy : Int) : Comes l r p ram cy := by
  have a0 : 0 ≤ ((rd r b + im) % 4294967296) := by omega
  have a1 : ((rd r b + im) % 4294967296) < 4294967296 := by omega
  have fs := h.faults ((rd r b + im) % 4294967296) 1 2 a0 a1 (by decide) (by decide)
  by_cases ht : fltB l ((rd r b + im) % 4294967296) 1 2 = 0
  · obtain ⟨i, o, bs, hp, e⟩ := h.put ((rd r b + im) % 4294967296) (rd r a) 1 a0 a1 (h.rw a d.ha.1 d.ha.2).1 (h.rw a d.ha.1 d.ha.2).2 (by decide) ht
    rw [ht] at fs
    exact ⟨_, _, _, _, _, _, _, _, d.core_ok h cy (by decide) (d.dok cy (.w18 rfl i o k bs hp)), d.sts h cy (by decide) (.w18_ok rfl fs i o bs hp), rfl, stM_length _ _ _ _ _, e⟩
  · have ei := h.faulti ((rd r b + im) % 4294967296) 1 2 a0 a1 (by decide) (by decide)
    exact ⟨_, _, _, _, _, _, _, _, d.core_bad h cy (by decide) ht (d.dno cy (.w18 rfl _ ht k ei)), d.sts h cy (by decide) (.w18_no rfl _ ht fs), rfl, rfl, rfl⟩
theorem Dec.comes (d : Dec l r p ram k x op a b cc im) (h : Right l r p ram k) (h0 : 0 ≤ op) (cy : Int) : Comes l r p ram cy := by
  by_cases h25 : op ≥ 25
  · exact comes_calls d h cy h25
  · by_cases h12 : 1 ≤ op ∧ op ≤ 12
    · exact comes_alu d h cy h12
    · have hc : op = 0 ∨ op = 13 ∨ op = 14 ∨ op = 15 ∨ op = 16 ∨ op = 17 ∨ op = 18 ∨ op = 19 ∨ op = 20 ∨ op = 21 ∨ op = 22 ∨ op = 23 ∨ op = 24 := by omega
      rcases hc with rfl | rfl | rfl | rfl | rfl | rfl | rfl | rfl | rfl | rfl | rfl | rfl | rfl
      · exact comes_0 d h cy
      · exact comes_13 d h cy
      · exact comes_14 d h cy
      · exact comes_15 d h cy
      · exact comes_16 d h cy
      · exact comes_17 d h cy
      · exact comes_18 d h cy
      · exact comes_19 d h cy
      · exact comes_20 d h cy
      · exact comes_21 d h cy
      · exact comes_22 d h cy
      · exact comes_23 d h cy
      · exact comes_24 d h cy
theorem Right.comes (h : Right l r p ram k) (cy : Int) : Comes l r p ram cy := by
  have hw : wrap64 p = p := by have := h.p0; have := h.p1; exact wr (by omega) (by omega)
  have fs := h.faults p 4 4 h.p0 h.p1 (by decide) (by decide)
  by_cases ht : fltB l p 4 4 = 0
  · obtain ⟨x, x0, x1, ei, es⟩ := h.load p p 4 4 h.p0 h.p1 (by decide) (by decide) ht
    have ef : spec_l08Fetch.f k l r p ram = some (x, 0) := by
      unfold spec_l08Fetch.f
      rw [fs, Option.bind_some, if_pos ht, hw, es p, Option.bind_some]
    cases hB : decB x with
    | false => exact ⟨_, _, _, _, _, _, _, _, fun w W A c A0 c0 A2 c2 hc => GF.core_nodec hc h.r16 h.p0 h.p1 cy x ei x0 x1 hB, fun w0 W lo hi v0 v2 A c hs => GF.sts_nodec hs h.r16 h.p0 h.p1 cy x ef x0 x1 hB, rfl, rfl, rfl⟩
    | true =>
      have hA : decA x = #[.int .i64 (x / 67108864), .int .i64 (x / 4194304 % 16), .int .i64 (x / 262144 % 16), .int .i64 (x / 16384 % 16), .int .i64 (imX x)] := by unfold decA; rw [if_pos hB]
      exact Dec.comes ⟨ei, ef, x0, x1, hA, hB, by omega, by omega, by omega⟩ h (by omega) cy
  · have ei := h.loadf p p 4 4 h.p0 h.p1 (by decide) (by decide) ht
    have ef : spec_l08Fetch.f k l r p ram = some (0, fltB l p 4 4) := by
      unfold spec_l08Fetch.f
      rw [fs, Option.bind_some, if_neg ht]
    exact ⟨_, _, _, _, _, _, _, _, fun w W A c A0 c0 A2 c2 hc => GF.core_fault hc h.r16 h.p0 h.p1 cy _ ht ei, fun w0 W lo hi v0 v2 A c hs => GF.sts_fault hs h.r16 h.p0 h.p1 cy _ ht ef, rfl, rfl, rfl⟩
end
end Go.Proofs.Ytbcpkigeginmnaa.AidFS
end
section
namespace Go.Proofs.Ytbcpkigeginmnaa.Pure
open Go.RowKit Go.Proofs.Ytbcpkigeginmnaa Go.Proofs.Ytbcpkigeginmnaa.AidFW Go.Proofs.Ytbcpkigeginmnaa.AidFG Go.Proofs.Ytbcpkigeginmnaa.AidFL Go.Proofs.Ytbcpkigeginmnaa.AidFP Go.Proofs.Ytbcpkigeginmnaa.AidFS Go.Proofs.Ytbcpkigeginmnaa.GF Go.Proofs.YtbcpkigeginmnaaW.PrintWords Go.Proofs.YtbcpkigeginmnaaW.PrintLast
theorem FnExactCoreStep : ∀ (l0 : List (GF.S72)) (l1_0 : List (Int)) (a1_1 : Int) (l1_2 : List (List (Int))) (a2 : Int), (l0.length ≤ maxLen ∧ ∀ x_ ∈ l0, ((Lit.int .i64 x_.f0).wf = true) ∧ (((Lit.int .i64 x_.f1).wf = true) ∧ ((Lit.int .i64 x_.f2).wf = true))) → (l1_0.length ≤ maxLen ∧ ∀ x_ ∈ l1_0, (Lit.int .u32 x_).wf = true) → ((Lit.int .u32 a1_1).wf = true) → (l1_2.length ≤ maxLen ∧ ∀ x_ ∈ l1_2, x_.length ≤ maxLen ∧ ∀ x__ ∈ x_, (Lit.int .u8 x__).wf = true) → ((Lit.int .i64 a2).wf = true) → ∃ k, GF.laws_FnExactCoreStep.f k l0 l1_0 a1_1 l1_2 a2 = some true := by
  intro l0 r p ram cy ⟨hlen, hwf⟩ ⟨hr, hrw⟩ hp ⟨hram, hramw⟩ hcy
  refine ⟨0, ?_⟩
  unfold laws_FnExactCoreStep.f
  rw [if_pos]
  have hq := sz_w l0 hlen 1048576 (by decide) (by decide)
  by_cases h : (1048576 : Int) < (l0.length : Int)
  · rw [if_pos h] at hq
    exact ⟨_, hq, .inl (by decide)⟩
  · rw [if_neg h] at hq
    refine ⟨_, hq, .inr ⟨by omega, ?_⟩⟩
    obtain ⟨q, hq, hq2⟩ := sz_g r p ram hr hram (fun x hx => (hramw x hx).1) (1048576 - (l0.length : Int)) (by omega) (by omega) 30000000 (by omega)
    refine ⟨q, hq, ?_⟩
    by_cases c : q < 0
    · exact .inl c
    · have ht := hq2.resolve_left c
      rw [AidFH.tot_eq] at ht
      have hm : (l0.map toW).length ≤ 9000000 := by rw [List.length_map]; omega
      have hk : (l0.map toW).length + 3000 < 30000000 := by rw [List.length_map]; omega
      obtain ⟨b, hs, hi, hb⟩ := gok (l0.map toW) (map_wf l0 hwf) r p ram hm 30000000 (by omega)
      cases b with
      | false => exact .inr ⟨by omega, by omega, by omega, 30000000, _, _, _, _, _, _, _, _, .bad hs hi, by simp [GF.tot]⟩
      | true =>
        obtain ⟨hW, h16, h0, hra, hfit⟩ := hb rfl
        have hpb := Bit.w32 hp
        have R0 : Right (l0.map toW) r p ram 30000000 := ⟨map_wf l0 hwf, hW, hm, h16, fun i i0 i1 => by
          obtain ⟨n, rfl⟩ := Int.eq_ofNat_of_zero_le i0
          have hn : n < r.length := by omega
          rw [rd_at r n hn]
          exact Bit.w32 (hrw _ (List.getElem_mem _)), hpb.1, hpb.2, hra, hfit, ram_bytes ram hramw, hk⟩
        obtain ⟨R, P, M, fa, op, tc, wr, ca, hc, hst, e1, e2, e3⟩ := R0.comes cy
        exact .inr ⟨by omega, by omega, by omega, 30000000, R, P, M, fa, op, tc, wr, ca, .ok hs hi hc hst, by omega⟩
end Go.Proofs.Ytbcpkigeginmnaa.Pure
end
section
namespace Go.Proofs.Ytbcpkigeginmnaa.Opn
open Go.ChangeShapes Go.WideShapes Go.ChangeAt Go.RowKit Go.Deep Go.Proofs.YtbcpkigeginmnaaW.PrintWords

section
variable {H : Type} {enc : TypeId × Value → H} {P : Program} {w : World} {base : Nat} {spare : Nat → Bool} {held : Bool}

def Opens {α : Type} (enc : TypeId × Value → H) (P : Program) (w : World) (base : Nat) (spare : Nat → Bool) (held : Bool) (t : TypeId) (d : Kd α) (good : α → Prop) : Prop :=
  ∀ (fuel : Nat) (cs : List Value) (x : DataW H × List MemPlace), DataW.trod enc P w base spare held fuel t cs = some x → ∃ a : α, d.K w a cs ∧ good a

theorem opens_int {t : TypeId} {k : IntKind} (ht : P.underlying t = some (.int k)) : Opens enc P w base spare held t (Kd.int k) (fun n => (Lit.int k n).wf = true) := by
  intro fuel cs x h
  obtain ⟨n, rfl, _, hw⟩ := DataW.trod_int ht h
  exact ⟨n, rfl, hw⟩

theorem opens_iso {α β : Type} {t : TypeId} {d : Kd α} {good : α → Prop} (f : β → α) (g : α → β) (hg : ∀ a, f (g a) = a) (h : Opens enc P w base spare held t d good) : Opens enc P w base spare held t (Kd.iso d f) (fun b => good (f b)) := by
  intro fuel cs x hx
  obtain ⟨a, h1, h2⟩ := h fuel cs x hx
  exact ⟨g a, by show d.K w (f (g a)) cs; rw [hg]; exact h1, by show good (f (g a)); rw [hg]; exact h2⟩

theorem choose_list {α : Type} {p : Nat → α → Prop} (len : Nat) (h : ∀ i, i < len → ∃ a, p i a) : ∃ l : List α, l.length = len ∧ ∀ i a, l[i]? = some a → p i a := by
  induction len with
  | zero => exact ⟨[], rfl, fun i a ha => by simp at ha⟩
  | succ n ih =>
    obtain ⟨l, hl, hp⟩ := ih (fun i hi => h i (by omega))
    obtain ⟨a, ha⟩ := h n (by omega)
    refine ⟨l ++ [a], by simp [hl], fun i b hb => ?_⟩
    rcases Nat.lt_or_ge i l.length with hi | hi
    · rw [List.getElem?_append_left hi] at hb
      exact hp i b hb
    · rw [List.getElem?_append_right hi] at hb
      have hi2 : i - l.length = 0 := by
        rcases Nat.eq_zero_or_pos (i - l.length) with h0 | h0
        · exact h0
        · rw [List.getElem?_eq_none (by simp; omega)] at hb; cases hb
      rw [hi2] at hb
      simp at hb
      subst hb
      have : i = n := by omega
      subst this
      exact ha

theorem opens_slice {α : Type} {t e : TypeId} {d : Kd α} {good : α → Prop} (ht : P.underlying t = some (.slice e)) (hC : P.cellsOf e = d.sz) (h : Opens enc P w base spare held e d good) :
    Opens enc P w base spare held t (Kd.slice e d) (fun l => l.length ≤ maxLen ∧ ∀ x ∈ l, good x) := by
  intro fuel cs x hx
  rcases open_slice ht hx with ⟨rfl, _⟩ | ⟨a, len, cap, m, n, D, Pl, rfl, _, hl, hm, hmm, _, hi⟩
  · refine ⟨[], ⟨none, 0, rfl, Nat.le_refl _, rfl, by simp, fun h => absurd h (by simp)⟩, by simp, fun x hx => by simp at hx⟩
  · have hlm : len ≤ m := by rw [hmm]; split <;> omega
    obtain ⟨l, hlen, hp⟩ := choose_list (p := fun i (y : α) => ∃ cs', w.cells? base (a.add (i * P.cellsOf e)) (P.cellsOf e) = some cs' ∧ d.K w y cs' ∧ good y) len (fun i hi' => by
      obtain ⟨cs', h1, h2⟩ := hi i (by omega)
      obtain ⟨y, h3, h4⟩ := h n cs' _ h2
      exact ⟨y, cs', h1, h3, h4⟩)
    refine ⟨l, ⟨some a, cap, by rw [hlen], by omega, rfl, by rw [hlen]; unfold maxLen at hm; omega, fun _ => ⟨a, rfl, fun j p hj => ?_⟩⟩, by rw [hlen]; omega, fun y hy => ?_⟩
    · obtain ⟨cs', h1, h2, _⟩ := hp j p hj
      obtain ⟨_, hcl, hat⟩ := World.cells?_some h1
      refine ⟨cs', by rw [hcl, hC], h2, fun i u hu => ?_⟩
      have hil : i < cs'.length := (List.getElem?_eq_some_iff.1 hu).1
      have := hat i (by omega)
      rw [hu, Go.Deep.add_add, hC] at this
      exact this
    · obtain ⟨j, hj⟩ := List.getElem?_of_mem hy
      obtain ⟨_, _, _, h4⟩ := hp j y hj
      exact h4

def OpensF {α : Type} (enc : TypeId × Value → H) (P : Program) (w : World) (base : Nat) (spare : Nat → Bool) (held : Bool) (off : Nat) (fs : List Field) (d : Kd α) (good : α → Prop) : Prop :=
  ∀ (n : Nat) (cs : List Value), cs.length = off + d.sz → (∀ f ∈ fs, ∃ y, DataW.trod enc P w base spare held n f.type ((cs.drop f.offset).take (P.cellsOf f.type)) = some y) → ∃ a : α, d.K w a (cs.drop off) ∧ good a

theorem opensF_one {α : Type} {off : Nat} {f : Field} {d : Kd α} {good : α → Prop} (ho : f.offset = off) (hC : P.cellsOf f.type = d.sz) (h : Opens enc P w base spare held f.type d good) : OpensF enc P w base spare held off [f] d good := by
  intro n cs hl hf
  obtain ⟨y, hy⟩ := hf f (by simp)
  rw [ho, hC, List.take_of_length_le (by rw [List.length_drop]; omega)] at hy
  exact h n _ y hy

theorem opensF_cons {α β : Type} {off : Nat} {f : Field} {fs : List Field} {d : Kd α} {d' : Kd β} {good : α → Prop} {good' : β → Prop} (ho : f.offset = off) (hC : P.cellsOf f.type = d.sz)
    (h : Opens enc P w base spare held f.type d good) (h' : OpensF enc P w base spare held (off + d.sz) fs d' good') : OpensF enc P w base spare held off (f :: fs) (Kd.pair d d') (fun x => good x.1 ∧ good' x.2) := by
  intro n cs hl hf
  have hl' : cs.length = off + d.sz + d'.sz := by rw [hl]; show off + (d.sz + d'.sz) = _; omega
  obtain ⟨y, hy⟩ := hf f (by simp)
  rw [ho, hC] at hy
  obtain ⟨a, h1, h2⟩ := h n _ y hy
  obtain ⟨b, h3, h4⟩ := h' n cs hl' (fun g hg => hf g (by simp [hg]))
  refine ⟨(a, b), ⟨(cs.drop off).take d.sz, cs.drop (off + d.sz), ?_, h1, h3⟩, h2, h4⟩
  rw [← List.drop_drop, List.take_append_drop]

theorem opens_struct {α : Type} {t : TypeId} {fs : Array Field} {l : List Field} {d : Kd α} {good : α → Prop} (ht : P.underlying t = some (.struct fs)) (hfs : fs.toList = l) (hC : P.cellsOf t = d.sz) (h : OpensF enc P w base spare held 0 l d good) :
    Opens enc P w base spare held t d good := by
  intro fuel cs x hx
  obtain ⟨xs, n, _, _, hlen, hxl, hf⟩ := DataW.trod_struct ht hx
  have := h n cs (by rw [hlen, hC]; omega) (fun f hfm => by
    obtain ⟨i, hi⟩ := List.getElem?_of_mem hfm
    have hi' : fs[i]? = some f := by rw [← hfs] at hi; simpa using hi
    have hil : i < fs.size := (Array.getElem?_eq_some_iff.1 hi').1
    have hb : xs[i]? = some (xs[i]'(by omega)) := List.getElem?_eq_getElem (by omega)
    exact ⟨_, (hf i f hi').trans hb⟩)
  simpa using this

theorem opens_trod {α : Type} {t : TypeId} {d : Kd α} {good : α → Prop} (h : Opens enc P w base spare held t d good) {v : Value} {x : DataW H} {p : List MemPlace} (hx : DataW.Trod enc P w base spare held t v x p) : ∃ a : α, d.K w a v.cells.toList ∧ good a := by
  obtain ⟨fuel, hf⟩ := hx
  exact h fuel _ _ hf

theorem agg_cells {r : Reach} {b0 : Nat} {t : TypeId} {fs : Array Field} {v : Value} (hs : P.underlying t = some (.struct fs)) (hv : Value.okWide P w r b0 t v) {cs : List Value} (hc : v.cells.toList = cs) : v = .agg cs.toArray := by
  obtain ⟨l, rfl, _⟩ := okWide_struct hs hv
  subst hc
  simp [Value.cells]
end
end Go.Proofs.Ytbcpkigeginmnaa.Opn
end
