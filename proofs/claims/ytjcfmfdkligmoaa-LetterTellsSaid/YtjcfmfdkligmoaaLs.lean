/- fountainlaw22.LetterTells: it answers true, if what it calls comes to what is said. Conditions: those that stand in the theorems. Written by mkls.py. -/
import Derived.Test.YtjcfmfdkligmoaaLu
namespace Go.Proofs.Ytjcfmfdkligmoaa.Ls
open Go.RowKit Go.Lib Go.Proofs.Ytjcfmfdkligmoaa.PRecordTells Go.Proofs.Ytjcfmfdkligmoaa.PLetterLimits Go.Proofs.Ytjcfmfdkligmoaa.PLetterTorn Go.Proofs.Ytjcfmfdkligmoaa.PLetterTells Go.Proofs.Ytjcfmfdkligmoaa.Lt Go.Proofs.Ytjcfmfdkligmoaa.Lr Go.Proofs.Ytjcfmfdkligmoaa.Lq Go.Proofs.Ytjcfmfdkligmoaa.Lg Go.Proofs.Ytjcfmfdkligmoaa.Lp Go.Proofs.Ytjcfmfdkligmoaa.Lj Go.Proofs.Ytjcfmfdkligmoaa.Lw Go.Proofs.Ytjcfmfdkligmoaa.Ly Go.Proofs.Ytjcfmfdkligmoaa.Rm Go.Proofs.Ytjcfmfdkligmoaa.Lu Go.Proofs.YtjcfmfdkligmoaaW.PrintWords Go.Proofs.YtjcfmfdkligmoaaW.PrintLast Go.Proofs.YtjcfmfdkligmoaaW.PrintMore
set_option linter.unusedVariables false
set_option linter.unusedSimpArgs false
set_option maxHeartbeats 8000000
set_option maxRecDepth 100000
theorem out_mk {w w' : World} {e : Ending} (a0 a1 a2 a3 a4 a5 : Int) (P : List Int) (R : List S28) (up ur : Value) (he : e = .returned (.tuple #[.agg #[.int .i64 a0, .int .i64 a1, .int .i64 a2, .int .i64 a3, .int .i64 a4, .int .i64 a5, up, ur], .int .i64 0])) (hP : Kd.R (Kd.int .i64) 3 w' w.heap.size (fun _ => True) up P) (hR : Kd.S k28 28 w' w.heap.size (fun _ => True) ur R) (hB : Below w.heap.size w w') : Out (some ⟨a0, a1, a2, a3, a4, a5, P, R⟩) w e w' := ⟨hB, up, ur, he, hP, hR⟩
theorem ans2_no (s : List Int × Bool) (v : Nat → Int) (q : Bool) (up ur : Value) (h : s.2 = true ∨ s.1 ≠ [] ∨ q = false) : ans2 s v q up ur = .tuple #[.agg #[.int .i64 0, .int .i64 0, .int .i64 0, .int .i64 0, .int .i64 0, .int .i64 0, .slice none 0 0, .slice none 0 0], .int .i64 2] := if_pos h
theorem ans2_yes (s : List Int × Bool) (v : Nat → Int) (q : Bool) (up ur : Value) (h : ¬ (s.2 = true ∨ s.1 ≠ [] ∨ q = false)) : ans2 s v q up ur = .tuple #[.agg #[.int .i64 (v 0), .int .i64 (v 1), .int .i64 (v 2), .int .i64 (v 3), .int .i64 (v 4), .int .i64 (v 5), up, ur], .int .i64 0] := if_neg h
theorem read.law (A : Option Addr) (c : Nat) (bs : List Int) (T : Option L8) (w : World) (hC : (Kd.int .u8).C w A bs.length bs) (hl : bs.length ≤ c) (hb : okB (bs, false)) (hT : pres bs = T) :
    Calls Try.prog 21 #[.slice A bs.length c] w fun e w' => Out T w e w' := by
  obtain ⟨k, hk⟩ := parsed hb
  obtain ⟨h1, h2, h3, h4⟩ := hk k (Nat.le_refl _)
  obtain ⟨q, hq, hq2⟩ := right_some (vs bs 0) (vs bs 1) (vs bs 2) (vs bs 3) (vs bs 4) (vs bs 5) (peersOf bs) (recsOf bs)
  have n6 := np_le hb
  have n8 := nr_le hb
  refine (read.calls k A c bs (vs bs) (peersOf bs) (recsOf bs) (sr (s8 bs)) q w hC hl h1 (by rw [peersOf_len]; exact n6.1) h2 (by rw [peersOf_len]; exact n6.2) h3 (by rw [peersOf_len]; rfl) h4 (by rw [recsOf_len]; exact n8.2) hq).mono ?_
  rintro e w' ⟨up, ur, rfl, hP, hR, hB⟩
  rw [recsOf_len]
  show Out T w (.returned (ans2 (endOf bs) (vs bs) q up ur)) w'
  by_cases cc : ((endOf bs).2 = true ∨ (endOf bs).1 ≠ [] ∨ ¬ okL (vs bs 0) (vs bs 1) (vs bs 2) (vs bs 3) (vs bs 4) (vs bs 5) (peersOf bs) (recsOf bs))
  · have hp : T = none := hT.symm.trans (@if_pos _ (Classical.propDecidable _) cc _ _ _)
    subst hp
    have hn : (endOf bs).2 = true ∨ (endOf bs).1 ≠ [] ∨ q = false := by
      rcases cc with h | h | h
      · exact .inl h
      · exact .inr (.inl h)
      · exact .inr (.inr (by cases q with
          | false => rfl
          | true => exact absurd (hq2.1 rfl) h))
    exact ⟨hB, congrArg Ending.returned (ans2_no (endOf bs) (vs bs) q up ur hn)⟩
  · have hp : T = some ⟨vs bs 0, vs bs 1, vs bs 2, vs bs 3, vs bs 4, vs bs 5, peersOf bs, recsOf bs⟩ := hT.symm.trans (@if_neg _ (Classical.propDecidable _) cc _ _ _)
    subst hp
    have hn : ¬ ((endOf bs).2 = true ∨ (endOf bs).1 ≠ [] ∨ q = false) := by
      rintro (h | h | h)
      · exact cc (.inl h)
      · exact cc (.inr (.inl h))
      · exact cc (.inr (.inr fun hh => by rw [hq2.2 hh] at h; cases h))
    exact out_mk (vs bs 0) (vs bs 1) (vs bs 2) (vs bs 3) (vs bs 4) (vs bs 5) (peersOf bs) (recsOf bs) up ur (congrArg Ending.returned (ans2_yes (endOf bs) (vs bs) q up ur hn)) hP hR hB
theorem readL.law (A : Option Addr) (c : Nat) (bs : List Int) (T : Option L8) (w : World) (hC : (Kd.int .u8).C w A bs.length bs) (hl : bs.length ≤ c) (hb : okB (bs, false)) (hT : pres bs = T) :
    Calls Try.prog 22 #[.slice A bs.length c] w fun e w' => Out T w e w' := by
  obtain ⟨n, h1, h2⟩ := vl_le1 (dS_ok hb 6)
  refine readletter.calls A c bs w n (dV bs 0) (dV bs 1) (dV bs 2) (dV bs 3) (dV bs 4) (dV bs 5) (dS bs 1) (dS bs 2) (dS bs 3) (dS bs 4) (dS bs 5) (dS bs 6) (dS bs 7) T hC hl hb rfl rfl rfl rfl rfl rfl rfl rfl rfl rfl rfl rfl rfl h1 h2 ?_
  rw [← hT, both_read hb, dres_eq]
  have h3 : (dV bs 6).toNat = n := by
    have : dV bs 6 = (n : Int) := h1
    rw [this, Int.toNat_natCast]
  rw [h3]
def un : Option L8 → L8 × Int
  | none => (⟨0, 0, 0, 0, 0, 0, [], []⟩, 2)
  | some l => (l, 0)
theorem out_un {T : Option L8} {w : World} {e : Ending} {w' : World} (h : Out T w e w') {l : L8} {er : Int} (hu : un T = (l, er)) : ∃ (A6 : Option Addr) (c6 : Nat) (A7 : Option Addr) (c7 : Nat), e = .returned (.tuple #[.agg #[.int .i64 l.a0, .int .i64 l.a1, .int .i64 l.a2, .int .i64 l.a3, .int .i64 l.a4, .int .i64 l.a5, .slice A6 l.P.length c6, .slice A7 l.R.length c7], .int .i64 er]) ∧
    (Kd.int .i64).C w' A6 l.P.length l.P ∧ l.P.length ≤ c6 ∧ k28.C w' A7 l.R.length l.R ∧ l.R.length ≤ c7 ∧ Below w.heap.size w w' := by
  obtain ⟨hb, h⟩ := h
  cases T with
  | none =>
    injection hu with h1 h2
    subst h1 h2
    exact ⟨none, 0, none, 0, h, Kd.C_nil _ _, Nat.le_refl _, Kd.C_nil _ _, Nat.le_refl _, hb⟩
  | some l' =>
    injection hu with h1 h2
    subst h1 h2
    obtain ⟨up, ur, rfl, hP, hR⟩ := h
    obtain ⟨A6, c6, rfl, l6, C6⟩ := Kd.R_reads hP
    obtain ⟨A7, c7, rfl, l7, C7⟩ := Kd.S_reads hR
    exact ⟨A6, c6, A7, c7, rfl, C6, l6, C7, l7, hb⟩
def T7 : Bool × List (List Nat × List Nat) := (true, [([], []), ([0], [0]), ([], []), ([2], [2]), ([3], [3]), ([1, 4], [1, 4]), ([5, 3], [5]), ([6], [6]), ([6], [6]), ([7, 8, 6, 6], [6, 7, 8]), ([9, 6], [6, 9]), ([6, 10], [6, 10]), ([11, 9], [11]), ([12], [12]), ([13, 12, 12], [12, 13]), ([12], [12]), ([14, 15, 12], [12, 14, 15]), ([12, 16], [12, 16])])
def B7 : List Nat := [0, 1, 0, 4, 12, 31, 63, 127, 127, 511, 1023, 2047, 4095, 8191, 16383, 8191, 65535, 131071]
theorem tab7 : rtab .any (opsOf Try.f6 7) = T7 := by kernel_rfl
theorem bits7 : waitsOk T7.2 B7 = true := by kernel_rfl
theorem tells.calls (k : Nat) (LB_ : List Int) (lv : Nat → Int) (a0 a1 a2 a3 a4 a5 : Int) (A6 : Option Addr) (c6 : Nat) (P : List Int) (A7 : Option Addr) (c7 : Nat) (R : List S28) (Ab : Option Addr) (cb : Nat) (bs : List Int) (X : List Int) (fw : Bool) (T T2 : Option L8) (l l2 : L8) (er er2 : Int) (w : World)
    (h6 : (Kd.int .i64).C w A6 P.length P) (l6 : P.length ≤ c6) (h7 : k28.C w A7 R.length R) (l7 : R.length ≤ c7) (hbs : (Kd.int .u8).C w Ab bs.length bs) (lbs : bs.length ≤ cb) (hlv : Live k LB_ lv) (hX : letter_Bytes.f k a0 a1 a2 a3 a4 a5 P R = some X) (hXr : zq_LetterBytes.f k a0 a1 a2 a3 a4 a5 P R = some X) (hF : zm_Few.f k R = some fw)
    (hbb : bs.length ≤ 3000 → okB (bs, false)) (hxb : okB (X, false)) (hT : pres bs = T) (hU : un T = (l, er)) (hsm : bs.length ≤ 3000 → zq_SameLetter.f k l.a0 l.a1 l.a2 l.a3 l.a4 l.a5 l.P l.R l.a0 l.a1 l.a2 l.a3 l.a4 l.a5 l.P l.R = some true)
    (hT2 : pres X = T2) (hU2 : un T2 = (l2, er2)) (hX2 : X ≠ [] → er2 = 0 ∧ zq_SameLetter.f k l2.a0 l2.a1 l2.a2 l2.a3 l2.a4 l2.a5 l2.P l2.R a0 a1 a2 a3 a4 a5 P R = some true) :
    Calls Try.prog 6 #[.agg #[.int .i64 a0, .int .i64 a1, .int .i64 a2, .int .i64 a3, .int .i64 a4, .int .i64 a5, .slice A6 P.length c6, .slice A7 R.length c7], .slice Ab bs.length cb] w fun e w' => e = .returned (.bool true) ∧ Below w.heap.size w w' := by
  have hu45 := Try.underlying45
  have LV := Aside0.mk hlv
  have HX := Aside0.mk hX
  have HXR := Aside0.mk hXr
  have HF := Aside0.mk hF
  have H6 := Aside0.mk h6
  have H6L := Aside0.mk l6
  have H7 := Aside0.mk h7
  have H7L := Aside0.mk l7
  have HBS := Aside0.mk hbs
  have HBL := Aside0.mk lbs
  have HBB := Aside0.mk hbb
  have OKX := Aside0.mk hxb
  have HT := Aside0.mk hT
  have HU := Aside0.mk hU
  have HSM := Aside0.mk hsm
  have HT2 := Aside0.mk hT2
  have HU2 := Aside0.mk hU2
  have HX2 := Aside0.mk hX2
  have HB := Aside0.mk (Below.refl w.heap.size w)
  clear hlv hX hXr hF h6 l6 h7 l7 hbs lbs hbb hxb hT hU hsm hT2 hU2 hX2
  go_enter Try.func6, Try.ntmps6
  go_upto_region 2 with (first | ((with_reducible refine gate_dst (N := 2) rfl ?_); refine box_event ?hg (N := 2) ?hd (cs := #[.int .i64 a0, .int .i64 a1, .int .i64 a2, .int .i64 a3, .int .i64 a4, .int .i64 a5, .slice A6 P.length c6, .slice A7 R.length c7]) (t := 45) ?hr ?_; (case hd => rfl); (case hg => rfl); (case hr => first | (go_simp; done) | (go_simp; rfl)); intro gb2 hg w2 hbox hb; replace HB := Aside0.mk (belt hb); have BX := Aside0.mk hbox; obtain ⟨hz0, hz1, hz2, hz3, hz4, hz5, hz6, hz7⟩ := box8 BX.out; obtain ⟨hf0, hf1, hf2, hf3, hf4, hf5, hf6, hf7⟩ := frz8 BX.out; clear hbox hb hg) | (go_at_call 18; (with_reducible refine (alive.calls k LB_ lv LV.out _).mono ?_); rintro e w3 ⟨rfl, hb_⟩; replace HB := Aside0.mk (belt hb_); replace BX := Aside0.mk (blk_below BX.out hb_); clear hz0 hz1 hz2 hz3 hz4 hz5 hz6 hz7 hf0 hf1 hf2 hf3 hf4 hf5 hf6 hf7; obtain ⟨hz0, hz1, hz2, hz3, hz4, hz5, hz6, hz7⟩ := box8 BX.out; obtain ⟨hf0, hf1, hf2, hf3, hf4, hf5, hf6, hf7⟩ := frz8 BX.out; clear hb_))
  by_cases c1 : 300 < P.length
  · have c1b0 : decide (300 < (P.length : Int)) = true := decide_eq_true (by omega)
    have c1b1 : decide (300 < P.length) = true := decide_eq_true c1
    clear c1
    go_wp2_with (first | (go_at_call 19; (try (refine gate_guard (by rfl) ?_; dsimp only)); (with_reducible refine (zm_Few.calls k A7 c7 R _ _ ?s1 H7L.out HF.out).mono ?_); (case s1 => exact Kd.C_below H7.out bel); rintro e w6 ⟨rfl, ⟨nd, rfl⟩⟩) | (go_at_call 25; (try (refine gate_guard (by rfl) ?_; dsimp only)); (with_reducible refine (zl_num.calls _ _ _ rfl).mono ?_); rintro e w' ⟨rfl, ⟨nd_, rfl⟩⟩))
    refine bodyPost_ret (results_tmp (by rfl) _ _ _) (by rfl) ?_
    exact ⟨rfl, bel⟩
  have c1b0 : decide (300 < (P.length : Int)) = false := decide_eq_false (by omega)
  have c1b1 : decide (300 < P.length) = false := decide_eq_false c1
  cases fw with
  | false =>
    clear c1
    go_wp2_with (first | (go_at_call 19; (try (refine gate_guard (by rfl) ?_; dsimp only)); (with_reducible refine (zm_Few.calls k A7 c7 R _ _ ?s1 H7L.out HF.out).mono ?_); (case s1 => exact Kd.C_below H7.out bel); rintro e w6 ⟨rfl, ⟨nd, rfl⟩⟩) | (go_at_call 25; (try (refine gate_guard (by rfl) ?_; dsimp only)); (with_reducible refine (zl_num.calls _ _ _ rfl).mono ?_); rintro e w' ⟨rfl, ⟨nd_, rfl⟩⟩))
    refine bodyPost_ret (results_tmp (by rfl) _ _ _) (by rfl) ?_
    exact ⟨rfl, bel⟩
  | true =>
    by_cases c2 : 3000 < bs.length
    · have c2b0 : decide (3000 < (bs.length : Int)) = true := decide_eq_true (by omega)
      have c2b1 : decide (3000 < bs.length) = true := decide_eq_true c2
      clear c1 c2
      go_wp2_with (first | (go_at_call 19; (try (refine gate_guard (by rfl) ?_; dsimp only)); (with_reducible refine (zm_Few.calls k A7 c7 R _ _ ?s1 H7L.out HF.out).mono ?_); (case s1 => exact Kd.C_below H7.out bel); rintro e w6 ⟨rfl, ⟨nd, rfl⟩⟩) | (go_at_call 25; (try (refine gate_guard (by rfl) ?_; dsimp only)); (with_reducible refine (zl_num.calls _ _ _ rfl).mono ?_); rintro e w' ⟨rfl, ⟨nd_, rfl⟩⟩))
      refine bodyPost_ret (results_tmp (by rfl) _ _ _) (by rfl) ?_
      exact ⟨rfl, bel⟩
    have c2b0 : decide (3000 < (bs.length : Int)) = false := decide_eq_false (by omega)
    have c2b1 : decide (3000 < bs.length) = false := decide_eq_false c2
    have OKB := Aside0.mk (HBB.out (by omega))
    have BL := Aside0.mk (show bs.length ≤ 3000 by omega)
    clear c1 c2 HBB
    go_upto_region 4 with (first | (go_at_call 19; (try (refine gate_guard (by rfl) ?_; dsimp only)); (with_reducible refine (zm_Few.calls k A7 c7 R _ _ ?s1 H7L.out HF.out).mono ?_); (case s1 => exact Kd.C_below H7.out bel); rintro e w6 ⟨rfl, ⟨nd, rfl⟩⟩))
    replace BX := Aside0.mk (show (w3.drewN nd).heap[gb2]? = _ from BX.out)
    replace HB := Aside0.mk (pw_below_drewN HB.out nd)
    clear hz0 hz1 hz2 hz3 hz4 hz5 hz6 hz7 hf0 hf1 hf2 hf3 hf4 hf5 hf6 hf7
    generalize w3.drewN nd = w30 at HB BX ⊢
    obtain ⟨hz0, hz1, hz2, hz3, hz4, hz5, hz6, hz7⟩ := box8 BX.out
    go_upto_region 5 with (first | (go_at_call 20; (with_reducible refine (letter_Bytes.calls k a0 a1 a2 a3 a4 a5 A6 c6 P A7 c7 R X _ ?s1 H6L.out ?s2 H7L.out HX.out).mono ?_); (case s1 => exact Kd.C_below H6.out bel); (case s2 => exact Kd.C_below H7.out bel); rintro e w4 ⟨v, rfl, ho_, hb_⟩; obtain ⟨Ax, cx, rfl, lx_, Cx_⟩ := Kd.R_reads ho_; have CX := Aside0.mk Cx_; have LX := Aside0.mk lx_; replace HB := Aside0.mk (belt hb_); replace BX := Aside0.mk (blk_below BX.out hb_); clear hb_ ho_ lx_ Cx_))
    clear hz0 hz1 hz2 hz3 hz4 hz5 hz6 hz7
    have HK := Aside0.mk (Below.refl w4.heap.size w4)
    go_upto_region 6 with (first | ((with_reducible refine gate_builtin (b := .append) (xs := #[.const (.slice none 0 0), .tmp 37]) rfl ?_); at_builtin; refine Kd.R_append_rows (Kd.int .u8) (w0 := w4) w4.heap.size rfl (.const (.slice none 0 0)) (.tmp 37) 26 5 (.int .u8 0) 1 rfl Try.underlying26 info5 rfl (by decide) (by omega) (.slice none 0 0) ([] : List Int) bs _ _ _ (fun _ => True) (fun _ => False) rfl rfl ?aO ?aR (fun _ _ h => h) (fun _ h => h.elim) ?aF ?aB ?aS ?aL ?_; (case aR => exact Kd.C_below HBS.out (below_step HB.out (bel (h := by repeat (first | (with_reducible first | exact HK.out | apply below_alloc | apply pw_below_drewN | apply below_drew1) | exact HK.out))))); (case aB => exact (bel (h := by repeat (first | (with_reducible first | exact HK.out | apply below_alloc | apply pw_below_drewN | apply below_drew1) | exact HK.out)))); (case aF => exact fun _ _ => trivial); (case aO => exact Kd.R_nil _ _ _ _ _); (case aS => exact below_size (bel (h := by repeat (first | (with_reducible first | exact HK.out | apply below_alloc | apply pw_below_drewN | apply below_drew1) | exact HK.out)))); (case aL => have := BL.out; simp only [List.length_nil]; omega); intro va w8 ho hb hg hat; rw [List.nil_append] at ho; obtain ⟨Av, cv, rfl, lv_, Cv_⟩ := Kd.R_reads ho; have CV := Aside0.mk Cv_; have LVv := Aside0.mk lv_; replace HK := Aside0.mk hb; clear ho hb hg hat lv_ Cv_) | (go_at_call 21; (with_reducible refine (read.law Av cv bs _ _ ?s1 LVv.out OKB.out HT.out).mono ?_); (case s1 => exact CV.out); rintro e w81 ho_; obtain ⟨y6, yc6, y7, yc7, rfl, c6_, l6_, c7_, l7_, hb_⟩ := out_un ho_ HU.out; have C6y := Aside0.mk c6_; have L6y := Aside0.mk l6_; have C7y := Aside0.mk c7_; have L7y := Aside0.mk l7_; replace HK := Aside0.mk (below_step (bel (h := by repeat (first | (with_reducible first | exact HK.out | apply below_alloc | apply pw_below_drewN | apply below_drew1) | exact HK.out))) hb_); clear ho_ c6_ l6_ c7_ l7_ hb_) | ((with_reducible refine gate_dst (N := 7) rfl ?_); refine box_event ?hg (N := 7) ?hd (cs := #[.int .i64 0, .int .i64 0, .int .i64 0, .int .i64 0, .int .i64 0, .int .i64 0, .slice none 0 0, .slice none 0 0]) (t := 45) ?hr ?_; (case hd => rfl); (case hg => rfl); (case hr => first | (go_simp; done) | (go_simp; rfl)); intro gb7 hg w9 hbox hb; have HN := Aside0.mk hb; have GN := Aside0.mk (Nat.le_of_eq hg.symm); have BN := Aside0.mk hbox; obtain ⟨hz0, hz1, hz2, hz3, hz4, hz5, hz6, hz7⟩ := box8 hbox; obtain ⟨hf0, hf1, hf2, hf3, hf4, hf5, hf6, hf7⟩ := frz8 hbox; clear hbox hb hg))
    have HM_ := bel8 (a := .int .i64 l.a0) (b := .int .i64 l.a1) (c := .int .i64 l.a2) (d := .int .i64 l.a3) (e := .int .i64 l.a4) (f := .int .i64 l.a5) (p := .slice y6 l.P.length yc6) (q := .slice y7 l.R.length yc7) HN.out GN.out
    have HK_ := below_step HK.out HM_
    have HB_ := Aside0.mk (show Below w.heap.size w ((((((((w9.setCell ⟨gb7, 0, none⟩ (.int .i64 l.a0)).setCell ⟨gb7, 1, none⟩ (.int .i64 l.a1)).setCell ⟨gb7, 2, none⟩ (.int .i64 l.a2)).setCell ⟨gb7, 3, none⟩ (.int .i64 l.a3)).setCell ⟨gb7, 4, none⟩ (.int .i64 l.a4)).setCell ⟨gb7, 5, none⟩ (.int .i64 l.a5)).setCell ⟨gb7, 6, none⟩ (.slice y6 l.P.length yc6)).setCell ⟨gb7, 7, none⟩ (.slice y7 l.R.length yc7)) from below_step HB.out HK_)
    have By := Aside0.mk (show (((((((((w9.setCell ⟨gb7, 0, none⟩ (.int .i64 l.a0)).setCell ⟨gb7, 1, none⟩ (.int .i64 l.a1)).setCell ⟨gb7, 2, none⟩ (.int .i64 l.a2)).setCell ⟨gb7, 3, none⟩ (.int .i64 l.a3)).setCell ⟨gb7, 4, none⟩ (.int .i64 l.a4)).setCell ⟨gb7, 5, none⟩ (.int .i64 l.a5)).setCell ⟨gb7, 6, none⟩ (.slice y6 l.P.length yc6)).setCell ⟨gb7, 7, none⟩ (.slice y7 l.R.length yc7))).heap[gb7]? = some (.cells #[.int .i64 l.a0, .int .i64 l.a1, .int .i64 l.a2, .int .i64 l.a3, .int .i64 l.a4, .int .i64 l.a5, .slice y6 l.P.length yc6, .slice y7 l.R.length yc7] 45 (0, 0)) from set8 BN.out)
    replace C6y := Aside0.mk (Kd.C_below C6y.out HM_)
    replace C7y := Aside0.mk (Kd.C_below C7y.out HM_)
    replace BX := Aside0.mk (blk_below BX.out HK_)
    replace CX := Aside0.mk (Kd.C_below CX.out HK_)
    clear HM_ HK_ HB HN GN BN HK hz0 hz1 hz2 hz3 hz4 hz5 hz6 hz7 hf0 hf1 hf2 hf3 hf4 hf5 hf6 hf7
    generalize ((((((((w9.setCell ⟨gb7, 0, none⟩ (.int .i64 l.a0)).setCell ⟨gb7, 1, none⟩ (.int .i64 l.a1)).setCell ⟨gb7, 2, none⟩ (.int .i64 l.a2)).setCell ⟨gb7, 3, none⟩ (.int .i64 l.a3)).setCell ⟨gb7, 4, none⟩ (.int .i64 l.a4)).setCell ⟨gb7, 5, none⟩ (.int .i64 l.a5)).setCell ⟨gb7, 6, none⟩ (.slice y6 l.P.length yc6)).setCell ⟨gb7, 7, none⟩ (.slice y7 l.R.length yc7)) = w51 at HB_ By C6y C7y BX CX ⊢
    have HB := HB_
    clear HB_
    have HK := Aside0.mk (Below.refl w51.heap.size w51)
    go_upto_region 7 with (first | (go_at_call 22; (with_reducible refine (readL.law Ab cb bs _ _ ?s1 HBL.out OKB.out HT.out).mono ?_); (case s1 => exact Kd.C_below HBS.out (below_step HB.out (bel (h := by repeat (first | (with_reducible first | exact HK.out | apply below_alloc | apply pw_below_drewN | apply below_drew1) | exact HK.out))))); rintro e w82 ho_; obtain ⟨z6, zc6, z7, zc7, rfl, c6_, l6_, c7_, l7_, hb_⟩ := out_un ho_ HU.out; have C6z := Aside0.mk c6_; have L6z := Aside0.mk l6_; have C7z := Aside0.mk c7_; have L7z := Aside0.mk l7_; replace HK := Aside0.mk (below_step (bel (h := by repeat (first | (with_reducible first | exact HK.out | apply below_alloc | apply pw_below_drewN | apply below_drew1) | exact HK.out))) hb_); clear ho_ c6_ l6_ c7_ l7_ hb_) | ((with_reducible refine gate_dst (N := 9) rfl ?_); refine box_event ?hg (N := 9) ?hd (cs := #[.int .i64 0, .int .i64 0, .int .i64 0, .int .i64 0, .int .i64 0, .int .i64 0, .slice none 0 0, .slice none 0 0]) (t := 45) ?hr ?_; (case hd => rfl); (case hg => rfl); (case hr => first | (go_simp; done) | (go_simp; rfl)); intro gb9 hg w9 hbox hb; have HN := Aside0.mk hb; have GN := Aside0.mk (Nat.le_of_eq hg.symm); have BN := Aside0.mk hbox; obtain ⟨hz0, hz1, hz2, hz3, hz4, hz5, hz6, hz7⟩ := box8 hbox; obtain ⟨hf0, hf1, hf2, hf3, hf4, hf5, hf6, hf7⟩ := frz8 hbox; clear hbox hb hg))
    have HM_ := bel8 (a := .int .i64 l.a0) (b := .int .i64 l.a1) (c := .int .i64 l.a2) (d := .int .i64 l.a3) (e := .int .i64 l.a4) (f := .int .i64 l.a5) (p := .slice z6 l.P.length zc6) (q := .slice z7 l.R.length zc7) HN.out GN.out
    have HK_ := below_step HK.out HM_
    have HB_ := Aside0.mk (show Below w.heap.size w ((((((((w9.setCell ⟨gb9, 0, none⟩ (.int .i64 l.a0)).setCell ⟨gb9, 1, none⟩ (.int .i64 l.a1)).setCell ⟨gb9, 2, none⟩ (.int .i64 l.a2)).setCell ⟨gb9, 3, none⟩ (.int .i64 l.a3)).setCell ⟨gb9, 4, none⟩ (.int .i64 l.a4)).setCell ⟨gb9, 5, none⟩ (.int .i64 l.a5)).setCell ⟨gb9, 6, none⟩ (.slice z6 l.P.length zc6)).setCell ⟨gb9, 7, none⟩ (.slice z7 l.R.length zc7)) from below_step HB.out HK_)
    have Bz := Aside0.mk (show (((((((((w9.setCell ⟨gb9, 0, none⟩ (.int .i64 l.a0)).setCell ⟨gb9, 1, none⟩ (.int .i64 l.a1)).setCell ⟨gb9, 2, none⟩ (.int .i64 l.a2)).setCell ⟨gb9, 3, none⟩ (.int .i64 l.a3)).setCell ⟨gb9, 4, none⟩ (.int .i64 l.a4)).setCell ⟨gb9, 5, none⟩ (.int .i64 l.a5)).setCell ⟨gb9, 6, none⟩ (.slice z6 l.P.length zc6)).setCell ⟨gb9, 7, none⟩ (.slice z7 l.R.length zc7))).heap[gb9]? = some (.cells #[.int .i64 l.a0, .int .i64 l.a1, .int .i64 l.a2, .int .i64 l.a3, .int .i64 l.a4, .int .i64 l.a5, .slice z6 l.P.length zc6, .slice z7 l.R.length zc7] 45 (0, 0)) from set8 BN.out)
    replace C6z := Aside0.mk (Kd.C_below C6z.out HM_)
    replace C7z := Aside0.mk (Kd.C_below C7z.out HM_)
    replace BX := Aside0.mk (blk_below BX.out HK_)
    replace By := Aside0.mk (blk_below By.out HK_)
    replace CX := Aside0.mk (Kd.C_below CX.out HK_)
    replace C6y := Aside0.mk (Kd.C_below C6y.out HK_)
    replace C7y := Aside0.mk (Kd.C_below C7y.out HK_)
    clear HM_ HK_ HB HN GN BN HK hz0 hz1 hz2 hz3 hz4 hz5 hz6 hz7 hf0 hf1 hf2 hf3 hf4 hf5 hf6 hf7
    generalize ((((((((w9.setCell ⟨gb9, 0, none⟩ (.int .i64 l.a0)).setCell ⟨gb9, 1, none⟩ (.int .i64 l.a1)).setCell ⟨gb9, 2, none⟩ (.int .i64 l.a2)).setCell ⟨gb9, 3, none⟩ (.int .i64 l.a3)).setCell ⟨gb9, 4, none⟩ (.int .i64 l.a4)).setCell ⟨gb9, 5, none⟩ (.int .i64 l.a5)).setCell ⟨gb9, 6, none⟩ (.slice z6 l.P.length zc6)).setCell ⟨gb9, 7, none⟩ (.slice z7 l.R.length zc7)) = w52 at HB_ Bz C6z C7z BX By CX C6y C7y ⊢
    have HB := HB_
    clear HB_
    have HK := Aside0.mk (Below.refl w52.heap.size w52)
    refine start_ (n := 18) (S := fun w' => Below w52.drew.heap.size w52.drew w') (ds := []) (ms 18 0) (by kernel_rfl) rfl rfl (Below.refl _ _) (fun hHeld => ?_); refine with_tabW tab7 bits7 (fun HT_ HW_ => ?_)
    replace HB := Aside0.mk (show Below w.heap.size w w52.drew from HB.out.drew)
    replace BX := Aside0.mk (show w52.drew.heap[gb2]? = _ from BX.out)
    replace By := Aside0.mk (show w52.drew.heap[gb7]? = _ from By.out)
    replace Bz := Aside0.mk (show w52.drew.heap[gb9]? = _ from Bz.out)
    replace CX := Aside0.mk (Kd.C_drew CX.out)
    replace C6y := Aside0.mk (Kd.C_drew C6y.out)
    replace C7y := Aside0.mk (Kd.C_drew C7y.out)
    replace C6z := Aside0.mk (Kd.C_drew C6z.out)
    replace C7z := Aside0.mk (Kd.C_drew C7z.out)
    clear HK
    generalize w52.drew = wq at hHeld HB BX By Bz CX C6y C7y C6z C7z ⊢
    have HW := Aside0.mk (Below.refl wq.heap.size wq)
    refine run_ [(0, false, some 47), (2, true, some 49), (1, true, some 48)] (n := 3) (ms 18 7) rfl HT_.out HW_.out (by kernel_rfl) (fun _ _ _ _ h => h) hHeld ?_
    repeat (first | (refine Run.p (v := ?_) (a' := ?_) rfl rfl (Or.inl ⟨by rfl, ?_⟩) ?_ ?_; rotate_left; (focus intro w'; go_simp; with_reducible rfl); rotate_left; (focus simp only [Act.put, List.setIfInBounds_toArray, List.set_cons_zero, List.set_cons_succ, i64_w, i32_w]; rfl)) | (refine Run.t (v := ?_) (a' := ?_) rfl rfl (Or.inl ⟨by rfl, ?_⟩) ?_ ?_; rotate_left; (focus intro w' hS; obtain ⟨z0, z1, z2, z3, z4, z5, z6, z7⟩ := box8 (blk_below BX.out hS); have hcv := Kd.C_string (P := Try.prog) (A := Ax) (c := cx) Try.underlying26 Try.underlying5 Try.underlying9 (Kd.C_below CX.out hS); go_simp; with_reducible rfl); rotate_left; (focus simp only [Act.put, List.setIfInBounds_toArray, List.set_cons_zero, List.set_cons_succ, i64_w, i32_w]; rfl)))
    refine Run.nil ?_
    refine one_ (i := 3) (N := some 50) (ms 18 15) rfl rfl (one_of HT_.out (by kernel_rfl)) (by decide) (fun K hK => ?_)
    refine goes_ Try.func23 (by kernel_rfl) rfl #[.agg #[.int .i64 a0, .int .i64 a1, .int .i64 a2, .int .i64 a3, .int .i64 a4, .int .i64 a5, .slice A6 P.length c6, .slice A7 R.length c7]] (by rfl) rfl rfl agl ?_
    with_reducible refine (zq_LetterBytes.calls k a0 a1 a2 a3 a4 a5 A6 c6 P A7 c7 R X _ (Kd.C_below H6.out HB.out) H6L.out (Kd.C_below H7.out HB.out) H7L.out HXR.out).mono ?_
    rintro e w71 ⟨v, rfl, ho_, hb_⟩
    refine ⟨_, rfl, ?_⟩
    replace HW := Aside0.mk (below_step HW.out hb_)
    have HO := Aside0.mk ho_
    obtain ⟨Ar, cr, er_⟩ := Kd.R_slice ho_
    subst er_
    clear ho_ hb_
    refine hK.out _ _ HW.out (fun hHeld => ?_)
    clear hK
    refine norm_ (a' := ?_) ?_ ?_
    rotate_left
    · show Act.put _ (some 50) _ = _
      simp only [Act.put, List.setIfInBounds_toArray, List.set_cons_zero, List.set_cons_succ, i64_w, i32_w]
      rfl
    refine one_ (i := 4) (N := some 51) (ms 18 31) rfl rfl (one_of HT_.out (by kernel_rfl)) (by decide) (fun K hK => ?_)
    have hcv := own_string (P := Try.prog) Try.underlying26 Try.underlying5 Try.underlying9 (Kd.own_of_R HO.out)
    refine value_ (w1 := ?_) (v := ?_) (by rfl) rfl ?_ ?_
    rotate_left 2
    · go_simp
      constructor
      · rfl
      · rfl
    clear hcv HO
    refine hK.out _ _ HW.out (fun hHeld => ?_)
    clear hK
    refine norm_ (a' := ?_) ?_ ?_
    rotate_left
    · show Act.put _ (some 51) _ = _
      simp only [Act.put, List.setIfInBounds_toArray, List.set_cons_zero, List.set_cons_succ, i64_w, i32_w]
      rfl
    refine run_ [(5, false, some 52), (6, false, some 53), (7, true, some 54), (8, true, some 55)] (n := 4) (ms 18 511) rfl HT_.out HW_.out (by kernel_rfl) (fun _ _ _ _ h => h) hHeld ?_
    repeat (first | (refine Run.p (v := ?_) (a' := ?_) rfl rfl (Or.inl ⟨by rfl, ?_⟩) ?_ ?_; rotate_left; (focus intro w'; go_simp; with_reducible rfl); rotate_left; (focus simp only [Act.put, List.setIfInBounds_toArray, List.set_cons_zero, List.set_cons_succ, i64_w, i32_w]; rfl)) | (refine Run.t (v := ?_) (a' := ?_) rfl rfl (Or.inl ⟨by rfl, ?_⟩) ?_ ?_; rotate_left; (focus intro w' hS; obtain ⟨z0, z1, z2, z3, z4, z5, z6, z7⟩ := box8 (blk_below By.out hS); obtain ⟨y0, y1, y2, y3, y4, y5, y6_, y7_⟩ := box8 (blk_below Bz.out hS); go_simp; with_reducible rfl); rotate_left; (focus simp only [Act.put, List.setIfInBounds_toArray, List.set_cons_zero, List.set_cons_succ, i64_w, i32_w]; rfl)))
    refine Run.nil ?_
    refine one_ (i := 9) (N := some 56) (ms 18 1023) rfl rfl (one_of HT_.out (by kernel_rfl)) (by decide) (fun K hK => ?_)
    refine goes_ Try.func24 (by kernel_rfl) rfl #[.agg #[.int .i64 l.a0, .int .i64 l.a1, .int .i64 l.a2, .int .i64 l.a3, .int .i64 l.a4, .int .i64 l.a5, .slice y6 l.P.length yc6, .slice y7 l.R.length yc7], .agg #[.int .i64 l.a0, .int .i64 l.a1, .int .i64 l.a2, .int .i64 l.a3, .int .i64 l.a4, .int .i64 l.a5, .slice z6 l.P.length zc6, .slice z7 l.R.length zc7]] (by rfl) rfl rfl agl ?_
    with_reducible refine (zq_SameLetter.calls k l.a0 l.a1 l.a2 l.a3 l.a4 l.a5 y6 yc6 l.P y7 yc7 l.R l.a0 l.a1 l.a2 l.a3 l.a4 l.a5 z6 zc6 l.P z7 zc7 l.R true _ (Kd.C_below C6y.out HW.out) L6y.out (Kd.C_below C7y.out HW.out) L7y.out (Kd.C_below C6z.out HW.out) L6z.out (Kd.C_below C7z.out HW.out) L7z.out (HSM.out BL.out)).mono ?_
    rintro e w72 ⟨rfl, hb_⟩
    refine ⟨_, rfl, ?_⟩
    have n0_ := Aside0.mk (below_step HW.out hb_)
    clear hb_ HW
    have HW := n0_
    clear n0_
    refine hK.out _ _ HW.out (fun hHeld => ?_)
    clear hK
    refine norm_ (a' := ?_) ?_ ?_
    rotate_left
    · show Act.put _ (some 56) _ = _
      simp only [Act.put, List.setIfInBounds_toArray, List.set_cons_zero, List.set_cons_succ, i64_w, i32_w]
      rfl
    refine run_ [(10, false, some 57), (11, false, some 58), (12, false, some 59), (13, false, some 60), (15, false, some 62)] (n := 5) (ms 18 49151) rfl HT_.out HW_.out (by kernel_rfl) (fun _ _ _ _ h => h) hHeld ?_
    repeat (refine Run.p (v := ?_) (a' := ?_) rfl rfl (Or.inl ⟨by rfl, ?_⟩) ?_ ?_; rotate_left; (focus intro w'; go_simp; with_reducible rfl); rotate_left; (focus simp only [Act.put, List.setIfInBounds_toArray, List.set_cons_zero, List.set_cons_succ, i64_w, i32_w]; rfl))
    refine Run.nil ?_
    refine one_ (i := 14) (N := some 61) (ms 18 65535) rfl rfl (one_of HT_.out (by kernel_rfl)) (by decide) (fun K hK => ?_)
    refine goes_ Try.func25 (by kernel_rfl) rfl #[.int .i64 er] (by rfl) rfl rfl agl ?_
    with_reducible refine (zl_num.calls _ _ _ rfl).mono ?_
    rintro e w' ⟨rfl, ⟨nd, rfl⟩⟩
    refine ⟨_, rfl, ?_⟩
    have n0_ := Aside0.mk (pw_below_drewN HW.out nd)
    clear HW
    have HW := n0_
    clear n0_
    refine hK.out _ _ HW.out (fun hHeld => ?_)
    clear hK
    refine norm_ (a' := ?_) ?_ ?_
    rotate_left
    · show Act.put _ (some 61) _ = _
      simp only [Act.put, List.setIfInBounds_toArray, List.set_cons_zero, List.set_cons_succ, i64_w, i32_w]
      rfl
    refine run_ [(16, false, some 63), (17, false, some 64)] (n := 2) (ms 18 262143) rfl HT_.out HW_.out (by kernel_rfl) (fun _ _ _ _ h => h) hHeld ?_
    repeat (refine Run.p (v := ?_) (a' := ?_) rfl rfl (Or.inl ⟨by rfl, ?_⟩) ?_ ?_; rotate_left; (focus intro w'; go_simp; with_reducible rfl); rotate_left; (focus simp only [Act.put, List.setIfInBounds_toArray, List.set_cons_zero, List.set_cons_succ, i64_w, i32_w]; rfl))
    refine Run.nil ?_
    refine done_ (done_of HT_.out (by kernel_rfl)) ?_
    clear HT_ HW_ hHeld
    have HW2 := HW.out
    go_upto_region 9 with (fail)
    replace HB := Aside0.mk (below_step HB.out HW2)
    replace BX := Aside0.mk (blk_below BX.out HW2)
    replace CX := Aside0.mk (Kd.C_below CX.out HW2)
    clear HW By Bz C6y C7y C6z C7z L6y L7y L6z L7z HW2
    generalize w72.drewN nd = w73 at HB BX CX ⊢
    have HK := Aside0.mk (Below.refl w73.heap.size w73)
    go_upto_region 10 with (first | (go_at_call 21; (with_reducible refine (read.law Ax cx X _ _ ?s1 LX.out OKX.out HT2.out).mono ?_); (case s1 => exact Kd.C_below CX.out (bel (h := by repeat (first | (with_reducible first | exact HK.out | apply below_alloc | apply pw_below_drewN | apply below_drew1) | exact HK.out)))); rintro e w83 ho_; obtain ⟨s6, sc6, s7, sc7, rfl, c6_, l6_, c7_, l7_, hb_⟩ := out_un ho_ HU2.out; have C6s := Aside0.mk c6_; have L6s := Aside0.mk l6_; have C7s := Aside0.mk c7_; have L7s := Aside0.mk l7_; replace HK := Aside0.mk (below_step (bel (h := by repeat (first | (with_reducible first | exact HK.out | apply below_alloc | apply pw_below_drewN | apply below_drew1) | exact HK.out))) hb_); clear ho_ c6_ l6_ c7_ l7_ hb_) | ((with_reducible refine gate_dst (N := 11) rfl ?_); refine box_event ?hg (N := 11) ?hd (cs := #[.int .i64 0, .int .i64 0, .int .i64 0, .int .i64 0, .int .i64 0, .int .i64 0, .slice none 0 0, .slice none 0 0]) (t := 45) ?hr ?_; (case hd => rfl); (case hg => rfl); (case hr => first | (go_simp; done) | (go_simp; rfl)); intro gb11 hg w9 hbox hb; have HN := Aside0.mk hb; have GN := Aside0.mk (Nat.le_of_eq hg.symm); have BN := Aside0.mk hbox; obtain ⟨hz0, hz1, hz2, hz3, hz4, hz5, hz6, hz7⟩ := box8 hbox; obtain ⟨hf0, hf1, hf2, hf3, hf4, hf5, hf6, hf7⟩ := frz8 hbox; clear hbox hb hg))
    have HM_ := bel8 (a := .int .i64 l2.a0) (b := .int .i64 l2.a1) (c := .int .i64 l2.a2) (d := .int .i64 l2.a3) (e := .int .i64 l2.a4) (f := .int .i64 l2.a5) (p := .slice s6 l2.P.length sc6) (q := .slice s7 l2.R.length sc7) HN.out GN.out
    have HK_ := below_step HK.out HM_
    have HB_ := Aside0.mk (show Below w.heap.size w ((((((((w9.setCell ⟨gb11, 0, none⟩ (.int .i64 l2.a0)).setCell ⟨gb11, 1, none⟩ (.int .i64 l2.a1)).setCell ⟨gb11, 2, none⟩ (.int .i64 l2.a2)).setCell ⟨gb11, 3, none⟩ (.int .i64 l2.a3)).setCell ⟨gb11, 4, none⟩ (.int .i64 l2.a4)).setCell ⟨gb11, 5, none⟩ (.int .i64 l2.a5)).setCell ⟨gb11, 6, none⟩ (.slice s6 l2.P.length sc6)).setCell ⟨gb11, 7, none⟩ (.slice s7 l2.R.length sc7)) from below_step HB.out HK_)
    have Bs := Aside0.mk (show (((((((((w9.setCell ⟨gb11, 0, none⟩ (.int .i64 l2.a0)).setCell ⟨gb11, 1, none⟩ (.int .i64 l2.a1)).setCell ⟨gb11, 2, none⟩ (.int .i64 l2.a2)).setCell ⟨gb11, 3, none⟩ (.int .i64 l2.a3)).setCell ⟨gb11, 4, none⟩ (.int .i64 l2.a4)).setCell ⟨gb11, 5, none⟩ (.int .i64 l2.a5)).setCell ⟨gb11, 6, none⟩ (.slice s6 l2.P.length sc6)).setCell ⟨gb11, 7, none⟩ (.slice s7 l2.R.length sc7))).heap[gb11]? = some (.cells #[.int .i64 l2.a0, .int .i64 l2.a1, .int .i64 l2.a2, .int .i64 l2.a3, .int .i64 l2.a4, .int .i64 l2.a5, .slice s6 l2.P.length sc6, .slice s7 l2.R.length sc7] 45 (0, 0)) from set8 BN.out)
    replace C6s := Aside0.mk (Kd.C_below C6s.out HM_)
    replace C7s := Aside0.mk (Kd.C_below C7s.out HM_)
    replace BX := Aside0.mk (blk_below BX.out HK_)
    clear HM_ HK_ HB HN GN BN HK hz0 hz1 hz2 hz3 hz4 hz5 hz6 hz7 hf0 hf1 hf2 hf3 hf4 hf5 hf6 hf7
    generalize ((((((((w9.setCell ⟨gb11, 0, none⟩ (.int .i64 l2.a0)).setCell ⟨gb11, 1, none⟩ (.int .i64 l2.a1)).setCell ⟨gb11, 2, none⟩ (.int .i64 l2.a2)).setCell ⟨gb11, 3, none⟩ (.int .i64 l2.a3)).setCell ⟨gb11, 4, none⟩ (.int .i64 l2.a4)).setCell ⟨gb11, 5, none⟩ (.int .i64 l2.a5)).setCell ⟨gb11, 6, none⟩ (.slice s6 l2.P.length sc6)).setCell ⟨gb11, 7, none⟩ (.slice s7 l2.R.length sc7)) = w53 at HB_ Bs C6s C7s BX ⊢
    have HB := HB_
    clear HB_
    have HK := Aside0.mk (Below.refl w53.heap.size w53)
    obtain ⟨x0, x1, x2, x3, x4, x5, x6, x7⟩ := box8 Bs.out
    obtain ⟨hz0, hz1, hz2, hz3, hz4, hz5, hz6, hz7⟩ := box8 BX.out
    by_cases c3 : X = []
    · have c3b0 : (X.length : Int) = 0 := by rw [c3]; rfl
      have c3b1 : ((X.length : Int) == 0) = true := beq_iff_eq.mpr c3b0
      clear HX2
      go_wp2_with (go_at_call 25; (try (refine gate_guard (by rfl) ?_; dsimp only)); (with_reducible refine (zl_num.calls _ _ _ rfl).mono ?_); rintro e w' ⟨rfl, ⟨nd_, rfl⟩⟩)
      refine bodyPost_ret (results_tmp (by rfl) _ _ _) (by rfl) ?_
      exact ⟨rfl, bel⟩
    · obtain ⟨rfl, sm_⟩ := HX2.out c3
      have SM2 := Aside0.mk sm_
      have c3b0 : ((X.length : Int) == 0) = false := beq_eq_false_iff_ne.mpr (fun h => c3 (List.eq_nil_of_length_eq_zero (by omega)))
      have xne : ¬ (X = []) := c3
      clear HX2 sm_ c3
      go_wp2_with (first | (go_at_call 25; (try (refine gate_guard (by rfl) ?_; dsimp only)); (with_reducible refine (zl_num.calls _ _ _ rfl).mono ?_); rintro e w' ⟨rfl, ⟨nd_, rfl⟩⟩) | (go_at_call 24; (try (refine gate_guard (by rfl) ?_; dsimp only)); (with_reducible refine (zq_SameLetter.calls k _ _ _ _ _ _ s6 sc6 l2.P s7 sc7 l2.R _ _ _ _ _ _ A6 c6 P A7 c7 R true _ ?q1 L6s.out ?q2 L7s.out ?q3 H6L.out ?q4 H7L.out SM2.out).mono ?_); (case q1 => exact Kd.C_below C6s.out (bel (h := by repeat (first | (with_reducible first | exact HK.out | apply below_alloc | apply pw_below_drewN | apply below_drew1) | exact HK.out)))); (case q2 => exact Kd.C_below C7s.out (bel (h := by repeat (first | (with_reducible first | exact HK.out | apply below_alloc | apply pw_below_drewN | apply below_drew1) | exact HK.out)))); (case q3 => exact Kd.C_below H6.out (below_step HB.out (bel (h := by repeat (first | (with_reducible first | exact HK.out | apply below_alloc | apply pw_below_drewN | apply below_drew1) | exact HK.out))))); (case q4 => exact Kd.C_below H7.out (below_step HB.out (bel (h := by repeat (first | (with_reducible first | exact HK.out | apply below_alloc | apply pw_below_drewN | apply below_drew1) | exact HK.out))))); rintro e w84 ⟨rfl, hb_⟩; replace HB := Aside0.mk (below_step (below_step HB.out (bel (h := by repeat (first | (with_reducible first | exact HK.out | apply below_alloc | apply pw_below_drewN | apply below_drew1) | exact HK.out)))) hb_); clear hb_))
      refine bodyPost_ret (results_tmp (by rfl) _ _ _) (by rfl) ?_
      exact ⟨rfl, bel⟩
end Go.Proofs.Ytjcfmfdkligmoaa.Ls
