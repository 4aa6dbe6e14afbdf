/- fountainlaw22.LetterTorn: it answers true, if what it calls comes to what is said. Conditions: those that stand in the theorems. Written by mklx.py. -/
import Derived.Test.YtjcfmfdkligmoaaLj
import Derived.Test.YtjcfmfdkligmoaaLw
namespace Go.Proofs.Ytjcfmfdkligmoaa.Lx
open Go.RowKit Go.Lib Go.Proofs.Ytjcfmfdkligmoaa.PRecordTells Go.Proofs.Ytjcfmfdkligmoaa.PLetterLimits Go.Proofs.Ytjcfmfdkligmoaa.PLetterTorn Go.Proofs.Ytjcfmfdkligmoaa.Lt Go.Proofs.Ytjcfmfdkligmoaa.Lr Go.Proofs.Ytjcfmfdkligmoaa.Lq Go.Proofs.Ytjcfmfdkligmoaa.Lg Go.Proofs.Ytjcfmfdkligmoaa.Lj Go.Proofs.Ytjcfmfdkligmoaa.Lw Go.Proofs.YtjcfmfdkligmoaaW.PrintWords Go.Proofs.YtjcfmfdkligmoaaW.PrintLast Go.Proofs.YtjcfmfdkligmoaaW.PrintMore
set_option linter.unusedVariables false
set_option linter.unusedSimpArgs false
set_option maxHeartbeats 8000000
set_option maxRecDepth 100000
def Bad (k : Nat) (bs : List Int) : Prop := ∃ (v : Nat → Int) (P : List Int) (Rs : List S28) (sr : Nat → List Int × Bool) (q : Bool), (∀ i, i < 7 → vw k bs i = some (v i)) ∧ v 6 = (P.length : Int) ∧ (∀ i : Nat, i < P.length → record_Whole.f k (tk 4 (ps (st bs 7) i)).1 = some (P.getD i 0)) ∧ P.length ≤ 255 ∧
    record_Whole.f k (tk 1 (ps (st bs 7) P.length)).1 = some (Rs.length : Int) ∧ sr 0 = (tk 1 (ps (st bs 7) P.length)).2 ∧ (∀ i : Nat, i < Rs.length → RecStep k (sr i) (sr (i + 1)) (Rs.getD i z28)) ∧ Rs.length ≤ 255 ∧ right.f (v 0) (v 1) (v 2) (v 3) (v 4) (v 5) P Rs = some q ∧ ((sr Rs.length).2 = true ∨ (sr Rs.length).1 ≠ [] ∨ q = false)
theorem bad.calls (k : Nat) (A : Option Addr) (c : Nat) (bs : List Int) (w : World) (hC : (Kd.int .u8).C w A bs.length bs) (hl : bs.length ≤ c) (h : Bad k bs) :
    Calls Try.prog 21 #[.slice A bs.length c] w fun e w' => e = .returned (.tuple #[.agg #[.int .i64 0, .int .i64 0, .int .i64 0, .int .i64 0, .int .i64 0, .int .i64 0, .slice none 0 0, .slice none 0 0], .int .i64 2]) ∧ Below w.heap.size w w' := by
  obtain ⟨v, P, Rs, sr, q, h1, h2, h3, h4, h5, h6, h7, h8, h9, h10⟩ := h
  refine (read.calls k A c bs v P Rs sr q w hC hl h1 h2 h3 h4 h5 h6 h7 h8 h9).mono ?_
  rintro e w' ⟨up, ur, rfl, _, _, hb⟩
  refine ⟨?_, hb⟩
  unfold ans2
  rw [if_pos h10]
theorem torn.calls (k : Nat) (LB_ : List Int) (lv : Nat → Int) (a0 a1 a2 a3 a4 a5 : Int) (A6 : Option Addr) (c6 : Nat) (P : List Int) (A7 : Option Addr) (c7 : Nat) (R : List S28) (n : Int) (X : List Int) (fw : Bool) (w : World)
    (h6 : (Kd.int .i64).C w A6 P.length P) (l6 : P.length ≤ c6) (h7 : k28.C w A7 R.length R) (l7 : R.length ≤ c7) (hlv : Live k LB_ lv) (hX : fountainref14_LetterBytes.f k a0 a1 a2 a3 a4 a5 P R = some X) (hF : fountainlaw16_Few.f k R = some fw) (xl : X.length < 2 ^ 30)
    (hB : P.length ≤ 300 → fw = true → X ≠ [] → 0 ≤ n → Bad k (X.take (Int.tmod n (X.length : Int)).toNat) ∧ Bad k (X ++ [0])) :
    Calls Try.prog 7 #[.agg #[.int .i64 a0, .int .i64 a1, .int .i64 a2, .int .i64 a3, .int .i64 a4, .int .i64 a5, .slice A6 P.length c6, .slice A7 R.length c7], .int .i64 n] w fun e w' => e = .returned (.bool true) ∧ Below w.heap.size w w' := by
  have hu45 := Try.underlying45
  have LV := Aside0.mk hlv
  have HX := Aside0.mk hX
  have HF := Aside0.mk hF
  have H6 := Aside0.mk h6
  have H6L := Aside0.mk l6
  have H7 := Aside0.mk h7
  have H7L := Aside0.mk l7
  have XL := Aside0.mk xl
  have HBB := Aside0.mk hB
  have HB := Aside0.mk (Below.refl w.heap.size w)
  clear hlv hX hF h6 l6 h7 l7 xl hB
  go_enter Try.func7, Try.ntmps7
  go_upto_region 3 with (first | ((with_reducible refine gate_dst (N := 2) rfl ?_); refine box_event ?hg (N := 2) ?hd (cs := #[.int .i64 a0, .int .i64 a1, .int .i64 a2, .int .i64 a3, .int .i64 a4, .int .i64 a5, .slice A6 P.length c6, .slice A7 R.length c7]) (t := 45) ?hr ?_; (case hd => rfl); (case hg => rfl); (case hr => first | (go_simp; done) | (go_simp; rfl)); intro gb2 hg w2 hbox hb; replace HB := Aside0.mk (belt hb); have BX := Aside0.mk hbox; obtain ⟨hz0, hz1, hz2, hz3, hz4, hz5, hz6, hz7⟩ := box8 BX.out; obtain ⟨hf0, hf1, hf2, hf3, hf4, hf5, hf6, hf7⟩ := frz8 BX.out; clear hbox hb hg) | (go_at_call 18; (with_reducible refine (alive.calls k LB_ lv LV.out _).mono ?_); rintro e w3 ⟨rfl, hb_⟩; replace HB := Aside0.mk (belt hb_); replace BX := Aside0.mk (blk_below BX.out hb_); clear hz0 hz1 hz2 hz3 hz4 hz5 hz6 hz7 hf0 hf1 hf2 hf3 hf4 hf5 hf6 hf7; obtain ⟨hz0, hz1, hz2, hz3, hz4, hz5, hz6, hz7⟩ := box8 BX.out; obtain ⟨hf0, hf1, hf2, hf3, hf4, hf5, hf6, hf7⟩ := frz8 BX.out; clear hb_) | (go_at_call 23; (with_reducible refine (fountainref14_LetterBytes.calls k a0 a1 a2 a3 a4 a5 A6 c6 P A7 c7 R X _ ?s1 H6L.out ?s2 H7L.out HX.out).mono ?_); (case s1 => exact Kd.C_below H6.out bel); (case s2 => exact Kd.C_below H7.out bel); rintro e w4 ⟨v, rfl, ho_, hb_⟩; obtain ⟨Ab, cb, rfl, lb_, Cb_⟩ := Kd.R_reads ho_; have CB := Aside0.mk Cb_; have LB := Aside0.mk lb_; replace HB := Aside0.mk (belt hb_); replace BX := Aside0.mk (blk_below BX.out hb_); clear hz0 hz1 hz2 hz3 hz4 hz5 hz6 hz7 hf0 hf1 hf2 hf3 hf4 hf5 hf6 hf7; obtain ⟨hz0, hz1, hz2, hz3, hz4, hz5, hz6, hz7⟩ := box8 BX.out; obtain ⟨hf0, hf1, hf2, hf3, hf4, hf5, hf6, hf7⟩ := frz8 BX.out; clear hb_ ho_ lb_ Cb_))
  by_cases c1 : 300 < P.length
  · have c1b0 : decide (300 < (P.length : Int)) = true := decide_eq_true (by omega)
    have c1b1 : decide (300 < P.length) = true := decide_eq_true c1
    clear c1
    go_wp2_with (first | (go_at_call 19; (try (refine gate_guard (by rfl) ?_; dsimp only)); (with_reducible refine (fountainlaw16_Few.calls k A7 c7 R _ _ ?s1 H7L.out HF.out).mono ?_); (case s1 => exact Kd.C_below H7.out bel); rintro e w6 ⟨rfl, ⟨nd, rfl⟩⟩) | (go_at_call 25; (try (refine gate_guard (by rfl) ?_; dsimp only)); (with_reducible refine (fountainlaw22_num.calls _ _ _ rfl).mono ?_); rintro e w' ⟨rfl, ⟨nd_, rfl⟩⟩))
    refine bodyPost_ret (results_tmp (by rfl) _ _ _) (by rfl) ?_
    exact ⟨rfl, bel⟩
  have c1b0 : decide (300 < (P.length : Int)) = false := decide_eq_false (by omega)
  have c1b1 : decide (300 < P.length) = false := decide_eq_false c1
  cases fw with
  | false =>
    clear c1
    go_wp2_with (first | (go_at_call 19; (try (refine gate_guard (by rfl) ?_; dsimp only)); (with_reducible refine (fountainlaw16_Few.calls k A7 c7 R _ _ ?s1 H7L.out HF.out).mono ?_); (case s1 => exact Kd.C_below H7.out bel); rintro e w6 ⟨rfl, ⟨nd, rfl⟩⟩) | (go_at_call 25; (try (refine gate_guard (by rfl) ?_; dsimp only)); (with_reducible refine (fountainlaw22_num.calls _ _ _ rfl).mono ?_); rintro e w' ⟨rfl, ⟨nd_, rfl⟩⟩))
    refine bodyPost_ret (results_tmp (by rfl) _ _ _) (by rfl) ?_
    exact ⟨rfl, bel⟩
  | true =>
    by_cases c2 : X = []
    · have c2b0 : (X.length : Int) = 0 := by rw [c2]; rfl
      have c2b1 : ((X.length : Int) == 0) = true := beq_iff_eq.mpr c2b0
      clear c1
      go_wp2_with (first | (go_at_call 19; (try (refine gate_guard (by rfl) ?_; dsimp only)); (with_reducible refine (fountainlaw16_Few.calls k A7 c7 R _ _ ?s1 H7L.out HF.out).mono ?_); (case s1 => exact Kd.C_below H7.out bel); rintro e w6 ⟨rfl, ⟨nd, rfl⟩⟩) | (go_at_call 25; (try (refine gate_guard (by rfl) ?_; dsimp only)); (with_reducible refine (fountainlaw22_num.calls _ _ _ rfl).mono ?_); rintro e w' ⟨rfl, ⟨nd_, rfl⟩⟩))
      refine bodyPost_ret (results_tmp (by rfl) _ _ _) (by rfl) ?_
      exact ⟨rfl, bel⟩
    have c2b0 : ((X.length : Int) == 0) = false := beq_eq_false_iff_ne.mpr (fun h => c2 (List.eq_nil_of_length_eq_zero (by omega)))
    have c2b1 : ((X.length : Int) != 0) = true := bne_iff_ne.mpr (fun h => c2 (List.eq_nil_of_length_eq_zero (by omega)))
    by_cases c3 : n < 0
    · have c3b0 : decide (n < 0) = true := decide_eq_true c3
      clear c1 c3
      go_wp2_with (first | (go_at_call 19; (try (refine gate_guard (by rfl) ?_; dsimp only)); (with_reducible refine (fountainlaw16_Few.calls k A7 c7 R _ _ ?s1 H7L.out HF.out).mono ?_); (case s1 => exact Kd.C_below H7.out bel); rintro e w6 ⟨rfl, ⟨nd, rfl⟩⟩) | (go_at_call 25; (try (refine gate_guard (by rfl) ?_; dsimp only)); (with_reducible refine (fountainlaw22_num.calls _ _ _ rfl).mono ?_); rintro e w' ⟨rfl, ⟨nd_, rfl⟩⟩))
      refine bodyPost_ret (results_tmp (by rfl) _ _ _) (by rfl) ?_
      exact ⟨rfl, bel⟩
    have c3b0 : decide (n < 0) = false := decide_eq_false c3
    obtain ⟨bt, bz⟩ := HBB.out (by omega) rfl c2 (by omega)
    have hXp : 0 < X.length := List.length_pos_iff.2 c2
    obtain ⟨ji, hji⟩ : ∃ j_ : Int, Int.tmod n (X.length : Int) = j_ := ⟨_, rfl⟩
    have j0 : 0 ≤ ji := by rw [← hji]; exact Int.tmod_nonneg _ (by omega)
    have j1 : ji ≤ (X.length : Int) := by rw [← hji]; exact Int.le_of_lt (Int.tmod_lt_of_pos _ (by omega))
    rw [hji] at bt
    obtain ⟨T, hT⟩ : ∃ T_ : List Int, T_ = X.take ji.toNat := ⟨_, rfl⟩
    rw [← hT] at bt
    obtain ⟨Z, hZ⟩ : ∃ Z_ : List Int, Z_ = X ++ [0] := ⟨_, rfl⟩
    rw [← hZ] at bz
    have NZ := Aside0.mk hZ
    have BT := Aside0.mk bt
    have BZ := Aside0.mk bz
    have tl : T.length = ji.toNat := by rw [hT, List.length_take]; omega
    have CT := Aside0.mk (show (Kd.int .u8).C w4 Ab T.length T from by have := Kd.C_take (m := ji.toNat) CB.out (by omega); first | (rw [← hT] at this; exact this) | (rw [← hT, ← tl] at this; exact this))
    have TL := Aside0.mk (show T.length ≤ cb from by have := LB.out; omega)
    obtain ⟨i0, hi0, _, _, _⟩ := info_parts info5
    have hcut := cut_to (P := Try.prog) 26 5 .i64 Try.underlying26 hi0 Ab X.length cb ji j0 j1 LB.out
    rw [← tl] at hcut
    have H1 := Aside0.mk (Below.refl w4.heap.size w4)
    have jb0 := eq_true j0
    have jb1 := eq_true j1
    have jd0 : decide (0 ≤ ji) = true := decide_eq_true j0
    have jd1 : decide (ji ≤ (X.length : Int)) = true := decide_eq_true j1
    have xne : ¬ (X = []) := c2
    clear c1 c2 c3 bt bz hT hZ hi0 hXp HBB tl
    go_upto_region 5 with (first | (go_at_call 19; (try (refine gate_guard (by rfl) ?_; dsimp only)); (with_reducible refine (fountainlaw16_Few.calls k A7 c7 R _ _ ?s1 H7L.out HF.out).mono ?_); (case s1 => exact Kd.C_below H7.out bel); rintro e w6 ⟨rfl, ⟨nd, rfl⟩⟩))
    go_upto_region 6 with (first | (go_at_call 21; (with_reducible refine (bad.calls k Ab cb T _ ?s1 TL.out BT.out).mono ?_); (case s1 => exact Kd.C_below CT.out (bel (h := by repeat (first | (with_reducible first | exact H1.out | apply below_alloc | apply pw_below_drewN | apply below_drew1) | exact H1.out)))); rintro e w7 ⟨rfl, hb_⟩; replace H1 := Aside0.mk (belt hb_); clear hb_) | ((with_reducible refine gate_dst (N := 7) rfl ?_); refine box_event ?hg (N := 7) ?hd (cs := #[.int .i64 0, .int .i64 0, .int .i64 0, .int .i64 0, .int .i64 0, .int .i64 0, .slice none 0 0, .slice none 0 0]) (t := 45) ?hr ?_; (case hd => rfl); (case hg => rfl); (case hr => first | (go_simp; done) | (go_simp; rfl)); intro gb7 hg w2 hbox hb; have GB := Aside0.mk (by rw [hg]; exact below_size (bel (h := by repeat (first | (with_reducible first | exact H1.out | apply below_alloc | apply pw_below_drewN | apply below_drew1) | exact H1.out))) : w4.heap.size ≤ gb7); replace H1 := Aside0.mk (belt hb); obtain ⟨hz0, hz1, hz2, hz3, hz4, hz5, hz6, hz7⟩ := box8 hbox; obtain ⟨hf0, hf1, hf2, hf3, hf4, hf5, hf6, hf7⟩ := frz8 hbox; clear hbox hb hg))
    have H1_ := Aside0.mk (show Below w4.heap.size w4 ((((((((w2.setCell ⟨gb7, 0, none⟩ (.int .i64 0)).setCell ⟨gb7, 1, none⟩ (.int .i64 0)).setCell ⟨gb7, 2, none⟩ (.int .i64 0)).setCell ⟨gb7, 3, none⟩ (.int .i64 0)).setCell ⟨gb7, 4, none⟩ (.int .i64 0)).setCell ⟨gb7, 5, none⟩ (.int .i64 0)).setCell ⟨gb7, 6, none⟩ (.slice none 0 0)).setCell ⟨gb7, 7, none⟩ (.slice none 0 0)) from bel8 H1.out GB.out)
    clear H1 GB hz0 hz1 hz2 hz3 hz4 hz5 hz6 hz7 hf0 hf1 hf2 hf3 hf4 hf5 hf6 hf7
    generalize ((((((((w2.setCell ⟨gb7, 0, none⟩ (.int .i64 0)).setCell ⟨gb7, 1, none⟩ (.int .i64 0)).setCell ⟨gb7, 2, none⟩ (.int .i64 0)).setCell ⟨gb7, 3, none⟩ (.int .i64 0)).setCell ⟨gb7, 4, none⟩ (.int .i64 0)).setCell ⟨gb7, 5, none⟩ (.int .i64 0)).setCell ⟨gb7, 6, none⟩ (.slice none 0 0)).setCell ⟨gb7, 7, none⟩ (.slice none 0 0)) = w5 at H1_ ⊢
    have H1 := H1_
    clear H1_
    go_upto_region 7 with (first | ((with_reducible refine gate_builtin (b := .append) (xs := #[.const (.slice none 0 0), .tmp 49]) rfl ?_); at_builtin; refine Kd.R_append_rows (Kd.int .u8) (w0 := w4) w4.heap.size rfl (.const (.slice none 0 0)) (.tmp 49) 26 5 (.int .u8 0) 1 rfl Try.underlying26 info5 rfl (by decide) (by omega) (.slice none 0 0) ([] : List Int) X _ _ _ (fun _ => True) (fun _ => False) rfl rfl ?aO ?aR (fun _ _ h => h) (fun _ h => h.elim) ?aF ?aB ?aS ?aL ?_; (case aR => exact Kd.C_below CB.out (bel (h := by repeat (first | (with_reducible first | exact H1.out | apply below_alloc | apply pw_below_drewN | apply below_drew1) | exact H1.out)))); (case aB => exact (bel (h := by repeat (first | (with_reducible first | exact H1.out | apply below_alloc | apply pw_below_drewN | apply below_drew1) | exact H1.out)))); (case aF => exact fun _ _ => trivial); (case aO => exact Kd.R_nil _ _ _ _ _); (case aS => exact below_size (bel (h := by repeat (first | (with_reducible first | exact H1.out | apply below_alloc | apply pw_below_drewN | apply below_drew1) | exact H1.out)))); (case aL => have := XL.out; simp only [List.length_nil]; omega); intro va w8 ho hb hg hat; rw [List.nil_append] at ho; have HO := Aside0.mk ho; replace H1 := Aside0.mk hb; clear ho hb hg hat) | ((with_reducible refine gate_builtin (b := .append) (xs := #[.tmp 50, .tmp 51]) rfl ?_); at_builtin; refine Kd.R_append (Kd.int .u8) (w0 := w4) w4.heap.size rfl (.tmp 50) (.tmp 51) 26 5 (.int .u8 0) 1 rfl Try.underlying26 info5 rfl (by decide) (by omega) va X 0 [.int .u8 0] (fun _ => True) (fun _ => False) rfl rfl ?aP (fun _ hk => hk.elim) ?aF ?aO ?aB ?aS ?aL ?_; (case aP => exact rfl); (case aB => exact (bel (h := by repeat (first | (with_reducible first | exact H1.out | apply below_alloc | apply pw_below_drewN | apply below_drew1) | exact H1.out)))); (case aF => exact fun _ _ => trivial); (case aO => (with_reducible repeat (first | apply Kd.R_alloc | apply Kd.R_drewN | apply Kd.R_drew)); exact HO.out); (case aS => exact below_size (bel (h := by repeat (first | (with_reducible first | exact H1.out | apply below_alloc | apply pw_below_drewN | apply below_drew1) | exact H1.out)))); (case aL => have := XL.out; omega); intro vz w9 ho hb hg hat; rw [← NZ.out] at ho; replace H1 := Aside0.mk hb; obtain ⟨Az, cz, rfl, lz_, Cz_⟩ := Kd.R_reads ho; have CZ := Aside0.mk Cz_; have LZ := Aside0.mk lz_; clear ho hb hg hat lz_ Cz_) | (go_at_call 21; (with_reducible refine (bad.calls k Az cz Z _ ?s1 LZ.out BZ.out).mono ?_); (case s1 => exact CZ.out); rintro e w7 ⟨rfl, hb_⟩; replace H1 := Aside0.mk (belt hb_); clear hb_) | ((with_reducible refine gate_dst (N := 9) rfl ?_); refine box_event ?hg (N := 9) ?hd (cs := #[.int .i64 0, .int .i64 0, .int .i64 0, .int .i64 0, .int .i64 0, .int .i64 0, .slice none 0 0, .slice none 0 0]) (t := 45) ?hr ?_; (case hd => rfl); (case hg => rfl); (case hr => first | (go_simp; done) | (go_simp; rfl)); intro gb9 hg w2 hbox hb; have GB := Aside0.mk (by rw [hg]; exact below_size (bel (h := by repeat (first | (with_reducible first | exact H1.out | apply below_alloc | apply pw_below_drewN | apply below_drew1) | exact H1.out))) : w4.heap.size ≤ gb9); replace H1 := Aside0.mk (belt hb); obtain ⟨hz0, hz1, hz2, hz3, hz4, hz5, hz6, hz7⟩ := box8 hbox; obtain ⟨hf0, hf1, hf2, hf3, hf4, hf5, hf6, hf7⟩ := frz8 hbox; clear hbox hb hg))
    have H1_ := Aside0.mk (show Below w4.heap.size w4 ((((((((w2.setCell ⟨gb9, 0, none⟩ (.int .i64 0)).setCell ⟨gb9, 1, none⟩ (.int .i64 0)).setCell ⟨gb9, 2, none⟩ (.int .i64 0)).setCell ⟨gb9, 3, none⟩ (.int .i64 0)).setCell ⟨gb9, 4, none⟩ (.int .i64 0)).setCell ⟨gb9, 5, none⟩ (.int .i64 0)).setCell ⟨gb9, 6, none⟩ (.slice none 0 0)).setCell ⟨gb9, 7, none⟩ (.slice none 0 0)) from bel8 H1.out GB.out)
    clear H1 GB hz0 hz1 hz2 hz3 hz4 hz5 hz6 hz7 hf0 hf1 hf2 hf3 hf4 hf5 hf6 hf7
    generalize ((((((((w2.setCell ⟨gb9, 0, none⟩ (.int .i64 0)).setCell ⟨gb9, 1, none⟩ (.int .i64 0)).setCell ⟨gb9, 2, none⟩ (.int .i64 0)).setCell ⟨gb9, 3, none⟩ (.int .i64 0)).setCell ⟨gb9, 4, none⟩ (.int .i64 0)).setCell ⟨gb9, 5, none⟩ (.int .i64 0)).setCell ⟨gb9, 6, none⟩ (.slice none 0 0)).setCell ⟨gb9, 7, none⟩ (.slice none 0 0)) = w6 at H1_ ⊢
    have H1 := H1_
    clear H1_
    go_wp2_with (go_at_call 25; (try (refine gate_guard (by rfl) ?_; dsimp only)); (with_reducible refine (fountainlaw22_num.calls _ _ _ rfl).mono ?_); rintro e w' ⟨rfl, ⟨nd_, rfl⟩⟩)
    refine bodyPost_ret (results_tmp (by rfl) _ _ _) (by rfl) ?_
    exact ⟨rfl, below_step HB.out (bel (h := by repeat (first | (with_reducible first | exact H1.out | apply below_alloc | apply pw_below_drewN | apply below_drew1) | exact H1.out)))⟩
end Go.Proofs.Ytjcfmfdkligmoaa.Lx
