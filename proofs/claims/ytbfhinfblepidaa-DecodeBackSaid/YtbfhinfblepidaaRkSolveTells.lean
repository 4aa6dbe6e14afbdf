/- solve.Rank: what it answers, by the contracts of fit and reduce. Conditions: those that stand in the theorems. -/
import Derived.Test.YtbfhinfblepidaaRdSolveTells
namespace Go.Proofs.Ytbfhinfblepidaa.RkSolveTells
open Go.RowKit Go.Lib Go.Proofs.Ytbfhinfblepidaa.PSolveTells Go.Proofs.YtbfhinfblepidaaW.PrintWords Go.Proofs.YtbfhinfblepidaaW.PrintLast Go.Proofs.YtbfhinfblepidaaW.PrintMore Go.Proofs.Ytbfhinfblepidaa.Mt Go.Proofs.Ytbfhinfblepidaa.RdSolveTells
attribute [local go_sem] max2_int min2_int max_two min_two max_three min_three max_four min_four
set_option linter.unusedVariables false
set_option linter.unusedSimpArgs false
theorem below_grown0 {w w1 : World} (hg : w.grownBy w1 none) : Below w.heap.size w w1 := pw_below_grown (Below.refl _ _) none (Nat.le_refl _) hg (fun k h => by cases h)
theorem l0_nil (k : Nat) (all : Bool) (f c : Nat) (D : List (List Int)) : l0 k all f c 0 [] D = some (0, [], D) := by
  cases f with
  | zero => rfl
  | succ f => unfold l0; rw [if_neg (by simp)]
set_option maxHeartbeats 4000000 in
set_option maxRecDepth 100000 in
theorem reduce0 (A B : Option Addr) (c d width : Nat) (all : Bool) (w : World) (hw : width ≤ 300) : Calls Try.prog 65 #[.int .i64 (width : Int), .slice A 0 c, .slice B 0 d, .bool all] w fun e w' => e = .returned (.int .i64 0) ∧ Below w.heap.size w w' := by
  have HB := zA (Below.refl w.heap.size w)
  by_cases h : 0 < width
  · have hz : (0 : Int) < (width : Int) := by omega
    go_enter Try.func65, Try.ntmps65
    go_wp2
    go_loopg [9, 10] 1 (fun gg v9 v10 wr => v9 = .int .i64 0 ∧ ∃ gb : Nat, v10 = .pointer (some ⟨gb, 0, none⟩) ∧ Aside0 (wr.heap[gb]? = some (.cells #[.int .i64 0] 3 (0, 0))) ∧ Aside0 (Below w.heap.size w wr))
    case atStart => exact ⟨rfl, w.heap.size, rfl, ⟨blk_new w _⟩, ⟨below_alloc HB.out _⟩⟩
    case round =>
      clear HB
      obtain ⟨rfl, gb, rfl, hbox, HB⟩ := hrel
      have hbx : wr.cell? ⟨gb, 0, none⟩ = some (.int .i64 0) := (blk_cell hbox.out 0).trans rfl
      go_wp2
      go_ret
      exact ⟨rfl, HB.out⟩
  · have hz : ¬ (0 : Int) < (width : Int) := by omega
    go_enter Try.func65, Try.ntmps65
    go_wp2
    go_loopg [9, 10] 1 (fun gg v9 v10 wr => v9 = .int .i64 0 ∧ ∃ gb : Nat, v10 = .pointer (some ⟨gb, 0, none⟩) ∧ Aside0 (wr.heap[gb]? = some (.cells #[.int .i64 0] 3 (0, 0))) ∧ Aside0 (Below w.heap.size w wr))
    case atStart => exact ⟨rfl, w.heap.size, rfl, ⟨blk_new w _⟩, ⟨below_alloc HB.out _⟩⟩
    case round =>
      clear HB
      obtain ⟨rfl, gb, rfl, hbox, HB⟩ := hrel
      have hbx : wr.cell? ⟨gb, 0, none⟩ = some (.int .i64 0) := (blk_cell hbox.out 0).trans rfl
      go_wp2
      go_ret
      exact ⟨rfl, HB.out⟩
theorem reduceAny (w0 : World) (k : Nat) (v1 : Value) (A2 : Option Addr) (c2 : Nat) (width : Nat) (all : Bool) (M D : List (List Int)) (R : Nat × List (List Int) × List (List Int)) (w : World) {ok1 ok2 : Nat → Prop} (hb : Below w0.heap.size w0 w)
    (h1 : (Kd.slice 5 (Kd.int .u8)).R 31 w w0.heap.size ok1 v1 M) (h2 : (Kd.slice 5 (Kd.int .u8)).R 31 w w0.heap.size ok2 (.slice A2 D.length c2) D) (hne : ∀ k, v1.ownBlock = some k → (Value.slice A2 D.length c2).ownBlock ≠ some k)
    (hl : D.length = M.length) (hbig : M.length < 2 ^ 40) (hw : width ≤ 300) (h : l0 k all width 0 0 M D = some R) :
    Calls Try.prog 65 #[.int .i64 (width : Int), v1, .slice A2 D.length c2, .bool all] w fun e w' => e = .returned (.int .i64 (R.1 : Int)) ∧ (Kd.slice 5 (Kd.int .u8)).C w' A2 R.2.2.length R.2.2 ∧ R.2.2.length = D.length ∧ Below w0.heap.size w0 w' := by
  by_cases hz : M.length = 0
  · obtain rfl := List.length_eq_zero_iff.1 hz
    obtain rfl : D = [] := List.length_eq_zero_iff.1 (by rw [hl]; rfl)
    rw [l0_nil] at h
    obtain rfl := Option.some.inj h
    obtain ⟨A, c, rfl, _, _⟩ := Kd.R_reads h1
    refine (reduce0 A A2 c c2 width all w hw).mono ?_
    rintro e w' ⟨rfl, hb2⟩
    exact ⟨rfl, ⟨rfl, by simp, fun h => absurd h (Nat.lt_irrefl 0)⟩, rfl, below_step hb hb2⟩
  · obtain ⟨g1, c1, rfl, k1, b1, m1⟩ := Mat.of_R h1 (by omega)
    obtain ⟨g2, c2', e2, k2, b2, m2⟩ := Mat.of_R h2 (by omega)
    injection e2 with e1 e2 e3
    subst e1
    subst e3
    have hg : g1 ≠ g2 := fun e => hne g1 rfl (by rw [e]; rfl)
    have hc := reduce.calls w0 k g1 g2 c1 c2 width all M D R w hb b1 b2 hg m1 m2 hl k1 (by omega) hbig hw h
    rw [← hl] at hc ⊢
    refine hc.mono ?_
    rintro e w' ⟨rfl, q1, q2, q3, q4, q5⟩
    refine ⟨rfl, ?_, by rw [q4], q5⟩
    have := q2.drop 0 (by rw [q4]; omega)
    rwa [List.drop_zero] at this
def cl (a0 : Int) : Nat := (max 0 (min a0 300)).toNat
def rank.f (k : Nat) (a0 : Int) (L : List (List Int)) : Option Int :=
  (solve_fit.f k (cl a0 : Int) L).bind fun M => if M.length = L.length ∧ L.length < 2 ^ 40 then (l0 k true (cl a0) 0 0 M (List.replicate L.length [])).bind fun R => some (R.1 : Int) else none
def T2 : Bool × List (List Nat × List Nat) := (true, [([], []), ([], []), ([], []), ([1, 2], [1, 2]), ([], []), ([4], [4]), ([5, 5], [5]), ([0, 3, 6, 3], [0, 3, 6]), ([7, 7, 0, 1, 2, 3, 4, 5, 6, 7], [7])])
def B2 : List Nat := [0, 0, 0, 6, 0, 16, 48, 127, 255]
theorem tab2 : rtab .any (opsOf Try.f29 2) = T2 := by kernel_rfl
theorem bits2 : waitsOk T2.2 B2 = true := by kernel_rfl
theorem zeroM {W : World} {base : Nat} : (Kd.slice 5 (Kd.int .u8)).M W base (fun _ => True) [] (Value.slice none 0 0).cells.toList := ⟨.slice none 0 0, rfl, Kd.R_nil _ _ _ _ _⟩
set_option maxHeartbeats 4000000 in
set_option maxRecDepth 100000 in
theorem rank.calls (k : Nat) (a0 : Int) (A1 : Option Addr) (c1 : Nat) (L : List (List Int)) (r : Int) (w : World) (hr1 : (Kd.slice 5 (Kd.int .u8)).C w A1 L.length L) (hc1 : L.length ≤ c1) (h : rank.f k a0 L = some r) :
    Calls Try.prog 29 #[.int .i64 a0, .slice A1 L.length c1] w fun e w' => e = .returned (.int .i64 r) ∧ Below w.heap.size w w' := by
  unfold rank.f at h
  obtain ⟨M, hfit, h⟩ := Option.bind_eq_some_iff.mp h
  by_cases hm : M.length = L.length ∧ L.length < 2 ^ 40
  · rw [if_pos hm] at h
    obtain ⟨R, hred, h⟩ := Option.bind_eq_some_iff.mp h
    obtain rfl : (R.1 : Int) = r := Option.some.inj h
    have FIT := zA hfit
    have RED := zA hred
    have HM := zA hm
    have HR := zA hr1
    have hLL : (L.length : Int) < 1099511627776 := by have := hm.2; omega
    obtain ⟨t1, ht1⟩ : ∃ t1, (if 300 < a0 then (300 : Int) else a0) = t1 := ⟨_, rfl⟩
    have ht2 : (if 0 < t1 then t1 else 0) = (cl a0 : Int) := by unfold cl; rw [← ht1]; split <;> split <;> omega
    have hcl : cl a0 ≤ 300 := by unfold cl; omega
    have CL := zA hcl
    clear h hfit hred hm hr1 hcl
    go_enter Try.func29, Try.ntmps29
    go_wp2
    refine start_ (n := 9) (S := fun w' => Below w.heap.size w w') (ds := []) (ms 9 0) (by kernel_rfl) rfl rfl (Below.refl _ _).drew (fun hHeld => ?_); refine with_tabW tab2 bits2 (fun HT_ HW_ => ?_)
    have CW := zA (Kd.C_drew HR.out)
    generalize w.drew = w1 at hHeld CW ⊢
    refine run_ [(0, false, some 8), (1, false, some 9), (2, false, some 10), (4, false, some 12), (5, false, some 13)] (n := 5) (ms 9 55) rfl HT_.out HW_.out (by kernel_rfl) (fun _ _ _ _ h => h) hHeld ?_
    repeat (refine Run.p (v := ?_) (a' := ?_) rfl rfl (Or.inl ⟨by rfl, ?_⟩) ?_ ?_; rotate_left; (focus intro w'; go_simp; with_reducible rfl); rotate_left; (focus simp only [Act.put, sx]; rfl))
    refine Run.nil ?_
    refine two_ (i := 3) (j := 6) (Ni := some 11) (Nj := some 14) (ms 9 63) (ms 9 119) rfl rfl rfl rfl (two_of HT_.out (by kernel_rfl)) (by decide) (by decide) (fun K hK => ?_) (fun K hK => ?_)
    · refine goes_ Try.func64 (by kernel_rfl) rfl #[.int .i64 (cl a0 : Int), .slice A1 L.length c1] (by rfl) rfl rfl (by (try simp only [List.map_toArray, List.map_cons, List.map_nil]); first | done | rfl) ?_
      with_reducible refine (solve_fit.calls k (cl a0 : Int) A1 c1 L M _ CW.out hc1 FIT.out).mono ?_
      rintro e w2 ⟨v2, rfl, ho_, hb_⟩
      refine ⟨_, rfl, ?_⟩
      have H1 := zA (Kd.R_lower (Kd.S_R ho_) hHeld.size)
      refine hK.out _ _ (below_step hHeld hb_) (fun hHeld => ?_)
      clear hK K ho_ hb_
      refine norm_ (a' := ?_) ?_ ?_
      rotate_left
      · show Act.put _ (some 11) _ = _
        simp only [Act.put, sx]
        rfl
      refine one_ (i := 6) (N := some 14) (ms 9 127) rfl rfl (one_of HT_.out (by kernel_rfl)) (by decide) (fun K hK => ?_)
      refine Kd.R_make_step (Kd.slice 5 (Kd.int .u8)) (w0 := w) w.heap.size 31 rfl (N := 14) rfl 28 _ _ rfl (L.length : Int) rfl rfl Try.underlying28 (.slice none 0 0) 24 info31 rfl (by decide) (by decide) ([] : List Int) (ok := fun _ => True) (okp := fun _ => True) zeroM (fun _ h => h) trivial (by omega) (by omega) hHeld hHeld.size ?_
      intro v3 w3 ho3 hb3 hg3 hnew3
      rw [Int.toNat_natCast] at ho3
      obtain ⟨A3, c3, e3⟩ := Kd.R_slice ho3
      subst e3
      have H2 := zA (Kd.R_grown H1.out hg3 (fun _ _ => by simp))
      have H3 := zA ho3
      have hne : ∀ q, v2.ownBlock = some q → (Value.slice A3 (List.replicate L.length ([] : List Int)).length c3).ownBlock ≠ some q := by
        intro q hq e
        obtain ⟨b, hb, hlt⟩ := hnew3
        have := Kd.R_lt H1.out q hq
        rw [e] at hb
        injection hb with hb
        omega
      have NE := zA hne
      refine hK.out _ _ hb3 (fun hHeld => ?_)
      clear hK K ho3 hb3 hg3 hnew3 H1 hne
      refine norm_ (a' := ?_) ?_ ?_
      rotate_left
      · show Act.put _ (some 14) _ = _
        simp only [Act.put, sx]
        rfl
      refine one_ (i := 7) (N := some 15) (ms 9 255) rfl rfl (one_of HT_.out (by kernel_rfl)) (by decide) (fun K hK => ?_)
      refine goes_ Try.func65 (by kernel_rfl) rfl #[.int .i64 (cl a0 : Int), v2, .slice A3 (List.replicate L.length ([] : List Int)).length c3, .bool true] (by rfl) rfl rfl (by (try simp only [List.map_toArray, List.map_cons, List.map_nil]); first | done | rfl) ?_
      with_reducible refine (reduceAny w k v2 A3 c3 (cl a0) true M (List.replicate L.length []) R _ hHeld H2.out H3.out NE.out (by rw [List.length_replicate]; exact HM.out.1.symm) (by rw [HM.out.1]; exact HM.out.2) CL.out RED.out).mono ?_
      rintro e w4 ⟨rfl, _, _, hb4⟩
      refine ⟨_, rfl, ?_⟩
      refine hK.out _ _ hb4 (fun hHeld => ?_)
      clear hK K hb4
      refine norm_ (a' := ?_) ?_ ?_
      rotate_left
      · show Act.put _ (some 15) _ = _
        simp only [Act.put, sx]
        rfl
      refine pure_ (i := 8) (N := some 4) (v := ?_) (a' := ?_) (ms 9 511) rfl rfl (any_of HT_.out (by kernel_rfl)) (fun _ _ _ h => h) (Or.inl ⟨by rfl, ?_⟩) ?_ ?_
      rotate_left
      · intro w'
        go_simp
        with_reducible rfl
      rotate_left
      · simp only [Act.put, sx]
        rfl
      refine done_ (done_of HT_.out (by kernel_rfl)) ?_
      try go_wp2
      go_ret
      exact ⟨rfl, hHeld⟩
    · refine Kd.R_make_step (Kd.slice 5 (Kd.int .u8)) (w0 := w) w.heap.size 31 rfl (N := 14) rfl 28 _ _ rfl (L.length : Int) rfl rfl Try.underlying28 (.slice none 0 0) 24 info31 rfl (by decide) (by decide) ([] : List Int) (ok := fun _ => True) (okp := fun _ => True) zeroM (fun _ h => h) trivial (by omega) (by omega) hHeld hHeld.size ?_
      intro v3 w2 ho3 hb3 hg3 hnew3
      rw [Int.toNat_natCast] at ho3
      obtain ⟨A3, c3, e3⟩ := Kd.R_slice ho3
      subst e3
      have H3' := zA ho3
      have CW2 := zA (Kd.C_below CW.out (below_grown0 hg3))
      refine hK.out _ _ hb3 (fun hHeld => ?_)
      clear hK K ho3 hb3 hg3 hnew3
      refine norm_ (a' := ?_) ?_ ?_
      rotate_left
      · show Act.put _ (some 14) _ = _
        simp only [Act.put, sx]
        rfl
      refine one_ (i := 3) (N := some 11) (ms 9 127) rfl rfl (one_of HT_.out (by kernel_rfl)) (by decide) (fun K hK => ?_)
      refine goes_ Try.func64 (by kernel_rfl) rfl #[.int .i64 (cl a0 : Int), .slice A1 L.length c1] (by rfl) rfl rfl (by (try simp only [List.map_toArray, List.map_cons, List.map_nil]); first | done | rfl) ?_
      with_reducible refine (solve_fit.calls k (cl a0 : Int) A1 c1 L M _ CW2.out hc1 FIT.out).mono ?_
      rintro e w3 ⟨v2, rfl, ho_, hb_⟩
      refine ⟨_, rfl, ?_⟩
      have H2 := zA (Kd.R_lower (Kd.S_R ho_) hHeld.size)
      have H3 := zA (Kd.R_below H3'.out hb_)
      have hne : ∀ q, v2.ownBlock = some q → (Value.slice A3 (List.replicate L.length ([] : List Int)).length c3).ownBlock ≠ some q := by
        intro q hq e
        have h1 := Kd.R_base (Kd.S_R ho_) q hq
        have h2 := Kd.R_lt H3'.out q e
        omega
      have NE := zA hne
      refine hK.out _ _ (below_step hHeld hb_) (fun hHeld => ?_)
      clear hK K ho_ hb_ H3' hne
      refine norm_ (a' := ?_) ?_ ?_
      rotate_left
      · show Act.put _ (some 11) _ = _
        simp only [Act.put, sx]
        rfl
      refine one_ (i := 7) (N := some 15) (ms 9 255) rfl rfl (one_of HT_.out (by kernel_rfl)) (by decide) (fun K hK => ?_)
      refine goes_ Try.func65 (by kernel_rfl) rfl #[.int .i64 (cl a0 : Int), v2, .slice A3 (List.replicate L.length ([] : List Int)).length c3, .bool true] (by rfl) rfl rfl (by (try simp only [List.map_toArray, List.map_cons, List.map_nil]); first | done | rfl) ?_
      with_reducible refine (reduceAny w k v2 A3 c3 (cl a0) true M (List.replicate L.length []) R _ hHeld H2.out H3.out NE.out (by rw [List.length_replicate]; exact HM.out.1.symm) (by rw [HM.out.1]; exact HM.out.2) CL.out RED.out).mono ?_
      rintro e w4 ⟨rfl, _, _, hb4⟩
      refine ⟨_, rfl, ?_⟩
      refine hK.out _ _ hb4 (fun hHeld => ?_)
      clear hK K hb4
      refine norm_ (a' := ?_) ?_ ?_
      rotate_left
      · show Act.put _ (some 15) _ = _
        simp only [Act.put, sx]
        rfl
      refine pure_ (i := 8) (N := some 4) (v := ?_) (a' := ?_) (ms 9 511) rfl rfl (any_of HT_.out (by kernel_rfl)) (fun _ _ _ h => h) (Or.inl ⟨by rfl, ?_⟩) ?_ ?_
      rotate_left
      · intro w'
        go_simp
        with_reducible rfl
      rotate_left
      · simp only [Act.put, sx]
        rfl
      refine done_ (done_of HT_.out (by kernel_rfl)) ?_
      try go_wp2
      go_ret
      exact ⟨rfl, hHeld⟩
  · rw [if_neg hm] at h
    cases h
end Go.Proofs.Ytbfhinfblepidaa.RkSolveTells
