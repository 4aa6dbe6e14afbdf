/- Proved: SplitEven answers true: blocks are as even as may be, the greater ones first, and have all symbols together. Conditions: the argument's numbers are of their kinds. -/
import Derived.Test.YtinplhdjgjijiaaFSplitEven
namespace Go.Proofs.Ytinplhdjgjijiaa.Pure
open Go.RowKit Go.Proofs.Ytinplhdjgjijiaa.PSplitEven Go.Proofs.YtinplhdjgjijiaaW.PrintWords Go.Proofs.YtinplhdjgjijiaaW.PrintLast Go.Proofs.Ytinplhdjgjijiaa.Rw Go.Proofs.Ytinplhdjgjijiaa.Sp Go.Proofs.Ytinplhdjgjijiaa.FSplitEven

theorem K_neg {b s m : Nat} (h : okS (b : Int) (s : Int) (m : Int)) : Ev (fun k => split_K.f k (b : Int) (s : Int) (m : Int) (-1)) 0 := by
  unfold split_K.f
  refine ev_val (blocks_yes h) (ev_pos (by decide) ?_)
  refine Ev.step (fun k => by simp only [split_K.j0]; rfl) ?_
  exact ev_pos trivial (Ev.now _)
theorem sym_blk {b s m : Nat} (hm : 1 ≤ m) : symN b s ≤ blkN b s m * m := by
  have h1 : blkN b s m * m = (symN b s - 1) / m * m + m := by unfold blkN upN; rw [Nat.succ_mul]
  have h2 := Nat.div_add_mod (symN b s - 1) m
  have h3 := Nat.mod_lt (symN b s - 1) (show 0 < m by omega)
  rw [Nat.mul_comm] at h2
  omega
theorem q_facts (b s m : Nat) : ∃ q r, symN b s / blkN b s m = q ∧ symN b s % blkN b s m = r ∧ blkN b s m * q + r = symN b s ∧ r < blkN b s m ∧ 1 ≤ q := by
  have hp := blk_pos b s m
  have hl := @blk_le b s m
  refine ⟨_, _, rfl, rfl, Nat.div_add_mod _ _, Nat.mod_lt _ (by omega), ?_⟩
  exact Nat.div_pos hl (by omega)
theorem kN_pos {b s m i : Nat} (h : i < blkN b s m) : 1 ≤ kN b s m i := by
  obtain ⟨q, r, e1, e2, e3, e4, e5⟩ := q_facts b s m
  unfold kN; rw [if_pos h, e1]; omega
theorem kN_le {b s m i : Nat} (hm : 1 ≤ m) : kN b s m i ≤ m := by
  obtain ⟨q, r, e1, e2, e3, e4, e5⟩ := q_facts b s m
  have h := @sym_blk b s m hm
  unfold kN
  split
  · rw [e1, e2]
    have hq : q ≤ m := by
      apply Classical.byContradiction
      intro c
      have : blkN b s m * (m + 1) ≤ blkN b s m * q := Nat.mul_le_mul_left _ (by omega)
      rw [Nat.mul_succ] at this
      omega
    split
    · rename_i hr
      have : q ≠ m := by
        rintro rfl
        omega
      omega
    · omega
  · omega
theorem kN_at {b s m i : Nat} (h : i < blkN b s m) : kN b s m i = symN b s / blkN b s m + (if i < symN b s % blkN b s m then 1 else 0) := by unfold kN; rw [if_pos h]
theorem kN_down {b s m i : Nat} (h : i + 1 < blkN b s m) : kN b s m (i + 1) ≤ kN b s m i := by
  rw [kN_at h, kN_at (show i < blkN b s m by omega)]
  generalize symN b s / blkN b s m = q
  generalize symN b s % blkN b s m = r
  by_cases c : i + 1 < r
  · rw [if_pos c, if_pos (by omega)]; omega
  · rw [if_neg c]; omega
theorem kN_near {b s m i j : Nat} (h : j < blkN b s m) : kN b s m i ≤ kN b s m j + 1 := by
  by_cases hi : i < blkN b s m
  · rw [kN_at h, kN_at hi]
    generalize symN b s / blkN b s m = q
    generalize symN b s % blkN b s m = r
    by_cases c : i < r
    · rw [if_pos c]; omega
    · rw [if_neg c]; omega
  · have : kN b s m i = 0 := by unfold kN; rw [if_neg hi]
    omega
theorem even_l0 {b s m : Nat} (h : okS (b : Int) (s : Int) (m : Int)) (d : Nat) : ∀ i, i + d = blkN b s m →
    Ev (fun k => fountainlaw12_SplitEven.l0 k ((blkN b s m : Nat) : Int) ((sumK b s m i : Nat) : Int) ((kN b s m 0 : Nat) : Int) ((kN b s m (blkN b s m - 1) : Nat) : Int) (i : Int) (b : Int) (s : Int) (m : Int)) true := by
  obtain ⟨h1, h2, h3⟩ := ok_nat h
  have hs := sym_pos b s
  have hl := sym_le (s := s) h1.1
  have hbp := blk_pos b s m
  have hbl := @blk_le b s m
  have hk0 := @kN_le b s m 0 h3.1
  have hk1 := @kN_le b s m (blkN b s m - 1) h3.1
  induction d with
  | zero =>
    intro i hi
    obtain rfl : i = blkN b s m := by omega
    have hnear := @kN_near b s m 0 (blkN b s m - 1) (by omega)
    have hkz : kN b s m (blkN b s m) = 0 := by unfold kN; rw [if_neg (by omega)]
    have hK := K_yes h (blkN b s m)
    rw [hkz] at hK
    refine Ev.step (fun k => by simp only [fountainlaw12_SplitEven.l0]; rfl) ?_
    refine ev_neg (by omega) (ev_val (symbols_yes h) ?_)
    rw [sumK_all]
    refine ev_pos rfl ?_
    rw [w64 (i := ((kN b s m 0 : Nat) : Int) - ((kN b s m (blkN b s m - 1) : Nat) : Int)) (by omega) (by omega)]
    refine ev_pos (by omega) (Ev.bind hK (ev_pos rfl (Ev.bind (K_neg h) (ev_pos rfl ?_))))
    have e1 : symN b s * s = (b - 1) / s * s + s := by unfold symN upN; rw [Nat.succ_mul]
    have e2 := Nat.div_add_mod (b - 1) s
    have e3 := Nat.mod_lt (b - 1) (show 0 < s by omega)
    rw [Nat.mul_comm] at e2
    have e4 : (symN b s - 1) * s = (b - 1) / s * s := by unfold symN upN; rw [Nat.add_sub_cancel]
    rw [w64 (i := ((symN b s : Nat) : Int) - 1) (by omega) (by omega), show ((symN b s : Nat) : Int) - 1 = ((symN b s - 1 : Nat) : Int) from by omega]
    have c1 : (((symN b s - 1 : Nat) : Int) * (s : Int)) = (((symN b s - 1) * s : Nat) : Int) := by rw [Int.natCast_mul]
    have c2 : (((symN b s : Nat) : Int) * (s : Int)) = ((symN b s * s : Nat) : Int) := by rw [Int.natCast_mul]
    rw [c1, c2]
    obtain ⟨x, hx⟩ : ∃ x, (symN b s - 1) * s = x := ⟨_, rfl⟩
    obtain ⟨y, hy⟩ : ∃ y, symN b s * s = y := ⟨_, rfl⟩
    obtain ⟨z, hz⟩ : ∃ z, (b - 1) / s * s = z := ⟨_, rfl⟩
    rw [hx] at e4 ⊢
    rw [hy] at e1 ⊢
    rw [hz] at e1 e2 e4
    rw [w64 (i := (x : Int)) (by omega) (by omega), w64 (i := (y : Int)) (by omega) (by omega)]
    refine ev_pos (by omega) ?_
    rw [decide_eq_true (show (y : Int) ≥ (b : Int) by omega)]
    exact Ev.now _
  | succ d ih =>
    intro i hi
    have hp := @kN_pos b s m i (by omega)
    have hle := @kN_le b s m i h3.1
    have hsum := sumK_le b s m (i + 1) (by omega)
    simp only [sumK] at hsum
    have hih := ih (i + 1) (by omega)
    simp only [sumK] at hih
    refine Ev.step (fun k => by simp only [fountainlaw12_SplitEven.l0]; rfl) ?_
    refine ev_pos (by omega) (Ev.bind (K_yes h i) (ev_neg (by omega) (ev_neg (by omega) ?_)))
    have e1 : wrap64 (((sumK b s m i : Nat) : Int) + ((kN b s m i : Nat) : Int)) = ((sumK b s m i + kN b s m i : Nat) : Int) := by rw [w64 (by omega) (by omega)]; omega
    have e2 : wrap64 ((i : Int) + 1) = ((i + 1 : Nat) : Int) := by rw [w64 (by omega) (by omega)]; omega
    rw [e1, e2]
    clear e1 e2
    by_cases c : 0 < i
    · have hd := @kN_down b s m (i - 1) (by omega)
      rw [show i - 1 + 1 = i from by omega] at hd
      have hKi := K_yes h (i - 1)
      rw [w64 (i := (i : Int) - 1) (by omega) (by omega), show (i : Int) - 1 = ((i - 1 : Nat) : Int) from by omega]
      exact ev_pos (by omega) (Ev.bind hKi (ev_neg (by omega) hih))
    · exact ev_neg (by omega) hih
theorem SplitEven (a b c : Int) : Ev (fun k => fountainlaw12_SplitEven.f k a b c) true := by
  unfold fountainlaw12_SplitEven.f
  refine Ev.bind alive_ev (ev_pos rfl ?_)
  by_cases h : okS a b c
  · have h' := h
    unfold okS at h'
    obtain ⟨n, rfl⟩ : ∃ n : Nat, a = (n : Int) := ⟨a.toNat, by omega⟩
    obtain ⟨s, rfl⟩ : ∃ n : Nat, b = (n : Int) := ⟨b.toNat, by omega⟩
    obtain ⟨m, rfl⟩ : ∃ n : Nat, c = (n : Int) := ⟨c.toNat, by omega⟩
    have hl := sym_le (b := n) (s := s) (by omega)
    have hbp := blk_pos n s m
    have hbl := @blk_le n s m
    refine ev_val (rshape_yes h) ?_
    refine Ev.step (fun k => by simp only [fountainlaw12_SplitEven.j0]; rfl) ?_
    refine ev_neg (by decide) (ev_val (blocks_yes h) (ev_neg (by omega) ?_))
    refine Ev.step (fun k => by simp only [fountainlaw12_SplitEven.j1]; rfl) ?_
    refine ev_neg (by rw [decide_eq_true_eq]; omega) ?_
    refine Ev.bind (K_yes h 0) ?_
    rw [w64 (i := ((blkN n s m : Nat) : Int) - 1) (by omega) (by omega), show ((blkN n s m : Nat) : Int) - 1 = ((blkN n s m - 1 : Nat) : Int) from by omega]
    refine Ev.bind (K_yes h (blkN n s m - 1)) ?_
    exact even_l0 h (blkN n s m) 0 (by omega)
  · refine ev_val (rshape_no h) ?_
    refine Ev.step (fun k => by simp only [fountainlaw12_SplitEven.j0]; rfl) ?_
    exact ev_pos rfl (Ev.now _)
end Go.Proofs.Ytinplhdjgjijiaa.Pure
