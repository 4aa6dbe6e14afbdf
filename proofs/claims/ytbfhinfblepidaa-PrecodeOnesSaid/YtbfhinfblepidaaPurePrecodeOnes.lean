/- Proved: PrecodeOnes answers true: the low rows have their own place each, the high rows too, and nothing of a high row's other numbers is 0. Conditions: the argument is of its kind. -/
import Derived.Test.YtbfhinfblepidaaFPrecodeOnes
namespace Go.Proofs.Ytbfhinfblepidaa.Pure
open Go.RowKit Go.Proofs.Ytbfhinfblepidaa.PPrecodeOnes Go.Proofs.YtbfhinfblepidaaW.PrintWords Go.Proofs.YtbfhinfblepidaaW.PrintLast Go.Proofs.Ytbfhinfblepidaa.Gf Go.Proofs.Ytbfhinfblepidaa.Pc Go.Proofs.Ytbfhinfblepidaa.FPrecodeOnes

theorem low_at {k i n : Nat} (hn : n < kS k) (hi : i < kS k) : rd (lowRow k i) ((k + n : Nat) : Int) = if n = i then 1 else 0 := by
  unfold rd lowRow
  rw [Int.toNat_natCast, List.getD_eq_getElem?_getD, List.getElem?_set_ne (by unfold kW; omega)]
  by_cases c : n = i
  · subst c
    rw [List.getElem?_set_self (by simp; omega), if_pos rfl]; rfl
  · rw [List.getElem?_set_ne (by omega), List.getElem?_append_right (by simp), if_neg c, List.length_map, List.length_range, Nat.add_sub_cancel_left, List.getElem?_replicate, if_pos (by omega)]; rfl
theorem high_at {k h n : Nat} (hn : n < 2) (hh : h < 2) : rd (highRow k h) ((kW k + n : Nat) : Int) = if n = h then 1 else 0 := by
  unfold rd highRow
  rw [Int.toNat_natCast, List.getD_eq_getElem?_getD]
  by_cases c : n = h
  · subst c
    rw [List.getElem?_set_self (by simp; omega), if_pos rfl]; rfl
  · rw [List.getElem?_set_ne (by omega), List.getElem?_append_right (by simp), if_neg c, List.length_map, List.length_range, Nat.add_sub_cancel_left, List.getElem?_replicate, if_pos (by omega)]; rfl
theorem high_lo {k h n : Nat} (hn : n < kW k) : rd (highRow k h) (n : Int) = highVal h n := by
  unfold rd highRow
  rw [Int.toNat_natCast, List.getD_eq_getElem?_getD, List.getElem?_set_ne (by omega), List.getElem?_append_left (by simp; omega), List.getElem?_map, List.getElem?_range hn]; rfl
theorem highVal_ne (h n : Nat) : highVal h n ≠ 0 := by
  unfold highVal
  generalize rnd (n : Int) ((h : Int) + 7) 255 = e
  have := pw_ne e
  omega
theorem low_row {k i : Nat} (hi : i < kS k) : rd_L1 (lowRows k) (i : Int) = lowRow k i := by
  unfold rd_L1 lowRows
  rw [Int.toNat_natCast, List.getD_eq_getElem?_getD, List.getElem?_map, List.getElem?_range hi]; rfl
theorem high_row {k i : Nat} (hi : i < 2) : rd_L1 (highRows k) (i : Int) = highRow k i := by
  unfold rd_L1 highRows
  rw [Int.toNat_natCast, List.getD_eq_getElem?_getD, List.getElem?_map, List.getElem?_range hi]; rfl
theorem one_place {x : Int} {i n : Nat} (h : x = if n = i then 1 else 0) : ¬ ((x == 1) != ((i : Int) == (n : Int))) = true ∧ ¬ x > 1 := by
  subst h
  by_cases c : n = i
  · subst c
    rw [if_pos rfl, show ((n : Int) == (n : Int)) = true from beq_self_eq_true _]
    exact ⟨by decide, by decide⟩
  · rw [if_neg c]
    have e : ((i : Int) == (n : Int)) = false := beq_eq_false_iff_ne.2 (fun h => c (by omega))
    rw [e]
    exact ⟨by decide, by decide⟩

theorem ones_l4 {k h : Nat} (h2 : k ≤ 40) (hh : h < 2) (R : Ev (fun q => fountainlaw7_PrecodeOnes.l2 q (highRows k) ((h + 1 : Nat) : Int) (k : Int) ((kS k : Nat) : Int) 2) true) (d : Nat) : ∀ n, n + d = kW k →
    Ev (fun q => fountainlaw7_PrecodeOnes.l4 q (highRows k) (h : Int) (n : Int) (k : Int) ((kS k : Nat) : Int) 2) true := by
  have hS := kS_le h2
  have hW : kW k = k + kS k := rfl
  induction d with
  | zero =>
    intro n hn
    refine Ev.step (fun q => by simp only [fountainlaw7_PrecodeOnes.l4]; rfl) ?_
    refine ev_val (w_ok h2) (ev_neg (by omega) ?_)
    rw [w64 (i := (h : Int) + 1) (by omega) (by omega), show (h : Int) + 1 = ((h + 1 : Nat) : Int) from by omega]
    exact R
  | succ d ih =>
    intro n hn
    have hl := highRow_length k h
    have hL : kL k = kW k + 2 := rfl
    refine Ev.step (fun q => by simp only [fountainlaw7_PrecodeOnes.l4]; rfl) ?_
    refine ev_val (w_ok h2) (ev_pos (by omega) (ev_pos (by omega) (ev_pos (by rw [highRows_length]; omega) (ev_pos (by omega) ?_))))
    rw [high_row hh]
    refine ev_pos (by rw [hl]; omega) ?_
    rw [high_lo (by omega)]
    refine ev_neg (highVal_ne h n) ?_
    rw [w64 (i := (n : Int) + 1) (by omega) (by omega), show (n : Int) + 1 = ((n + 1 : Nat) : Int) from by omega]
    exact ih (n + 1) (by omega)
theorem ones_l3 {k h : Nat} (h2 : k ≤ 40) (hh : h < 2) (R : Ev (fun q => fountainlaw7_PrecodeOnes.l4 q (highRows k) (h : Int) 0 (k : Int) ((kS k : Nat) : Int) 2) true) (d : Nat) : ∀ n, n + d = 2 →
    Ev (fun q => fountainlaw7_PrecodeOnes.l3 q (highRows k) (h : Int) (n : Int) (k : Int) ((kS k : Nat) : Int) 2) true := by
  have hS := kS_le h2
  have hW : kW k = k + kS k := rfl
  induction d with
  | zero =>
    intro n hn
    refine Ev.step (fun q => by simp only [fountainlaw7_PrecodeOnes.l3]; rfl) ?_
    exact ev_neg (by omega) R
  | succ d ih =>
    intro n hn
    have hl := highRow_length k h
    have hL : kL k = kW k + 2 := rfl
    obtain ⟨g1, g2⟩ := one_place (@high_at k h n (by omega) hh)
    have e : wrap64 (((kW k : Nat) : Int) + (n : Int)) = ((kW k + n : Nat) : Int) := by rw [w64 (by omega) (by omega)]; omega
    refine Ev.step (fun q => by simp only [fountainlaw7_PrecodeOnes.l3]; rfl) ?_
    refine ev_pos (by omega) (ev_pos (by omega) (ev_pos (by rw [highRows_length]; omega) (ev_val (w_ok h2) ?_)))
    rw [high_row hh, e]
    refine ev_pos (by omega) (ev_pos (by rw [hl]; omega) (ev_neg g1 (ev_val (w_ok h2) ?_)))
    rw [e]
    refine ev_pos (by omega) (ev_pos (by rw [hl]; omega) (ev_neg g2 ?_))
    rw [w64 (i := (n : Int) + 1) (by omega) (by omega), show (n : Int) + 1 = ((n + 1 : Nat) : Int) from by omega]
    exact ih (n + 1) (by omega)
theorem ones_l2 {k : Nat} (h2 : k ≤ 40) (d : Nat) : ∀ h, h + d = 2 →
    Ev (fun q => fountainlaw7_PrecodeOnes.l2 q (highRows k) (h : Int) (k : Int) ((kS k : Nat) : Int) 2) true := by
  induction d with
  | zero =>
    intro h hn
    refine Ev.step (fun q => by simp only [fountainlaw7_PrecodeOnes.l2]; rfl) ?_
    exact ev_neg (by omega) (Ev.now _)
  | succ d ih =>
    intro h hn
    have hh : h < 2 := by omega
    have hl := highRow_length k h
    refine Ev.step (fun q => by simp only [fountainlaw7_PrecodeOnes.l2]; rfl) ?_
    refine ev_pos (by omega) (ev_pos (by omega) (ev_pos (by rw [highRows_length]; omega) (ev_val (l_ok h2) ?_)))
    rw [high_row hh]
    refine ev_pos (by rw [hl]) ?_
    exact ones_l3 h2 hh (ones_l4 h2 hh (ih (h + 1) (by omega)) (kW k) 0 (by omega)) 2 0 (by omega)
theorem ones_l1 {k i : Nat} (h2 : k ≤ 40) (hi : i < kS k) (R : Ev (fun q => fountainlaw7_PrecodeOnes.l0 q (k : Int) (lowRows k) (highRows k) ((i + 1 : Nat) : Int) (k : Int) ((kS k : Nat) : Int) 2) true) (d : Nat) : ∀ n, n + d = kS k →
    Ev (fun q => fountainlaw7_PrecodeOnes.l1 q (k : Int) (lowRows k) (highRows k) (i : Int) (n : Int) (k : Int) ((kS k : Nat) : Int) 2) true := by
  have hS := kS_le h2
  have hW : kW k = k + kS k := rfl
  induction d with
  | zero =>
    intro n hn
    refine Ev.step (fun q => by simp only [fountainlaw7_PrecodeOnes.l1]; rfl) ?_
    refine ev_neg (by omega) ?_
    rw [w64 (i := (i : Int) + 1) (by omega) (by omega), show (i : Int) + 1 = ((i + 1 : Nat) : Int) from by omega]
    exact R
  | succ d ih =>
    intro n hn
    have hl := lowRow_length k i
    have hL : kL k = kW k + 2 := rfl
    obtain ⟨g1, g2⟩ := one_place (@low_at k i n (by omega) hi)
    have e : wrap64 ((k : Int) + (n : Int)) = ((k + n : Nat) : Int) := by rw [w64 (by omega) (by omega)]; omega
    refine Ev.step (fun q => by simp only [fountainlaw7_PrecodeOnes.l1]; rfl) ?_
    refine ev_pos (by omega) (ev_pos (by omega) (ev_pos (by rw [lowRows_length]; omega) ?_))
    rw [low_row hi, e]
    refine ev_pos (by omega) (ev_pos (by rw [hl]; omega) (ev_neg g1 (ev_neg g2 ?_)))
    rw [w64 (i := (n : Int) + 1) (by omega) (by omega), show (n : Int) + 1 = ((n + 1 : Nat) : Int) from by omega]
    exact ih (n + 1) (by omega)
theorem ones_l0 {k : Nat} (h2 : k ≤ 40) (d : Nat) : ∀ i, i + d = kS k →
    Ev (fun q => fountainlaw7_PrecodeOnes.l0 q (k : Int) (lowRows k) (highRows k) (i : Int) (k : Int) ((kS k : Nat) : Int) 2) true := by
  induction d with
  | zero =>
    intro i hn
    refine Ev.step (fun q => by simp only [fountainlaw7_PrecodeOnes.l0]; rfl) ?_
    exact ev_neg (by omega) (ones_l2 h2 2 0 (by omega))
  | succ d ih =>
    intro i hn
    have hi : i < kS k := by omega
    have hl := lowRow_length k i
    refine Ev.step (fun q => by simp only [fountainlaw7_PrecodeOnes.l0]; rfl) ?_
    refine ev_pos (by omega) (ev_pos (by omega) (ev_pos (by rw [lowRows_length]; omega) (ev_val (l_ok h2) ?_)))
    rw [low_row hi]
    refine ev_pos (by rw [hl]) ?_
    exact ones_l1 h2 hi (ih (i + 1) (by omega)) (kS k) 0 (by omega)
theorem told {k : Nat} (h1 : 1 ≤ k) (h2 : k ≤ 40) (b : Bool) (h : b = false) : Ev (fun q => fountainlaw7_PrecodeOnes.j0 q (k : Int) true b) true := by
  refine Ev.step (fun q => by simp only [fountainlaw7_PrecodeOnes.j0]; rfl) ?_
  refine ev_neg (by rw [h]; decide) (ev_val (of_ok h1 h2) (Ev.bind (low_ev h1 h2) (Ev.bind (high_ev h1 h2) ?_)))
  rw [lowRows_length, highRows_length]
  refine ev_pos rfl ?_
  refine Ev.step (fun q => by simp only [fountainlaw7_PrecodeOnes.j1]; rfl) ?_
  exact ev_neg (by decide) (ones_l0 h2 (kS k) 0 (by omega))
theorem away (a0 : Int) (b : Bool) (h : b = true) : Ev (fun q => fountainlaw7_PrecodeOnes.j0 q a0 true b) true := by
  refine Ev.step (fun q => by simp only [fountainlaw7_PrecodeOnes.j0]; rfl) ?_
  exact ev_pos h (Ev.now _)
theorem PrecodeOnes : fountainlaw7_PrecodeOnes.Pure := by
  intro a0 _
  refine Ev.rounds (?_ : Ev (fun q => fountainlaw7_PrecodeOnes.f q a0) true)
  unfold fountainlaw7_PrecodeOnes.f
  refine Ev.bind alive_ev (ev_pos rfl ?_)
  by_cases c1 : a0 < 1
  · exact ev_pos c1 (away _ _ rfl)
  refine ev_neg c1 ?_
  by_cases c2 : a0 > 40
  · exact away _ _ (decide_eq_true c2)
  · obtain ⟨k, rfl⟩ : ∃ k : Nat, a0 = (k : Int) := ⟨a0.toNat, by omega⟩
    exact told (by omega) (by omega) _ (decide_eq_false c2)
end Go.Proofs.Ytbfhinfblepidaa.Pure
