/- Proved: LetterLimits answers true: how great a letter's numbers may be, and how much it may carry. Conditions: the arguments are of their kinds. -/
import Derived.Test.YtjcfmfdkligmoaaLl
namespace Go.Proofs.Ytjcfmfdkligmoaa.Pure
open Go.RowKit Go.Proofs.Ytjcfmfdkligmoaa.PRecordLimits Go.Proofs.Ytjcfmfdkligmoaa.PLetterLimits Go.Proofs.YtjcfmfdkligmoaaW.PrintWords Go.Proofs.YtjcfmfdkligmoaaW.PrintLast Go.Proofs.Ytjcfmfdkligmoaa.Lt Go.Proofs.Ytjcfmfdkligmoaa.Lr Go.Proofs.Ytjcfmfdkligmoaa.Lq Go.Proofs.Ytjcfmfdkligmoaa.Ll
set_option linter.unusedVariables false
def BL : List Int := [1, 0, 0, 0, 0, 0, 0, 0, 3, 0, 0, 0, 0, 0, 0, 0, 0, 0, 0, 0, 0, 0, 0]
def vL (i : Nat) : Int := [1, 0, 3, 0, 0, 0, 0, 0].getD i 0
set_option maxRecDepth 100000 in
theorem live (k : Nat) (hk : 40 ≤ k) : Live k BL vL := by
  refine ⟨fun i hi => ?_, by kernel_rfl, at_rounds (g := fun k => letter_Bytes.f k 1 0 3 0 0 0 [] []) (fun k => letter_Bytes.mono _ _ _ _ _ _ _ _ k) hk (by kernel_rfl), fun i hi => ?_, rfl, rfl, by kernel_rfl, by kernel_rfl, rfl⟩
  · have h : ∀ i, i < 8 → vw 40 [] i = some 0 := by decide +kernel
    exact at_rounds (g := fun k => vw k [] i) (fun k => record_Whole.mono _ k) hk (h i hi)
  · have h : ∀ i, i < 8 → vw 40 BL i = some (vL i) := by decide +kernel
    exact at_rounds (g := fun k => vw k BL i) (fun k => record_Whole.mono _ k) hk (h i hi)
theorem bytes_mono (i : Nat) (o : Bool) (k : Nat) : LeO (Ll.bytesOf k i o) (Ll.bytesOf (k + 1) i o) := by
  unfold Ll.bytesOf
  split <;> first | exact letter_Bytes.mono _ _ _ _ _ _ _ _ k | exact LeO.refl _
def good (i : Nat) (o : Bool) : Bool := match Ll.bytesOf 400 i o with
  | some X => decide (0 < X.length) == !o
  | none => false
theorem good0 : good 0 false = true ∧ good 0 true = true ∧ good 1 false = true ∧ good 1 true = true ∧ good 2 false = true ∧ good 2 true = true ∧ good 3 false = true ∧ good 3 true = true ∧ good 5 false = true ∧ good 5 true = true := ⟨by kernel_rfl, by kernel_rfl, by kernel_rfl, by kernel_rfl, by kernel_rfl, by kernel_rfl, by kernel_rfl, by kernel_rfl, by kernel_rfl, by kernel_rfl⟩
theorem good4 : good 4 false = true ∧ good 4 true = true := ⟨by kernel_rfl, by kernel_rfl⟩
theorem good6 : good 6 true = true := by kernel_rfl
theorem ev_pos {α : Type} {c : Prop} [Decidable c] {f g : Nat → Option α} {r : α} (h : c) (e : Ev f r) : Ev (fun k => if c then f k else g k) r := by
  simp only [if_pos h]; exact e
theorem ev_neg {α : Type} {c : Prop} [Decidable c] {f g : Nat → Option α} {r : α} (h : ¬ c) (e : Ev g r) : Ev (fun k => if c then f k else g k) r := by
  simp only [if_neg h]; exact e
theorem ev_val {α β : Type} {o : Option α} {a : α} {F : Nat → α → Option β} {r : β} (h : o = some a) (e : Ev (fun k => F k a) r) : Ev (fun k => o.bind (F k)) r := by
  subst h; exact e
def R13 : List Int := [1, 0, 0, 0, 0, 0, 0, 0, 1, 0, 0, 0, 0]
theorem recB : Ev (fun k => record_Bytes.f k 0 1 0 0 0 0 0 true 0 []) R13 := Ev.of (fun k => record_Bytes.mono _ _ _ _ _ _ _ _ _ _ k) (k := 40) (by kernel_rfl)
theorem num13 : Ev (fun k => record_Number.f k 13 2) [0, 13] := Ev.of (fun k => record_Number.mono _ _ k) (k := 40) (by kernel_rfl)
theorem num0 : Ev (fun k => record_Number.f k 0 4) [0, 0, 0, 0] := Ev.of (fun k => record_Number.mono _ _ k) (k := 40) (by kernel_rfl)
theorem w1 (i : Nat) (h : i < 1000) : wrap64 ((i : Int) + 1) = ((i + 1 : Nat) : Int) := by unfold wrap64; omega
theorem l2_ev (n : Nat) (hn : n ≤ 300) (d : Nat) : ∀ (i : Nat) (acc : List Int), i + d = n → acc.length ≤ 2000 + 15 * i → ∃ X, acc.length ≤ X.length ∧ Ev (fun k => letter_Bytes.l2 k acc (List.replicate n rec1) (n : Int) (i : Int)) X := by
  induction d with
  | zero =>
    intro i acc hi _
    exact ⟨acc, Nat.le_refl _, Ev.step (fun k => by simp only [letter_Bytes.l2]; rfl) (ev_neg (by omega) (Ev.now _))⟩
  | succ d ih =>
    intro i acc hi ha
    obtain ⟨X, hX, hE⟩ := ih (i + 1) ((acc ++ [0, 13]) ++ R13) (by omega) (by rw [List.length_append, List.length_append]; show acc.length + 2 + 13 ≤ _; omega)
    refine ⟨X, ?_, Ev.step (fun k => by simp only [letter_Bytes.l2]; rfl) ?_⟩
    · rw [List.length_append, List.length_append] at hX; omega
    have hr : rd_T28 (List.replicate n rec1) (i : Int) = rec1 := by
      unfold rd_T28; rw [Int.toNat_natCast, List.getD_eq_getElem?_getD, List.getElem?_replicate, if_pos (by omega)]; rfl
    refine ev_pos (by omega) (ev_pos (by omega) (ev_pos (by rw [List.length_replicate]; omega) ?_))
    rw [hr]
    refine Ev.bind recB (Ev.bind num13 (ev_pos (by show acc.length + 2 < _; omega) ?_))
    refine ev_val (o := some (acc ++ [0, 13])) rfl (ev_pos (by rw [List.length_append]; show acc.length + 2 + 13 < _; omega) ?_)
    rw [w1 i (by omega)]
    exact hE
theorem l1_ev (n : Nat) (hn : n ≤ 300) (acc : List Int) (ha : acc.length ≤ 1000) : ∃ X, acc.length ≤ X.length ∧ Ev (fun k => letter_Bytes.l1 k acc [] (([] : List Int).length : Int) 0 2 0 0 0 0 0 [] (List.replicate n rec1)) X := by
  obtain ⟨X, hX, hE⟩ := l2_ev n hn n 0 (acc ++ [((List.replicate n rec1).length : Int) % 256]) (by omega) (by rw [List.length_append]; show acc.length + 1 ≤ _; omega)
  refine ⟨X, by rw [List.length_append] at hX; omega, Ev.step (fun k => by simp only [letter_Bytes.l1]; rfl) (ev_neg (by decide) (ev_pos (by omega) ?_))⟩
  rw [List.length_replicate] at hE ⊢
  exact hE
theorem l0_ev (n : Nat) (hn : n ≤ 300) (d : Nat) : ∀ (i : Nat) (acc : List Int), i + d = 5 → acc.length ≤ 100 + 4 * i → ∃ X, acc.length ≤ X.length ∧ Ev (fun k => letter_Bytes.l0 k acc [0, 0, 0, 0, 0] 5 (i : Int) 2 0 0 0 0 0 [] (List.replicate n rec1)) X := by
  induction d with
  | zero =>
    intro i acc hi ha
    obtain ⟨X, hX, hE⟩ := l1_ev n hn (acc ++ [(([] : List Int).length : Int) % 256]) (by rw [List.length_append]; show acc.length + 1 ≤ _; omega)
    exact ⟨X, by rw [List.length_append] at hX; omega, Ev.step (fun k => by simp only [letter_Bytes.l0]; rfl) (ev_neg (by omega) (ev_pos (by omega) hE))⟩
  | succ d ih =>
    intro i acc hi ha
    obtain ⟨X, hX, hE⟩ := ih (i + 1) (acc ++ [0, 0, 0, 0]) (by omega) (by rw [List.length_append]; show acc.length + 4 ≤ _; omega)
    refine ⟨X, by rw [List.length_append] at hX; omega, Ev.step (fun k => by simp only [letter_Bytes.l0]; rfl) ?_⟩
    have hr : rd [0, 0, 0, 0, 0] (i : Int) = 0 := by
      rcases (by omega : i = 0 ∨ i = 1 ∨ i = 2 ∨ i = 3 ∨ i = 4) with rfl | rfl | rfl | rfl | rfl <;> rfl
    refine ev_pos (by omega) (ev_pos (by omega) (ev_pos (by show (i : Int) < 5; omega) ?_))
    rw [hr]
    refine Ev.bind num0 (ev_pos (by show acc.length + 4 < _; omega) ?_)
    rw [w1 i (by omega)]
    exact hE
theorem right6 : right.f 2 0 0 0 0 0 [] (List.replicate 255 rec1) = some true := by kernel_rfl
theorem bytes6 : ∃ X, 0 < X.length ∧ Ev (fun k => Ll.bytesOf k 6 false) X := by
  obtain ⟨X, hX, hE⟩ := l0_ev 255 (by omega) 5 0 [2] rfl (by decide)
  refine ⟨X, Nat.lt_of_lt_of_le Nat.zero_lt_one hX, ?_⟩
  show Ev (fun k => letter_Bytes.f k 2 0 0 0 0 0 [] (List.replicate 255 rec1)) X
  unfold letter_Bytes.f
  exact ev_val right6 (ev_pos rfl (ev_val (o := letter_numbers.f 2 0 0 0 0 0 [] (List.replicate 255 rec1)) rfl hE))
theorem goods (i : Nat) (hi : i < 7) (o : Bool) (hne : ¬ (i = 6 ∧ o = false)) : good i o = true := by
  obtain ⟨a0, a1, b0, b1, c0, c1, d0, d1, f0, f1⟩ := good0
  rcases (by omega : i = 0 ∨ i = 1 ∨ i = 2 ∨ i = 3 ∨ i = 4 ∨ i = 5 ∨ i = 6) with rfl | rfl | rfl | rfl | rfl | rfl | rfl <;> cases o
  · exact a0
  · exact a1
  · exact b0
  · exact b1
  · exact c0
  · exact c1
  · exact d0
  · exact d1
  · exact good4.1
  · exact good4.2
  · exact f0
  · exact f1
  · exact absurd ⟨rfl, rfl⟩ hne
  · exact good6
theorem told (i : Nat) (hi : i < 7) (o : Bool) : ∃ X, decide (0 < X.length) = !o ∧ Ev (fun k => Ll.bytesOf k i o) X := by
  by_cases hne : i = 6 ∧ o = false
  · obtain ⟨rfl, rfl⟩ := hne
    obtain ⟨X, h1, h2⟩ := bytes6
    exact ⟨X, decide_eq_true h1, h2⟩
  have h := goods i hi o hne
  unfold good at h
  split at h
  · rename_i X hX
    exact ⟨X, by simpa using h, Ev.of (fun k => bytes_mono _ _ k) hX⟩
  · cases h
theorem LetterLimits (a0 : Int) (_ : -2 ^ 63 ≤ a0 ∧ a0 < 2 ^ 63) (a1 : Bool) : Ev (fun k => fountainlaw22_LetterLimits.f k a0 a1) true := by
  have fin : ∀ k0, (∀ k, k0 ≤ k → a0 < 0 ∨ 6 < a0 ∨ ∃ i : Nat, i < 7 ∧ a0 = (i : Int) ∧ ∃ X, Ll.bytesOf k i a1 = some X ∧ decide (0 < X.length) = !a1) → Ev (fun k => fountainlaw22_LetterLimits.f k a0 a1) true := fun k0 h => ⟨k0 + 40, fun k hk => by
    show fountainlaw22_LetterLimits.f k a0 a1 = some true
    unfold fountainlaw22_LetterLimits.f
    exact if_pos ⟨⟨BL, vL, live k (by omega)⟩, h k (by omega)⟩⟩
  by_cases c1 : a0 < 0
  · exact fin 0 fun k _ => .inl c1
  by_cases c2 : 6 < a0
  · exact fin 0 fun k _ => .inr (.inl c2)
  obtain ⟨X, hX, k0, hk0⟩ := told a0.toNat (by omega) a1
  exact fin k0 fun k hk => .inr (.inr ⟨a0.toNat, by omega, by omega, X, hk0 k hk, hX⟩)
end Go.Proofs.Ytjcfmfdkligmoaa.Pure
