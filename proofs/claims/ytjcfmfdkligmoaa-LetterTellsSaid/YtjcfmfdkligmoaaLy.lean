/- What LetterTorn needs of the numbers alone: what the document's bytes of a letter are, and that neither a beginning of them nor what has more behind is a letter. No program is in sight but for the printed functions. Conditions: those that stand in the theorems. -/
import Derived.Test.YtjcfmfdkligmoaaLx
namespace Go.Proofs.Ytjcfmfdkligmoaa.Ly
open Go.RowKit Go.Proofs.Ytjcfmfdkligmoaa.PRecordTells Go.Proofs.Ytjcfmfdkligmoaa.PLetterLimits Go.Proofs.Ytjcfmfdkligmoaa.PLetterTorn Go.Proofs.YtjcfmfdkligmoaaW.PrintWords Go.Proofs.YtjcfmfdkligmoaaW.PrintLast Go.Proofs.Ytjcfmfdkligmoaa.Lt Go.Proofs.Ytjcfmfdkligmoaa.Lr Go.Proofs.Ytjcfmfdkligmoaa.Lq Go.Proofs.Ytjcfmfdkligmoaa.Lg Go.Proofs.Ytjcfmfdkligmoaa.FRecordTells Go.Proofs.Ytjcfmfdkligmoaa.Lp Go.Proofs.Ytjcfmfdkligmoaa.Lv Go.Proofs.Ytjcfmfdkligmoaa.Lw Go.Proofs.Ytjcfmfdkligmoaa.Lj Go.Proofs.Ytjcfmfdkligmoaa.Lx
set_option linter.unusedVariables false
def BL : List Int := [1, 0, 0, 0, 0, 0, 0, 0, 3, 0, 0, 0, 0, 0, 0, 0, 0, 0, 0, 0, 0, 0, 0]
def vL (i : Nat) : Int := [1, 0, 3, 0, 0, 0, 0, 0].getD i 0
set_option maxRecDepth 100000 in
theorem live (k : Nat) (hk : 40 ≤ k) : Live k BL vL := by
  refine ⟨fun i hi => ?_, by kernel_rfl, at_rounds (g := fun k => letter_Bytes.f k 1 0 3 0 0 0 [] []) (fun k => letter_Bytes.mono _ _ _ _ _ _ _ _ k) hk (by kernel_rfl), fun i hi => ?_, rfl, rfl, by kernel_rfl, by kernel_rfl, rfl⟩
  · have h : ∀ i, i < 8 → vw 40 [] i = some 0 := by decide +kernel
    exact at_rounds (g := fun k => vw k [] i) (fun k => record_Whole.mono _ k) hk (h i hi)
  · have h : ∀ i, i < 8 → vw 40 BL i = some (vL i) := by decide +kernel
    exact at_rounds (g := fun k => vw k BL i) (fun k => record_Whole.mono _ k) hk (h i hi)
theorem right_steady (k : Nat) (p n b s m bl e : Int) (g : Bool) (u : Int) (D : List Int) : record_Right.f (k + 1) p n b s m bl e g u D = record_Right.f 40 p n b s m bl e g u D := rfl
theorem recF_eq (x : S28) : ∃ v, recF x = some v ∧ (v = true ↔ okW x) := by
  obtain ⟨v, ⟨K, hK⟩, h2⟩ := Right_ev x.f0.f0 x.f0.f1 x.f1.f0 x.f1.f1 x.f1.f2 x.f2 x.f3 x.f4 x.f5 x.f6
  refine ⟨v, ?_, h2⟩
  unfold recF
  rw [← right_steady K]
  exact hK (K + 1) (Nat.le_succ K)
theorem badR_iff (x : S28) : badR x = true ↔ ¬ okW x := by
  obtain ⟨v, h1, h2⟩ := recF_eq x
  unfold badR
  rw [h1, ← h2]
  cases v <;> simp
theorem wro_iff (e : Int) : wro e = true ↔ ¬ numb e := by
  unfold wro numb
  rw [Bool.or_eq_true, decide_eq_true_iff, decide_eq_true_iff]
  omega
theorem right_some (k a b c d e : Int) (P : List Int) (R : List S28) : ∃ q, right.f k a b c d e P R = some q ∧ (q = true ↔ okL k a b c d e P R) := by
  unfold right.f
  rw [if_pos (List.all_eq_true.2 fun x _ => by obtain ⟨v, h1, _⟩ := recF_eq x; rw [h1]; rfl)]
  refine ⟨_, rfl, ?_⟩
  rw [Bool.not_eq_true', ← Bool.not_eq_true]
  simp only [Bool.or_eq_true, decide_eq_true_iff, List.any_eq_true, wro_iff, badR_iff]
  constructor
  · intro h
    refine ⟨?_, ?_, ?_, ?_, ?_, ?_, ?_, ?_, ?_, ?_⟩
    · exact ⟨Decidable.byContradiction fun h1 => h (.inl (.inl (.inl (.inl (.inl (.inl (by omega))))))), Decidable.byContradiction fun h1 => h (.inl (.inl (.inl (.inl (.inl (.inr (by omega)))))))⟩
    · exact Classical.byContradiction fun h1 => h (.inl (.inl (.inl (.inl (.inr ⟨a, by simp, h1⟩)))))
    · exact Classical.byContradiction fun h1 => h (.inl (.inl (.inl (.inl (.inr ⟨b, by simp, h1⟩)))))
    · exact Classical.byContradiction fun h1 => h (.inl (.inl (.inl (.inl (.inr ⟨c, by simp, h1⟩)))))
    · exact Classical.byContradiction fun h1 => h (.inl (.inl (.inl (.inl (.inr ⟨d, by simp, h1⟩)))))
    · exact Classical.byContradiction fun h1 => h (.inl (.inl (.inl (.inl (.inr ⟨e, by simp, h1⟩)))))
    · exact Decidable.byContradiction fun h1 => h (.inl (.inl (.inr (by omega))))
    · exact fun p hp => Classical.byContradiction fun h1 => h (.inl (.inl (.inl (.inr ⟨p, hp, h1⟩))))
    · exact Decidable.byContradiction fun h1 => h (.inl (.inr (by omega)))
    · exact fun x hx => Classical.byContradiction fun h1 => h (.inr ⟨x, hx, h1⟩)
  · rintro ⟨hk, n1, n2, n3, n4, n5, lp, ps, lr, rs⟩ h
    rcases h with (((((h | h) | ⟨x, hx, h⟩) | ⟨x, hx, h⟩) | h) | h) | ⟨x, hx, h⟩
    · omega
    · omega
    · simp only [List.mem_cons, List.not_mem_nil, or_false] at hx
      rcases hx with rfl | rfl | rfl | rfl | rfl <;> exact h (by assumption)
    · exact h (ps x hx)
    · omega
    · omega
    · exact h (rs x hx)
theorem few_ev (R : List S28) (hR : R.length < 2 ^ 60) : ∃ v, Ev (fun k => zm_Few.f k R) v := by
  have key : ∀ (t : List S28) (i : Nat), R.drop i = t → ∃ v, Ev (fun k => zm_Few.l0 k R (i : Int)) v := by
    intro t
    induction t with
    | nil =>
      intro i h1
      have h3 : R.length ≤ i := List.drop_eq_nil_iff.1 h1
      exact ⟨_, Ev.step (fun n => by simp only [zm_Few.l0]; rfl) (ev_neg (by omega) (Ev.now _))⟩
    | cons x t ih =>
      intro i h1
      obtain ⟨g1, g2, g3⟩ := rdT_drop h1
      obtain ⟨v, hv⟩ := ih (i + 1) g3
      by_cases c : ((rd_T28 R (i : Int)).f6.length : Int) > 100
      · exact ⟨_, Ev.step (fun n => by simp only [zm_Few.l0]; rfl) (ev_pos (by omega) (ev_pos (by omega) (ev_pos c (Ev.now _))))⟩
      · refine ⟨v, Ev.step (fun n => by simp only [zm_Few.l0]; rfl) (ev_pos (by omega) (ev_pos (by omega) (ev_neg c ?_)))⟩
        rw [w64 (i := (i : Int) + 1) (by omega) (by omega), show (i : Int) + 1 = ((i + 1 : Nat) : Int) from by omega]
        exact hv
  exact key R 0 rfl
theorem encP_len (P : List Int) : (encP P).length = 4 * P.length := by
  induction P with
  | nil => rfl
  | cons p P ih => rw [encP_cons, List.length_append, ih, List.length_cons, N4_length]; omega
theorem encR_len (R : List S28) (h : ∀ x ∈ R, okW x) : (encR R).length ≤ 90 * R.length := by
  induction R with
  | nil => exact Nat.le_refl _
  | cons x R ih =>
    have h1 := encX_len (h x (by simp))
    have h2 := ih fun y hy => h y (by simp [hy])
    rw [encR_cons, List.length_append, List.length_append, N2_length, List.length_cons]; omega
theorem encL_len {k a b c d e : Int} {P : List Int} {R : List S28} (h : okL k a b c d e P R) : (encL k a b c d e P R).length < 25000 := by
  have h1 := h.lp
  have h2 := h.lr
  have h3 := encR_len R h.rs
  unfold encL
  simp only [List.length_append, N4_length, encP_len, List.length_singleton]
  omega
theorem byts_app {a b : List Int} (h1 : Byts a) (h2 : Byts b) : Byts (a ++ b) := fun x hx => by
  rcases List.mem_append.1 hx with h | h
  · exact h1 x h
  · exact h2 x h
theorem N4_byts (n : Int) : Byts (N4 n) := fun x hx => by
  unfold N4 at hx
  simp only [List.mem_cons, List.not_mem_nil, or_false] at hx
  rcases hx with rfl | rfl | rfl | rfl <;> exact B_range _ _
theorem N2_byts (n : Int) : Byts (N2 n) := fun x hx => by
  unfold N2 at hx
  simp only [List.mem_cons, List.not_mem_nil, or_false] at hx
  rcases hx with rfl | rfl <;> exact B_range _ _
theorem one_byts {x : Int} (h : 0 ≤ x ∧ x ≤ 255) : Byts [x] := fun y hy => by
  simp only [List.mem_cons, List.not_mem_nil, or_false] at hy
  rw [hy]; exact h
theorem encP_byts (P : List Int) : Byts (encP P) := by
  induction P with
  | nil => exact fun x hx => absurd hx (by unfold encP; simp)
  | cons p P ih => rw [encP_cons]; exact byts_app (N4_byts p) ih
theorem encR_byts (R : List S28) (h : ∀ x ∈ R, ∀ y ∈ x.f6, 0 ≤ y ∧ y ≤ 255) : Byts (encR R) := by
  induction R with
  | nil => exact fun x hx => absurd hx (by unfold encR; simp)
  | cons x R ih => rw [encR_cons]; exact byts_app (byts_app (N2_byts _) (enc_range _ _ _ _ _ _ _ _ _ _ (h x (by simp)))) (ih fun y hy => h y (by simp [hy]))
theorem encL_byts {k a b c d e : Int} {P : List Int} {R : List S28} (h : okL k a b c d e P R) (hd : ∀ x ∈ R, ∀ y ∈ x.f6, 0 ≤ y ∧ y ≤ 255) : Byts (encL k a b c d e P R) := by
  have h1 := h.lp
  have h2 := h.lr
  have h3 := h.kind
  unfold encL
  exact byts_app (one_byts (by omega)) (byts_app (N4_byts _) (byts_app (N4_byts _) (byts_app (N4_byts _) (byts_app (N4_byts _) (byts_app (N4_byts _) (byts_app (one_byts (by omega)) (byts_app (encP_byts P) (byts_app (one_byts (by omega)) (encR_byts R hd)))))))))
end Go.Proofs.Ytjcfmfdkligmoaa.Ly
namespace Go.Proofs.Ytjcfmfdkligmoaa.Pure
open Go.RowKit Go.Proofs.Ytjcfmfdkligmoaa.PRecordTells Go.Proofs.Ytjcfmfdkligmoaa.PLetterLimits Go.Proofs.Ytjcfmfdkligmoaa.PLetterTorn Go.Proofs.YtjcfmfdkligmoaaW.PrintWords Go.Proofs.YtjcfmfdkligmoaaW.PrintLast Go.Proofs.Ytjcfmfdkligmoaa.Lw Go.Proofs.Ytjcfmfdkligmoaa.Lv Go.Proofs.Ytjcfmfdkligmoaa.Lj Go.Proofs.Ytjcfmfdkligmoaa.Lx Go.Proofs.Ytjcfmfdkligmoaa.Ly
end Go.Proofs.Ytjcfmfdkligmoaa.Pure
