/- What LetterTells needs of the numbers alone. Conditions: those that stand in the theorem. -/
import Derived.Test.YtjcfmfdkligmoaaLs
namespace Go.Proofs.Ytjcfmfdkligmoaa.Pure
open Go.RowKit Go.Proofs.Ytjcfmfdkligmoaa.PRecordTells Go.Proofs.Ytjcfmfdkligmoaa.PLetterLimits Go.Proofs.Ytjcfmfdkligmoaa.PLetterTorn Go.Proofs.Ytjcfmfdkligmoaa.PLetterTells Go.Proofs.YtjcfmfdkligmoaaW.PrintWords Go.Proofs.YtjcfmfdkligmoaaW.PrintLast Go.Proofs.Ytjcfmfdkligmoaa.Lp Go.Proofs.Ytjcfmfdkligmoaa.Lv Go.Proofs.Ytjcfmfdkligmoaa.Lw Go.Proofs.Ytjcfmfdkligmoaa.Lj Go.Proofs.Ytjcfmfdkligmoaa.Ly Go.Proofs.Ytjcfmfdkligmoaa.Rm Go.Proofs.Ytjcfmfdkligmoaa.Lu Go.Proofs.Ytjcfmfdkligmoaa.Ls
theorem LetterTells (a0 a1 a2 a3 a4 a5 : Int) (P : List Int) (R : List S28) (bs : List Int) (hR : R.length < 2 ^ 60) (hd : ∀ x ∈ R, ∀ y ∈ x.f6, 0 ≤ y ∧ y ≤ 255) (hbs : Byts bs) :
    ∃ (k : Nat) (LB : List Int) (lv : Nat → Int) (X : List Int) (fw : Bool) (T T2 : Option L8) (l l2 : L8) (er er2 : Int), Live k LB lv ∧ letter_Bytes.f k a0 a1 a2 a3 a4 a5 P R = some X ∧ zq_LetterBytes.f k a0 a1 a2 a3 a4 a5 P R = some X ∧ zm_Few.f k R = some fw ∧
      (bs.length ≤ 3000 → okB (bs, false)) ∧ okB (X, false) ∧ pres bs = T ∧ un T = (l, er) ∧ (bs.length ≤ 3000 → zq_SameLetter.f k l.a0 l.a1 l.a2 l.a3 l.a4 l.a5 l.P l.R l.a0 l.a1 l.a2 l.a3 l.a4 l.a5 l.P l.R = some true) ∧
      pres X = T2 ∧ un T2 = (l2, er2) ∧ (X ≠ [] → er2 = 0 ∧ zq_SameLetter.f k l2.a0 l2.a1 l2.a2 l2.a3 l2.a4 l2.a5 l2.P l2.R a0 a1 a2 a3 a4 a5 P R = some true) := by
  obtain ⟨X, ⟨i, hi⟩, y1, y2⟩ := LB_ev a0 a1 a2 a3 a4 a5 P R
  obtain ⟨X', ⟨i', hi'⟩, y1', y2'⟩ := Bytes_law a0 a1 a2 a3 a4 a5 P R
  have e : X' = X := by
    by_cases h : okL a0 a1 a2 a3 a4 a5 P R
    · rw [y1 h, y1' h]
    · rw [y2 h, y2' h]
  subst e
  obtain ⟨fw, j, hj⟩ := few_ev R hR
  have ok : bs.length ≤ 3000 → okB (bs, false) := fun h => ⟨hbs, by show bs.length < _; omega⟩
  obtain ⟨l, er, hU⟩ : ∃ l er, un (pres bs) = (l, er) := ⟨_, _, rfl⟩
  obtain ⟨l2, er2, hU2⟩ : ∃ l er, un (pres X') = (l, er) := ⟨_, _, rfl⟩
  have sm : ∃ q, bs.length ≤ 3000 → ∀ n, q ≤ n → zq_SameLetter.f n l.a0 l.a1 l.a2 l.a3 l.a4 l.a5 l.P l.R l.a0 l.a1 l.a2 l.a3 l.a4 l.a5 l.P l.R = some true := by
    by_cases h : bs.length ≤ 3000
    · have hl : l.P.length < 2 ^ 40 ∧ l.R.length < 2 ^ 40 := by
        cases hp : pres bs with
        | none =>
          rw [hp] at hU
          injection hU with h1 _
          rw [← h1]; exact ⟨by decide, by decide⟩
        | some l' =>
          have h2 := read_law (ok h) hp
          rw [hp] at hU
          injection hU with h1 _
          rw [← h1]
          have := h2.lp
          have := h2.lr
          constructor <;> omega
      obtain ⟨q, hq⟩ := same_letter l.a0 l.a1 l.a2 l.a3 l.a4 l.a5 l.P l.R hl.1 hl.2
      exact ⟨q, fun _ => hq⟩
    · exact ⟨0, fun h1 => absurd h1 h⟩
  obtain ⟨q, hq⟩ := sm
  by_cases h : okL a0 a1 a2 a3 a4 a5 P R
  · have e := y1 h
    subst e
    have hl := encL_len h
    have hb : okB (encL a0 a1 a2 a3 a4 a5 P R, false) := ⟨encL_byts h hd, by show (encL a0 a1 a2 a3 a4 a5 P R).length < _; omega⟩
    have hp := pres_enc h hd
    rw [hp] at hU2
    injection hU2 with h1 h2
    subst h1 h2
    obtain ⟨q2, hq2⟩ := same_letter a0 a1 a2 a3 a4 a5 P R (by have := h.lp; omega) (by have := h.lr; omega)
    exact ⟨i + i' + j + q + q2 + 40, BL, vL, _, fw, _, _, l, _, er, _, live _ (by omega), hi' _ (by omega), hi _ (by omega), hj _ (by omega), ok, hb, rfl, hU, fun h3 => hq h3 _ (by omega), hp, rfl, fun _ => ⟨rfl, hq2 _ (by omega)⟩⟩
  · have e := y2 h
    subst e
    exact ⟨i + i' + j + q + 40, BL, vL, _, fw, _, _, l, l2, er, er2, live _ (by omega), hi' _ (by omega), hi _ (by omega), hj _ (by omega), ok, ⟨fun x hx => absurd hx (by simp), by decide⟩, rfl, hU, fun h3 => hq h3 _ (by omega), rfl, hU2, fun h3 => absurd rfl h3⟩
end Go.Proofs.Ytjcfmfdkligmoaa.Pure
