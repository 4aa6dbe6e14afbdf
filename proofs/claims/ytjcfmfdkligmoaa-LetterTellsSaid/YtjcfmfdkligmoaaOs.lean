/- A letter that came in as an argument, opened: its numbers, the row of its peers, and the row of its records. Conditions: those that stand in the theorems. -/
import Derived.Test.YtjcfmfdkligmoaaOr
import Derived.Test.YtjcfmfdkligmoaaPLetterLimitsx0
namespace Go.Proofs.Ytjcfmfdkligmoaa.Os
open Go.RowKit Go.Proofs.YtjcfmfdkligmoaaW.PrintWords Go.Proofs.YtjcfmfdkligmoaaW.PrintLast Go.Proofs.YtjcfmfdkligmoaaW.PrintMore Go.Proofs.Ytjcfmfdkligmoaa.Op Go.Proofs.Ytjcfmfdkligmoaa.Or Go.Proofs.Ytjcfmfdkligmoaa.PLetterLimits
open Go.ChangeShapes Go.WideShapes Go.Deep
theorem cellsP : Try.prog.cellsOf 42 = 1 := by kernel_rfl
theorem cellsR : Try.prog.cellsOf 43 = 1 := by kernel_rfl
theorem cells8 : Try.prog.cellsOf 45 = 8 := by kernel_rfl
theorem opens_rec : Opens Try.prog k28 28 (fun x => ∀ y ∈ x.f6, (Lit.int .u8 y).wf = true) := by
  intro H enc w base spare held fuel cs x h hw
  obtain ⟨p, n, b, s, m, bl, e, g, u, A, D, c, rfl, hC, hc, _, hg⟩ := Or.open_rec h hw
  exact ⟨⟨⟨p, n⟩, ⟨b, s, m⟩, bl, e, g, u, D⟩, k28_mk w ⟨⟨p, n⟩, ⟨b, s, m⟩, bl, e, g, u, D⟩ hc hC, hg⟩
theorem open_letter {H : Type} {enc : TypeId × Value → H} {w : World} {base : Nat} {spare : Nat → Bool} {held : Bool} {fuel : Nat} {cs : List Value} {x : DataW H × List MemPlace}
    (h : DataW.trod enc Try.prog w base spare held fuel 45 cs = some x) (hw : ∀ n ∈ x.1.weights Try.prog 45, n ≤ reachBytes) :
    ∃ (a0 a1 a2 a3 a4 a5 : Int) (A6 : Option Addr) (P : List Int) (c6 : Nat) (A7 : Option Addr) (R : List S28) (c7 : Nat),
      cs = [.int .i64 a0, .int .i64 a1, .int .i64 a2, .int .i64 a3, .int .i64 a4, .int .i64 a5, .slice A6 P.length c6, .slice A7 R.length c7] ∧
      (Kd.int .i64).C w A6 P.length P ∧ P.length ≤ c6 ∧ k28.C w A7 R.length R ∧ R.length ≤ c7 ∧ P.length * Try.prog.bytesOf 3 ≤ reachBytes ∧ R.length * Try.prog.bytesOf 28 ≤ reachBytes ∧ (∀ p ∈ P, (Lit.int .i64 p).wf = true) ∧ ∀ x ∈ R, ∀ y ∈ x.f6, (Lit.int .u8 y).wf = true := by
  obtain ⟨xs, n, _, rfl, hl, hlen, hf⟩ := DataW.trod_struct Try.underlying45 h
  rw [cells8] at hl
  match cs, hl with
  | [c0, c1, c2, c3, c4, c5, c6, c7], _ =>
    match xs, hlen with
    | [y0, y1, y2, y3, y4, y5, y6], _ =>
      have h0 : DataW.trod enc Try.prog w base spare held n 3 [c0] = some y0 := by simpa [cells1] using hf 0 _ rfl
      have h1 : DataW.trod enc Try.prog w base spare held n 3 [c1] = some y1 := by simpa [cells1] using hf 1 _ rfl
      have h2 : DataW.trod enc Try.prog w base spare held n 3 [c2] = some y2 := by simpa [cells1] using hf 2 _ rfl
      have h3 : DataW.trod enc Try.prog w base spare held n 3 [c3] = some y3 := by simpa [cells1] using hf 3 _ rfl
      have h4 : DataW.trod enc Try.prog w base spare held n 23 [c4, c5] = some y4 := by simpa [cells2] using hf 4 _ rfl
      have h5 : DataW.trod enc Try.prog w base spare held n 42 [c6] = some y5 := by simpa [cellsP] using hf 5 _ rfl
      have h6 : DataW.trod enc Try.prog w base spare held n 43 [c7] = some y6 := by simpa [cellsR] using hf 6 _ rfl
      obtain ⟨z0, z1, n0, _, _, g0, g1⟩ := trod_struct2 Try.underlying23 h4
      obtain ⟨a0, e0, _, _⟩ := DataW.trod_int Try.underlying3 h0
      obtain ⟨a1, e1, _, _⟩ := DataW.trod_int Try.underlying3 h1
      obtain ⟨a2, e2, _, _⟩ := DataW.trod_int Try.underlying3 h2
      obtain ⟨a3, e3, _, _⟩ := DataW.trod_int Try.underlying3 h3
      obtain ⟨a4, e4, _, _⟩ := DataW.trod_int Try.underlying3 (show DataW.trod enc Try.prog w base spare held n0 3 [c4] = some z0 by simpa [cells1] using g0)
      obtain ⟨a5, e5, _, _⟩ := DataW.trod_int Try.underlying3 (show DataW.trod enc Try.prog w base spare held n0 3 [c5] = some z1 by simpa [cells1] using g1)
      obtain ⟨P, ⟨A6, c6, e6, hc6, hC6⟩, hg1, hg2⟩ := opens_slice (kd := Kd.int .i64) Try.underlying42 (by kernel_rfl) (opens_int Try.underlying3) H enc w base spare held n [c6] y5 h5 (fun k hk => hw k (by
        simp only [DataW.weights, Try.underlying45]
        exact DataW.weights_mem_each (j := 5) rfl rfl k hk))
      obtain ⟨R, ⟨A7, c7, e7, hc7, hC7⟩, hg3, hg4⟩ := opens_slice (kd := k28) Try.underlying43 (by kernel_rfl) opens_rec H enc w base spare held n [c7] y6 h6 (fun k hk => hw k (by
        simp only [DataW.weights, Try.underlying45]
        exact DataW.weights_mem_each (j := 6) rfl rfl k hk))
      simp only [List.cons.injEq, and_true] at e0 e1 e2 e3 e4 e5 e6 e7
      subst e0 e1 e2 e3 e4 e5 e6 e7
      exact ⟨a0, a1, a2, a3, a4, a5, A6, P, c6, A7, R, c7, rfl, hC6, hc6, hC7, hc7, hg1, hg3, hg2, hg4⟩
end Go.Proofs.Ytjcfmfdkligmoaa.Os
