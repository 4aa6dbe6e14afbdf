/- A record that came in as an argument, opened: its numbers, and the row of its bytes. 28, 23, 25: the types of a record, of its name, and of its shape; 26: []byte; 3, 4: int, bool. Conditions: those that stand in the theorem. -/
import Derived.Test.YtjcfmfdkligmoaaProg
import Derived.Test.YtjcfmfdkligmoaaOp
import Derived.ChangeSame
import Derived.Deep.Strs
import Derived.Lib.SmallJoins
namespace Go.Proofs.Ytjcfmfdkligmoaa.Or
open Go.RowKit Go.Proofs.YtjcfmfdkligmoaaW.PrintWords Go.Proofs.YtjcfmfdkligmoaaW.PrintLast Go.Proofs.YtjcfmfdkligmoaaW.PrintMore Go.Proofs.Ytjcfmfdkligmoaa.Op
open Go.ChangeShapes Go.WideShapes Go.Deep
theorem cells1 : Try.prog.cellsOf 3 = 1 := by kernel_rfl
theorem cellsB : Try.prog.cellsOf 4 = 1 := by kernel_rfl
theorem cellsS : Try.prog.cellsOf 26 = 1 := by kernel_rfl
theorem cells2 : Try.prog.cellsOf 23 = 2 := by kernel_rfl
theorem cells3 : Try.prog.cellsOf 25 = 3 := by kernel_rfl
theorem cells10 : Try.prog.cellsOf 28 = 10 := by kernel_rfl
theorem open_rec {H : Type} {enc : TypeId × Value → H} {w : World} {base : Nat} {spare : Nat → Bool} {held : Bool} {fuel : Nat} {cs : List Value} {x : DataW H × List MemPlace}
    (h : DataW.trod enc Try.prog w base spare held fuel 28 cs = some x) (hw : ∀ n ∈ x.1.weights Try.prog 28, n ≤ reachBytes) :
    ∃ (p n b s m bl e : Int) (g : Bool) (u : Int) (A : Option Addr) (D : List Int) (c : Nat),
      cs = [.int .i64 p, .int .i64 n, .int .i64 b, .int .i64 s, .int .i64 m, .int .i64 bl, .int .i64 e, .bool g, .int .i64 u, .slice A D.length c] ∧
      (Kd.int .u8).C w A D.length D ∧ D.length ≤ c ∧ D.length * Try.prog.bytesOf 5 ≤ reachBytes ∧ ∀ x ∈ D, (Lit.int .u8 x).wf = true := by
  obtain ⟨xs, n, _, rfl, hl, hlen, hf⟩ := DataW.trod_struct Try.underlying28 h
  rw [cells10] at hl
  match cs, hl with
  | [c0, c1, c2, c3, c4, c5, c6, c7, c8, c9], _ =>
    match xs, hlen with
    | [y0, y1, y2, y3, y4, y5, y6], _ =>
      have h0 : DataW.trod enc Try.prog w base spare held n 23 [c0, c1] = some y0 := by simpa [cells2] using hf 0 _ rfl
      have h1 : DataW.trod enc Try.prog w base spare held n 25 [c2, c3, c4] = some y1 := by simpa [cells3] using hf 1 _ rfl
      have h2 : DataW.trod enc Try.prog w base spare held n 3 [c5] = some y2 := by simpa [cells1] using hf 2 _ rfl
      have h3 : DataW.trod enc Try.prog w base spare held n 3 [c6] = some y3 := by simpa [cells1] using hf 3 _ rfl
      have h4 : DataW.trod enc Try.prog w base spare held n 4 [c7] = some y4 := by simpa [cellsB] using hf 4 _ rfl
      have h5 : DataW.trod enc Try.prog w base spare held n 3 [c8] = some y5 := by simpa [cells1] using hf 5 _ rfl
      have h6 : DataW.trod enc Try.prog w base spare held n 26 [c9] = some y6 := by simpa [cellsS] using hf 6 _ rfl
      obtain ⟨z0, z1, n0, _, _, g0, g1⟩ := trod_struct2 Try.underlying23 h0
      obtain ⟨q0, q1, q2, n1, _, _, k0, k1, k2⟩ := trod_struct3 Try.underlying25 h1
      obtain ⟨p, e0, _, _⟩ := DataW.trod_int Try.underlying3 (show DataW.trod enc Try.prog w base spare held n0 3 [c0] = some z0 by simpa [cells1] using g0)
      obtain ⟨nn, e1, _, _⟩ := DataW.trod_int Try.underlying3 (show DataW.trod enc Try.prog w base spare held n0 3 [c1] = some z1 by simpa [cells1] using g1)
      obtain ⟨b, e2, _, _⟩ := DataW.trod_int Try.underlying3 (show DataW.trod enc Try.prog w base spare held n1 3 [c2] = some q0 by simpa [cells1] using k0)
      obtain ⟨s, e3, _, _⟩ := DataW.trod_int Try.underlying3 (show DataW.trod enc Try.prog w base spare held n1 3 [c3] = some q1 by simpa [cells1] using k1)
      obtain ⟨m, e4, _, _⟩ := DataW.trod_int Try.underlying3 (show DataW.trod enc Try.prog w base spare held n1 3 [c4] = some q2 by simpa [cells1] using k2)
      obtain ⟨bl, e5, _, _⟩ := DataW.trod_int Try.underlying3 h2
      obtain ⟨e, e6, _, _⟩ := DataW.trod_int Try.underlying3 h3
      obtain ⟨g, e7, _⟩ := DataW.trod_bool Try.underlying4 h4
      obtain ⟨u, e8, _, _⟩ := DataW.trod_int Try.underlying3 h5
      obtain ⟨D, ⟨A, c, e9, hc, hC⟩, hg1, hg2⟩ := opens_slice (kd := Kd.int .u8) Try.underlying26 (by kernel_rfl) (opens_int Try.underlying5) H enc w base spare held n [c9] y6 h6 (fun k hk => hw k (by
        simp only [DataW.weights, Try.underlying28]
        exact DataW.weights_mem_each (j := 6) rfl rfl k hk))
      simp only [List.cons.injEq, and_true] at e0 e1 e2 e3 e4 e5 e6 e7 e8 e9
      subst e0 e1 e2 e3 e4 e5 e6 e7 e8 e9
      exact ⟨p, nn, b, s, m, bl, e, g, u, A, D, c, rfl, hC, hc, hg1, hg2⟩
end Go.Proofs.Ytjcfmfdkligmoaa.Or
