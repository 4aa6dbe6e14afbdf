/- Proved: RecordLimits answers true: how great a record's numbers may be. Conditions: the arguments are of their kinds. -/
import Derived.Test.YtjcfmfdkligmoaaFRecordLimits
namespace Go.Proofs.Ytjcfmfdkligmoaa.Pure
open Go.RowKit Go.Proofs.Ytjcfmfdkligmoaa.PRecordLimits Go.Proofs.YtjcfmfdkligmoaaW.PrintWords Go.Proofs.YtjcfmfdkligmoaaW.PrintLast Go.Proofs.Ytjcfmfdkligmoaa.FRecordLimits
theorem limits (i : Nat) (h : i < 8) (over : Bool) : Ev (fun k => fountainlaw14_RecordLimits.j0 k (i : Int) over true false) true := by
  have hm : ∀ j : Nat, j < 8 → ∀ o : Bool, fountainlaw14_RecordLimits.j0 40 (j : Int) o true false = some true := by decide +kernel
  exact Ev.of (fun k => (fountainlaw14_RecordLimits.mono_l k).1 _ _ _ _) (hm i h over)
theorem RecordLimits (a0 : Int) (_ : -2 ^ 63 ≤ a0 ∧ a0 < 2 ^ 63) (a1 : Bool) : Ev (fun q => fountainlaw14_RecordLimits.f q a0 a1) true := by
  unfold fountainlaw14_RecordLimits.f
  refine Ev.bind alive14_ev (ev_pos rfl ?_)
  have fin : ∀ b' : Bool, b' = true → Ev (fun q => fountainlaw14_RecordLimits.j0 q a0 a1 true b') true := by
    intro b' hb
    refine Ev.step (fun q => by simp only [fountainlaw14_RecordLimits.j0]; rfl) ?_
    exact ev_pos hb (Ev.now _)
  by_cases c1 : a0 < 0
  · exact ev_pos c1 (fin _ rfl)
  refine ev_neg c1 ?_
  by_cases c2 : a0 > 7
  · exact fin _ (decide_eq_true c2)
  rw [decide_eq_false c2]
  obtain ⟨i, rfl⟩ : ∃ n : Nat, a0 = (n : Int) := ⟨a0.toNat, by omega⟩
  exact limits i (by omega) a1
end Go.Proofs.Ytjcfmfdkligmoaa.Pure
