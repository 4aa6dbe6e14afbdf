/- Proved: SplitBack answers true: what is cut and joined is as it was. Conditions: the arguments are of their kinds. -/
import Derived.Test.YtinplhdjgjijiaaFSplitBack
namespace Go.Proofs.Ytinplhdjgjijiaa.Pure
open Go.RowKit Go.Proofs.Ytinplhdjgjijiaa.PSplitBack Go.Proofs.YtinplhdjgjijiaaW.PrintWords Go.Proofs.YtinplhdjgjijiaaW.PrintLast Go.Proofs.Ytinplhdjgjijiaa.Rw Go.Proofs.Ytinplhdjgjijiaa.Sp Go.Proofs.Ytinplhdjgjijiaa.FSplitBack
theorem SplitBack (d : List Int) (hd : d.length < 2 ^ 48 ∧ ∀ x ∈ d, 0 ≤ x ∧ x ≤ 255) (a1 : Int) (_ : -2 ^ 63 ≤ a1 ∧ a1 < 2 ^ 63) (a2 : Int) (_ : -2 ^ 63 ≤ a2 ∧ a2 < 2 ^ 63) : Ev (fun q => fountainlaw12_SplitBack.f q d a1 a2) true := by
  obtain ⟨d, rfl⟩ := tl_of d hd.2
  clear hd
  unfold fountainlaw12_SplitBack.f
  refine Ev.bind alive_ev (ev_pos rfl ?_)
  have fin : ∀ b : Bool, b = true → Ev (fun q => fountainlaw12_SplitBack.j0 q (tl d) a1 a2 true b) true := by
    intro b hb
    refine Ev.step (fun q => by simp only [fountainlaw12_SplitBack.j0]; rfl) ?_
    exact ev_pos hb (Ev.now _)
  rw [tl_length]
  by_cases c1 : (d.length : Int) < 1
  · exact ev_pos c1 (fin _ rfl)
  refine ev_neg c1 ?_
  by_cases c2 : (d.length : Int) > 4000
  · exact ev_pos c2 (fin _ rfl)
  refine ev_neg c2 ?_
  by_cases c3 : a1 < 1
  · exact ev_pos c3 (fin _ rfl)
  refine ev_neg c3 ?_
  by_cases c4 : a1 > 64
  · exact ev_pos c4 (fin _ rfl)
  refine ev_neg c4 ?_
  by_cases c5 : a2 < 1
  · exact ev_pos c5 (fin _ rfl)
  refine ev_neg c5 ?_
  by_cases c6 : a2 > 40
  · exact fin _ (decide_eq_true c6)
  obtain ⟨s, rfl⟩ : ∃ n : Nat, a1 = (n : Int) := ⟨a1.toNat, by omega⟩
  obtain ⟨m, rfl⟩ : ∃ n : Nat, a2 = (n : Int) := ⟨a2.toNat, by omega⟩
  have hok : okS (d.length : Int) (s : Int) (m : Int) := by unfold okS; omega
  refine Ev.step (fun q => by simp only [fountainlaw12_SplitBack.j0]; rfl) ?_
  refine ev_neg (by rw [decide_eq_true_eq]; omega) ?_
  rw [tl_length]
  refine Ev.bind (cut_yes hok d rfl) ?_
  refine Ev.bind (join_cut hok d rfl) ?_
  refine ev_val (o := fountainlaw12_num.f 0) rfl (ev_pos rfl ?_)
  refine ev_val (o := fountainlaw12_num.f 0) rfl (ev_pos rfl ?_)
  rw [beq_self_eq_true]
  exact Ev.now _
end Go.Proofs.Ytinplhdjgjijiaa.Pure
