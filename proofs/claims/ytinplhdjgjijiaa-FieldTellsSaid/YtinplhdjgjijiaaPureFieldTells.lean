/- Proved: FieldTells answers true: what any two elements are together, what undoes one, and any power of 2 are the document's own. Conditions: the arguments are of their kinds. -/
import Derived.Test.YtinplhdjgjijiaaFFieldTells
namespace Go.Proofs.Ytinplhdjgjijiaa.Pure
open Go.RowKit Go.Proofs.Ytinplhdjgjijiaa.PFieldTells Go.Proofs.YtinplhdjgjijiaaW.PrintWords Go.Proofs.YtinplhdjgjijiaaW.PrintLast Go.Proofs.Ytinplhdjgjijiaa.Gf Go.Proofs.Ytinplhdjgjijiaa.FFieldTells

theorem FieldTells : fountainlaw1_FieldTells.Pure := by
  intro a0 b0 n h0 h1 _
  obtain ⟨a, rfl, ha⟩ := byte_of h0
  obtain ⟨b, rfl, hb⟩ := byte_of h1
  refine Ev.rounds (?_ : Ev (fun k => fountainlaw1_FieldTells.f k (a : Int) (b : Int) n) true)
  unfold fountainlaw1_FieldTells.f
  refine Ev.bind alive_ev ?_
  simp only [if_true]
  refine Ev.bind (add2_ev ha hb) ?_
  rw [u8_xor_nat a b ha hb]
  simp only [if_true]
  refine Ev.bind (mul2_ev ha hb) ?_
  refine Ev.bind (rtimes_ev ha hb) ?_
  simp only [if_true]
  refine Ev.bind (inv_ev ha) ?_
  refine Ev.bind (rinv_ev ha) ?_
  simp only [if_true]
  refine Ev.bind (Power_ev n) ?_
  refine Ev.bind (rPower_ev n) ?_
  rw [beq_self_eq_true]
  exact Ev.now _
end Go.Proofs.Ytinplhdjgjijiaa.Pure
