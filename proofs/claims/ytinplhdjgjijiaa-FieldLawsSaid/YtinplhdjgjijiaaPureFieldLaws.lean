/- Proved: FieldLaws answers true: the 256 elements are a field, no order, no brackets, shared out, and undone. Conditions: the arguments are of their kinds. -/
import Derived.Test.YtinplhdjgjijiaaFFieldLaws
namespace Go.Proofs.Ytinplhdjgjijiaa.Pure
open Go.RowKit Go.Proofs.Ytinplhdjgjijiaa.PFieldLaws Go.Proofs.YtinplhdjgjijiaaW.PrintWords Go.Proofs.YtinplhdjgjijiaaW.PrintLast Go.Proofs.Ytinplhdjgjijiaa.Gf Go.Proofs.Ytinplhdjgjijiaa.FFieldLaws

theorem mul3_ev {a b c : Nat} (ha : a < 256) (hb : b < 256) (hc : c < 256) : Ev (fun k => field_Mul.f k [(a : Int), (b : Int), (c : Int)]) ((mul (mul a b) c : Nat) : Int) := by
  have := mul_ev [a, b, c] (by simp [ha, hb, hc]) (by simp)
  simpa [prodB, one_mul ha] using this
theorem FieldLaws : fountainlaw1_FieldLaws.Pure := by
  intro a0 b0 c0 h0 h1 h2
  obtain ⟨a, rfl, ha⟩ := byte_of h0
  obtain ⟨b, rfl, hb⟩ := byte_of h1
  obtain ⟨c, rfl, hc⟩ := byte_of h2
  refine Ev.rounds (?_ : Ev (fun k => fountainlaw1_FieldLaws.f k (a : Int) (b : Int) (c : Int)) true)
  unfold fountainlaw1_FieldLaws.f
  refine Ev.bind alive_ev ?_
  simp only [if_true]
  refine Ev.bind (mul2_ev ha hb) ?_
  refine Ev.bind (mul2_ev hb ha) ?_
  rw [mul_comm hb ha]
  simp only [if_true]
  refine Ev.bind (mul2_ev ha hb) ?_
  refine Ev.bind (mul2_ev (mul_lt b ha) hc) ?_
  refine Ev.bind (mul3_ev ha hb hc) ?_
  simp only [if_true]
  refine Ev.bind (add2_ev hb hc) ?_
  refine Ev.bind (mul2_ev ha (xor_lt hb hc)) ?_
  refine Ev.bind (mul2_ev ha hb) ?_
  refine Ev.bind (mul2_ev ha hc) ?_
  refine Ev.bind (add2_ev (mul_lt b ha) (mul_lt c ha)) ?_
  rw [mul_xor_right, bne_self_eq_false]
  refine Ev.step (fun k => by simp only [fountainlaw1_FieldLaws.j0]; rfl) ?_
  simp only [Bool.false_eq_true, if_false]
  by_cases h : a = 0
  · subst h
    simp only [show (((0 : Nat) : Int) = 0) from rfl, if_true]
    have := inv_ev (a := 0) (by decide)
    rw [iv_zero] at this
    refine Ev.bind this ?_
    simp only [show (((0 : Nat) : Int) = 0) from rfl, if_true]
    exact Ev.now _
  · simp only [if_neg (show ¬ ((a : Int) = 0) by omega)]
    refine Ev.bind (inv_ev ha) ?_
    refine Ev.bind (mul2_ev ha (iv_lt a)) ?_
    rw [mul_iv ha h]
    exact Ev.now _
end Go.Proofs.Ytinplhdjgjijiaa.Pure
