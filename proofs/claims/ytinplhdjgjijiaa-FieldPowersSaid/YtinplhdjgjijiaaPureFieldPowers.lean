/- Proved: FieldPowers answers true: powers of 2 add up, come round behind 255, and meet each element but 0 once. Conditions: the arguments are of their kinds. -/
import Derived.Test.YtinplhdjgjijiaaFFieldPowers
namespace Go.Proofs.Ytinplhdjgjijiaa.Pure
open Go.RowKit Go.Proofs.Ytinplhdjgjijiaa.PFieldPowers Go.Proofs.YtinplhdjgjijiaaW.PrintWords Go.Proofs.YtinplhdjgjijiaaW.PrintLast Go.Proofs.Ytinplhdjgjijiaa.Gf Go.Proofs.Ytinplhdjgjijiaa.FFieldPowers

theorem gens_range : gens.length = 255 := by unfold gens; simp
theorem count_l0 (d : Nat) : ∀ (i c a : Nat), i + d = 255 → a < 256 → c + (gens.drop i).count a = (if a = 0 then 0 else 1) →
    Ev (fun k => fountainlaw1_FieldPowers.l0 k (a : Int) (c : Int) (i : Int)) true := by
  induction d with
  | zero =>
    intro i c a hi ha hc
    refine Ev.step (fun k => by simp only [fountainlaw1_FieldPowers.l0]; rfl) ?_
    refine ev_neg (by omega) ?_
    have hnil : gens.drop i = [] := List.drop_eq_nil_of_le (by rw [gens_range]; omega)
    rw [hnil] at hc
    simp only [List.count_nil] at hc
    by_cases h : a = 0
    · subst h
      obtain rfl : c = 0 := by simpa using hc
      exact ev_pos rfl (Ev.now _)
    · rw [if_neg h] at hc
      obtain rfl : c = 1 := by simpa using hc
      refine ev_pos ?_ (Ev.now _)
      have h1 : ((a : Int) != 0) = true := by simp; omega
      rw [h1]; rfl
  | succ d ih =>
    intro i c a hi ha hc
    refine Ev.step (fun k => by simp only [fountainlaw1_FieldPowers.l0]; rfl) ?_
    refine ev_pos (by omega) ?_
    have hp := Power_ev (i : Int)
    have hm : m255 (i : Int) = i := by unfold m255; omega
    rw [hm] at hp
    refine Ev.bind hp ?_
    have hd : gens.drop i = pw 2 i :: gens.drop (i + 1) := by
      have hlt : i < gens.length := by rw [gens_range]; omega
      rw [List.drop_eq_getElem_cons hlt]
      congr 1
      have := gens_at i (by omega)
      rw [List.getElem?_eq_getElem hlt] at this
      injection this
    rw [hd, List.count_cons] at hc
    rw [w64 (i := (c : Int) + 1) (by split at hc <;> omega) (by split at hc <;> split at hc <;> omega), w64 (i := (i : Int) + 1) (by omega) (by omega), show (i : Int) + 1 = ((i + 1 : Nat) : Int) from by omega]
    by_cases h : pw 2 i = a
    · subst h
      simp only [if_true]
      rw [show (c : Int) + 1 = ((c + 1 : Nat) : Int) from by omega]
      refine ih (i + 1) (c + 1) _ (by omega) ha ?_
      rw [← hc, if_pos (by simp)]; omega
    · simp only [if_neg (show ¬ (((pw 2 i : Nat) : Int) = (a : Int)) by omega)]
      refine ih (i + 1) c _ (by omega) ha ?_
      rw [← hc, if_neg (by simp; omega)]; rfl
theorem FieldPowers : fountainlaw1_FieldPowers.Pure := by
  intro n m a0 h0 h1 h2
  obtain ⟨a, rfl, ha⟩ := byte_of h2
  refine Ev.rounds (?_ : Ev (fun k => fountainlaw1_FieldPowers.f k n m (a : Int)) true)
  unfold fountainlaw1_FieldPowers.f
  refine Ev.bind alive_ev ?_
  simp only [if_true]
  by_cases b1 : n < -100000
  · simp only [if_pos b1]
    refine Ev.step (fun k => by simp only [fountainlaw1_FieldPowers.j0]; rfl) ?_
    exact Ev.now _
  simp only [if_neg b1]
  by_cases b2 : n > 100000
  · simp only [if_pos b2]
    refine Ev.step (fun k => by simp only [fountainlaw1_FieldPowers.j0]; rfl) ?_
    exact Ev.now _
  simp only [if_neg b2]
  by_cases b3 : m < -100000
  · simp only [if_pos b3]
    refine Ev.step (fun k => by simp only [fountainlaw1_FieldPowers.j0]; rfl) ?_
    exact Ev.now _
  simp only [if_neg b3]
  refine Ev.step (fun k => by simp only [fountainlaw1_FieldPowers.j0]; rfl) ?_
  by_cases b4 : m > 100000
  · simp only [decide_eq_true b4, if_true]
    exact Ev.now _
  simp only [decide_eq_false b4, Bool.false_eq_true, if_false]
  refine Ev.bind (Power_ev n) ?_
  refine Ev.bind (Power_ev m) ?_
  refine Ev.bind (mul2_ev (pw_lt 2 _) (pw_lt 2 _)) ?_
  refine Ev.bind (Power_ev _) ?_
  rw [w64 (i := n + m) (by omega) (by omega), w64 (i := n + 255) (by omega) (by omega), ← pw_add (by decide)]
  have e1 : pw 2 (m255 n + m255 m) = pw 2 (m255 (n + m)) := by
    rw [← pw_mod (m255 n + m255 m)]; congr 1; unfold m255; omega
  have e2 : m255 (n + 255) = m255 n := by unfold m255; omega
  rw [e1]
  simp only [if_true]
  refine Ev.bind (Power_ev _) ?_
  refine Ev.bind (Power_ev _) ?_
  rw [e2, bne_self_eq_false]
  refine Ev.step (fun k => by simp only [fountainlaw1_FieldPowers.j1]; rfl) ?_
  simp only [Bool.false_eq_true, if_false]
  have hc := gens_count a ha
  rw [← gens_eq] at hc
  exact count_l0 255 0 0 a (by omega) ha (by simpa using hc)
end Go.Proofs.Ytinplhdjgjijiaa.Pure
