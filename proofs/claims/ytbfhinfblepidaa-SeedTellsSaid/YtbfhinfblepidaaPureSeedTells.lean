/- Proved: SeedTells answers true: the program's number of a block is the document's. Conditions: the argument's number is of its kind. -/
import Derived.Test.YtbfhinfblepidaaSd
namespace Go.Proofs.Ytbfhinfblepidaa.Pure
open Go.RowKit Go.Proofs.Ytbfhinfblepidaa.PSolveTells Go.Proofs.Ytbfhinfblepidaa.PSeedTells Go.Proofs.YtbfhinfblepidaaW.PrintWords Go.Proofs.YtbfhinfblepidaaW.PrintLast Go.Proofs.Ytbfhinfblepidaa.Pc Go.Proofs.Ytbfhinfblepidaa.FSolveTells Go.Proofs.Ytbfhinfblepidaa.Sd

theorem rk1 : rk 1 0 (src 1) = kL 1 := by decide +kernel
theorem find_hit {k d j : Nat} (h : rk k (j : Int) (src k) = kL k) : find k (d + 1) j = ((j : Int), 0) := by unfold find; rw [if_pos h]
theorem seed0 : seedOf 0 = (0, 1) := rfl
theorem seed1 : seedOf 1 = (0, 0) := by
  unfold seedOf
  rw [if_neg (by omega)]
  exact find_hit (k := 1) (d := 255) (j := 0) rk1
theorem alive9_ev : Ev (fun k => fountainlaw9_alive.f k) true := by
  unfold fountainlaw9_alive.f
  have h0 := find_ev 0
  have h1 := find_ev 1
  rw [seed0] at h0
  rw [seed1] at h1
  refine Ev.bind h0 (Ev.bind h1 ?_)
  refine ev_val (a := (1 : Int)) rfl (ev_pos rfl (ev_val (a := (0 : Int)) rfl ?_))
  exact Ev.now _

theorem SeedTells (a0 : Int) (_ : -2 ^ 63 ≤ a0 ∧ a0 < 2 ^ 63) : Ev (fun k => fountainlaw9_SeedTells.f k a0) true := by
  unfold fountainlaw9_SeedTells.f
  refine Ev.bind alive9_ev (Ev.bind (find_ev a0) (Ev.bind (seed_ev a0) ?_))
  generalize seedOf a0 = s
  refine ev_pos rfl (ev_pos rfl (ev_val (a := s.2) rfl ?_))
  rw [beq_self_eq_true]
  exact Ev.now _
end Go.Proofs.Ytbfhinfblepidaa.Pure
