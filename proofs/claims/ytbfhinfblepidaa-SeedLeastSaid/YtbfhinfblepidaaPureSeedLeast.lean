/- Proved: SeedLeast answers true: with the number that is found the rows have full rank, and with no lesser one. Conditions: the arguments' numbers are of their kinds. -/
import Derived.Test.YtbfhinfblepidaaSd
import Derived.Test.YtbfhinfblepidaaPSeedLeastx
namespace Go.Proofs.Ytbfhinfblepidaa.Pure
open Go.RowKit Go.Proofs.Ytbfhinfblepidaa.PSolveTells Go.Proofs.Ytbfhinfblepidaa.PSeedTells Go.Proofs.Ytbfhinfblepidaa.PSeedLeast Go.Proofs.YtbfhinfblepidaaW.PrintWords Go.Proofs.YtbfhinfblepidaaW.PrintLast Go.Proofs.Ytbfhinfblepidaa.Pc Go.Proofs.Ytbfhinfblepidaa.FSolveTells Go.Proofs.Ytbfhinfblepidaa.FSeedTells Go.Proofs.Ytbfhinfblepidaa.Sd

theorem rk1 : rk 1 0 (src 1) = kL 1 := by decide +kernel
theorem find_hit {k d j : Nat} (h : rk k (j : Int) (src k) = kL k) : find k (d + 1) j = ((j : Int), 0) := by unfold find; rw [if_pos h]
theorem seed0 : seedOf 0 = (0, 1) := rfl
theorem seed1 : seedOf 1 = (0, 0) := by
  unfold seedOf
  rw [if_neg (by omega)]
  exact find_hit (k := 1) (d := 255) (j := 0) rk1
theorem alive9_ev : Ev (fun k => fountainlaw9_alive.f k) true := by
  unfold fountainlaw9_alive.f
  have h0 := find_ev 0
  have h1 := find_ev 1
  rw [seed0] at h0
  rw [seed1] at h1
  refine Ev.bind h0 (Ev.bind h1 ?_)
  refine ev_val (a := (1 : Int)) rfl (ev_pos rfl (ev_val (a := (0 : Int)) rfl ?_))
  exact Ev.now _

theorem j2_ev {n : Nat} (h1 : 1 ≤ n) (h2 : n ≤ 40) (a1 : Int) (ha : 0 ≤ a1 ∧ a1 < 2 ^ 63) (i : Nat) (hi : i < 256) (hl : ∀ m : Nat, m < i → rk n (m : Int) (src n) ≠ kL n) :
    Ev (fun k => fountainlaw9_SeedLeast.j2 k (n : Int) a1 (i : Int) (src n) (kL n : Int) false) true := by
  refine Ev.step (fun k => by simp only [fountainlaw9_SeedLeast.j2]; rfl) ?_
  refine ev_neg (by decide) ?_
  by_cases c : i = 0
  · exact ev_pos (by omega) (Ev.now _)
  · refine ev_neg (by omega) ?_
    obtain ⟨a, rfl⟩ : ∃ a : Nat, a1 = (a : Int) := ⟨a1.toNat, by omega⟩
    rw [tmod_nat]
    refine Ev.bind (rmatrix_ev h1 h2 ((a % i : Nat) : Int) (src n) (by rw [src_len]; omega)) ?_
    refine ev_val (prrank_ev h2 _ (src n) (by rw [src_len]; omega)) ?_
    have hm := hl (a % i) (Nat.mod_lt _ (by omega))
    have hr := rk_le h2 ((a % i : Nat) : Int) (src n)
    rw [decide_eq_true (show ((rk n ((a % i : Nat) : Int) (src n) : Nat) : Int) < (kL n : Int) by omega)]
    exact Ev.now _
theorem l0_ev {n : Nat} (h1 : 1 ≤ n) (h2 : n ≤ 40) (a1 : Int) (ha : 0 ≤ a1 ∧ a1 < 2 ^ 63) (i : Nat) (hi : i < 256) (hg : rk n (i : Int) (src n) = kL n) (hl : ∀ m : Nat, m < i → rk n (m : Int) (src n) ≠ kL n) (d : Nat) : ∀ q, q + d = n →
    Ev (fun k => fountainlaw9_SeedLeast.l0 k (n : Int) a1 (i : Int) (src q) (q : Int)) true := by
  induction d with
  | zero =>
    intro q hq
    obtain rfl : q = n := by omega
    refine Ev.step (fun k => by simp only [fountainlaw9_SeedLeast.l0]; rfl) ?_
    refine ev_neg (by omega) (ev_val (rL_ok h2) (ev_neg (by omega) (ev_neg (by omega) ?_)))
    refine Ev.bind (rmatrix_ev h1 h2 (i : Int) (src q) (by rw [src_len]; omega)) ?_
    refine ev_val (prrank_ev h2 _ (src q) (by rw [src_len]; omega)) ?_
    rw [hg, show ((kL q : Int) != (kL q : Int)) = false from by simp]
    exact j2_ev h1 h2 a1 ha i hi hl
  | succ d ih =>
    intro q hq
    refine Ev.step (fun k => by simp only [fountainlaw9_SeedLeast.l0]; rfl) ?_
    refine ev_pos (by omega) (ev_pos (by rw [src_len]; omega) ?_)
    rw [w64 (i := (q : Int) + 1) (by omega) (by omega), show (q : Int) + 1 = ((q + 1 : Nat) : Int) from by omega, src_succ]
    exact ih (q + 1) (by omega)
theorem SeedLeast (a0 : Int) (_ : -2 ^ 63 ≤ a0 ∧ a0 < 2 ^ 63) (a1 : Int) (h1 : -2 ^ 63 ≤ a1 ∧ a1 < 2 ^ 63) : Ev (fun k => fountainlaw9_SeedLeast.f k a0 a1) true := by
  unfold fountainlaw9_SeedLeast.f
  refine Ev.bind alive9_ev (ev_pos rfl ?_)
  have away : ∀ b : Bool, b = true → Ev (fun q => fountainlaw9_SeedLeast.j0 q a0 a1 true b) true := by
    intro b hb
    refine Ev.step (fun q => by simp only [fountainlaw9_SeedLeast.j0]; rfl) ?_
    exact ev_pos hb (Ev.now _)
  by_cases c1 : a0 < 1
  · exact ev_pos c1 (away _ rfl)
  refine ev_neg c1 ?_
  by_cases c2 : a0 > 20
  · exact ev_pos c2 (away _ rfl)
  refine ev_neg c2 ?_
  by_cases c3 : a1 < 0
  · exact away _ (decide_eq_true c3)
  rw [decide_eq_false c3]
  obtain ⟨n, rfl⟩ : ∃ n : Nat, a0 = (n : Int) := ⟨a0.toNat, by omega⟩
  refine Ev.step (fun q => by simp only [fountainlaw9_SeedLeast.j0]; rfl) ?_
  refine ev_neg (by decide) (Ev.bind (find_ev (n : Int)) ?_)
  unfold seedOf
  rw [if_neg (by omega), Int.toNat_natCast]
  rcases find_says n 256 0 with e | ⟨i, g1, g2, e, g3, g4⟩
  · rw [e]
    refine ev_val (a := (5 : Int)) rfl (ev_neg (by decide) (ev_val (a := (5 : Int)) rfl ?_))
    exact Ev.now _
  · rw [e]
    refine ev_val (a := (0 : Int)) rfl (ev_pos rfl ?_)
    exact l0_ev (by omega) (by omega) a1 (by omega) i (by omega) g3 (fun m hm => g4 m (by omega) hm) n 0 (by omega)
end Go.Proofs.Ytbfhinfblepidaa.Pure
