/- The solver's contracts, as the print calls them: what each answers for some measure of rounds, and from then on. Conditions: those that stand in the theorems. -/
import Derived.Test.YtbfhinfblepidaaRrSolveTells
namespace Go.Proofs.Ytbfhinfblepidaa.Pz
open Go.RowKit Go.Lib Go.Proofs.YtbfhinfblepidaaW.PrintWords Go.Proofs.YtbfhinfblepidaaW.PrintLast Go.Proofs.YtbfhinfblepidaaW.PrintMore
theorem ev_is {α : Type} (g : Nat → Option α) : ∃ o : Option α, ∀ r, o = some r ↔ Ev g r := by
  by_cases h : ∃ r, Ev g r
  · obtain ⟨r, hr⟩ := h
    refine ⟨some r, fun s => ⟨fun e => by rw [← Option.some.inj e]; exact hr, fun hs => ?_⟩⟩
    obtain ⟨a, ha⟩ := hr
    obtain ⟨b, hb⟩ := hs
    rw [← ha (a + b) (by omega), hb (a + b) (by omega)]
  · exact ⟨none, fun s => ⟨fun e => (by cases e), fun hs => absurd ⟨s, hs⟩ h⟩⟩
noncomputable def ev {α : Type} (g : Nat → Option α) : Option α := Classical.choose (ev_is g)
theorem ev_of {α : Type} {g : Nat → Option α} {r : α} (h : Ev g r) : ev g = some r := (Classical.choose_spec (ev_is g) r).2 h
theorem ev_at {α : Type} {g : Nat → Option α} {r : α} (h : ev g = some r) : ∃ k, g k = some r := ((Classical.choose_spec (ev_is g) r).1 h).rounds
noncomputable def rank.f (a0 : Int) (L : List (List Int)) : Option Int := ev fun k => RkSolveTells.rank.f k a0 L
theorem rank.calls (a0 : Int) (A1 : Option Addr) (c1 : Nat) (L : List (List Int)) (r : Int) (w : World) (hr1 : (Kd.slice 5 (Kd.int .u8)).C w A1 L.length L) (hc1 : L.length ≤ c1) (h : rank.f a0 L = some r) :
    Calls Try.prog 29 #[.int .i64 a0, .slice A1 L.length c1] w fun e w' => e = .returned (.int .i64 r) ∧ Below w.heap.size w w' := by
  obtain ⟨k, hk⟩ := ev_at h
  exact RkSolveTells.rank.calls k a0 A1 c1 L r w hr1 hc1 hk
noncomputable def rrank.f (a0 : Int) (L : List (List Int)) : Option Int := ev fun k => RrSolveTells.rrank.f k a0 L
theorem rrank.calls (a0 : Int) (A1 : Option Addr) (c1 : Nat) (L : List (List Int)) (r : Int) (w : World) (hr1 : (Kd.slice 5 (Kd.int .u8)).C w A1 L.length L) (hc1 : L.length ≤ c1) (h : rrank.f a0 L = some r) :
    Calls Try.prog 30 #[.int .i64 a0, .slice A1 L.length c1] w fun e w' => e = .returned (.int .i64 r) ∧ Below w.heap.size w w' := by
  obtain ⟨k, hk⟩ := ev_at h
  exact RrSolveTells.rrank.calls k a0 A1 c1 L r w hr1 hc1 hk
end Go.Proofs.Ytbfhinfblepidaa.Pz
