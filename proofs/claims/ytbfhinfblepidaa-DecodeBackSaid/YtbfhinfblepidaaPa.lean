/- The solver's contracts, as the print calls them: what each answers for some measure of rounds, and from then on. Conditions: those that stand in the theorems. -/
import Derived.Test.YtbfhinfblepidaaRrSolveTells
import Derived.Test.YtbfhinfblepidaaAlSolveTells
import Derived.Test.YtbfhinfblepidaaSoSolveTells
namespace Go.Proofs.Ytbfhinfblepidaa.Pz
open Go.RowKit Go.Lib Go.Proofs.YtbfhinfblepidaaW.PrintWords Go.Proofs.YtbfhinfblepidaaW.PrintLast Go.Proofs.YtbfhinfblepidaaW.PrintMore
theorem ev_is {α : Type} (g : Nat → Option α) : ∃ o : Option α, ∀ r, o = some r ↔ Ev g r := by
  by_cases h : ∃ r, Ev g r
  · obtain ⟨r, hr⟩ := h
    refine ⟨some r, fun s => ⟨fun e => by rw [← Option.some.inj e]; exact hr, fun hs => ?_⟩⟩
    obtain ⟨a, ha⟩ := hr
    obtain ⟨b, hb⟩ := hs
    rw [← ha (a + b) (by omega), hb (a + b) (by omega)]
  · exact ⟨none, fun s => ⟨fun e => (by cases e), fun hs => absurd ⟨s, hs⟩ h⟩⟩
noncomputable def ev {α : Type} (g : Nat → Option α) : Option α := Classical.choose (ev_is g)
theorem ev_of {α : Type} {g : Nat → Option α} {r : α} (h : Ev g r) : ev g = some r := (Classical.choose_spec (ev_is g) r).2 h
theorem ev_at {α : Type} {g : Nat → Option α} {r : α} (h : ev g = some r) : ∃ k, g k = some r := ((Classical.choose_spec (ev_is g) r).1 h).rounds
noncomputable def rank.f (a0 : Int) (L : List (List Int)) : Option Int := ev fun k => RkSolveTells.rank.f k a0 L
theorem rank.calls (a0 : Int) (A1 : Option Addr) (c1 : Nat) (L : List (List Int)) (r : Int) (w : World) (hr1 : (Kd.slice 5 (Kd.int .u8)).C w A1 L.length L) (hc1 : L.length ≤ c1) (h : rank.f a0 L = some r) :
    Calls Try.prog 29 #[.int .i64 a0, .slice A1 L.length c1] w fun e w' => e = .returned (.int .i64 r) ∧ Below w.heap.size w w' := by
  obtain ⟨k, hk⟩ := ev_at h
  exact RkSolveTells.rank.calls k a0 A1 c1 L r w hr1 hc1 hk
noncomputable def rrank.f (a0 : Int) (L : List (List Int)) : Option Int := ev fun k => RrSolveTells.rrank.f k a0 L
theorem rrank.calls (a0 : Int) (A1 : Option Addr) (c1 : Nat) (L : List (List Int)) (r : Int) (w : World) (hr1 : (Kd.slice 5 (Kd.int .u8)).C w A1 L.length L) (hc1 : L.length ≤ c1) (h : rrank.f a0 L = some r) :
    Calls Try.prog 30 #[.int .i64 a0, .slice A1 L.length c1] w fun e w' => e = .returned (.int .i64 r) ∧ Below w.heap.size w w' := by
  obtain ⟨k, hk⟩ := ev_at h
  exact RrSolveTells.rrank.calls k a0 A1 c1 L r w hr1 hc1 hk
end Go.Proofs.Ytbfhinfblepidaa.Pz
namespace Go.Proofs.Ytbfhinfblepidaa.Pz
open Go.RowKit Go.Lib Go.Proofs.YtbfhinfblepidaaW.PrintWords Go.Proofs.YtbfhinfblepidaaW.PrintLast Go.Proofs.YtbfhinfblepidaaW.PrintMore
noncomputable def solve.f (a0 a1 : Int) (M D : List (List Int)) : Option (List (List Int) × Int) := ev fun k => SoSolveTells.solve.f k a0 a1 M D
theorem solve.calls (a0 a1 : Int) (A2 : Option Addr) (c2 : Nat) (M : List (List Int)) (A3 : Option Addr) (c3 : Nat) (D : List (List Int)) (r1 : List (List Int)) (r2 : Int) (w : World)
    (hM : (Kd.slice 5 (Kd.int .u8)).C w A2 M.length M) (hcM : M.length ≤ c2) (hD : (Kd.slice 5 (Kd.int .u8)).C w A3 D.length D) (hcD : D.length ≤ c3) (h : solve.f a0 a1 M D = some (r1, r2)) :
    Calls Try.prog 26 #[.int .i64 a0, .int .i64 a1, .slice A2 M.length c2, .slice A3 D.length c3] w fun e w' => ∃ v0_ : Value, e = .returned (.tuple #[v0_, .int .i64 r2]) ∧ Kd.V (Kd.slice 5 (Kd.int .u8)) 31 w' w.heap.size (fun _ => True) v0_ r1 ∧ Below w.heap.size w w' := by
  obtain ⟨k, hk⟩ := ev_at h
  refine (SoSolveTells.solve.calls k a0 a1 A2 c2 M A3 c3 D (r1, r2) w hM hcM hD hcD hk).mono ?_
  rintro e w' ⟨A, c, rfl, hc, hC, hb⟩
  exact ⟨_, rfl, Kd.V_mono (Kd.V_mk hc (Kd.C_F (Kd.heap_slice 5 (Kd.heap_int .u8)) hC)) (fun _ _ => trivial), hb⟩
end Go.Proofs.Ytbfhinfblepidaa.Pz
