/- fountainref1.Solve: what it answers, by the contracts of Sum and steps. Conditions: those that stand in the theorems. -/
import Derived.Test.YtbfhinfblepidaaRrSolveTells
set_option maxHeartbeats 8000000
set_option maxRecDepth 100000
namespace Go.Proofs.Ytbfhinfblepidaa.RsSolveTells
open Go.RowKit Go.Lib Go.Proofs.Ytbfhinfblepidaa.PSolveTells Go.Proofs.YtbfhinfblepidaaW.PrintWords Go.Proofs.YtbfhinfblepidaaW.PrintLast Go.Proofs.YtbfhinfblepidaaW.PrintMore Go.Proofs.Ytbfhinfblepidaa.Mt Go.Proofs.Ytbfhinfblepidaa.StSolveTells Go.Proofs.Ytbfhinfblepidaa.RkSolveTells Go.Proofs.Ytbfhinfblepidaa.RrSolveTells
set_option linter.unusedVariables false
set_option linter.unusedSimpArgs false
def nzr (l : List Int) : Bool := l.any fun x => decide (x ≠ 0)
def loose2 (W : Nat) (L : List (List Int)) : Bool := L.any fun r => nzr (r.drop W)
abbrev Post (w : World) (r : List (List Int) × Int) (e : Ending) (w' : World) : Prop := ∃ A c, e = .returned (.tuple #[.slice A r.1.length c, .int .i64 r.2]) ∧ r.1.length ≤ c ∧ (Kd.slice 5 (Kd.int .u8)).C w' A r.1.length r.1 ∧ Below w.heap.size w w'
theorem C0 (w : World) : (Kd.slice 5 (Kd.int .u8)).C w none ([] : List (List Int)).length [] := ⟨rfl, by simp, fun h => absurd h (Nat.lt_irrefl 0)⟩
theorem map_take (W : Nat) (L : List (List Int)) (i : Nat) (h : i < L.length) : (L.take (i + 1)).map (·.drop W) = (L.take i).map (·.drop W) ++ [(ro L i).drop W] := by
  rw [List.take_add_one, List.getElem?_eq_getElem h, List.map_append]
  unfold ro
  rw [List.getD_eq_getElem?_getD, List.getElem?_eq_getElem h]; rfl
theorem bad (a0 a1 : Int) (A2 A3 : Option Addr) (c2 c3 m d : Nat) (w : World) (h : a0 < 1 ∨ a0 > 300 ∨ a1 < 1 ∨ a1 > 1000 ∨ m ≠ d) :
    Calls Try.prog 28 #[.int .i64 a0, .int .i64 a1, .slice A2 m c2, .slice A3 d c3] w (Post w ([], 1)) := by
  by_cases g1 : a0 < 1
  · clear h
    go_enter Try.func28, Try.ntmps28
    go_wp2
    go_ret2
    exact ⟨none, 0, rfl, Nat.le_refl _, C0 _, Below.refl _ _⟩
  by_cases g2 : 300 < a0
  · clear h
    go_enter Try.func28, Try.ntmps28
    go_wp2
    go_ret2
    exact ⟨none, 0, rfl, Nat.le_refl _, C0 _, Below.refl _ _⟩
  by_cases g3 : a1 < 1
  · clear h
    go_enter Try.func28, Try.ntmps28
    go_wp2
    go_ret2
    exact ⟨none, 0, rfl, Nat.le_refl _, C0 _, Below.refl _ _⟩
  by_cases g4 : 1000 < a1
  · clear h
    go_enter Try.func28, Try.ntmps28
    go_wp2
    go_ret2
    exact ⟨none, 0, rfl, Nat.le_refl _, C0 _, Below.refl _ _⟩
  have g5 : ((m : Int) != (d : Int)) = true := bne_iff_ne.2 (by omega)
  have g6 : ((m : Int) == (d : Int)) = false := beq_eq_false_iff_ne.2 (by omega)
  clear h
  go_enter Try.func28, Try.ntmps28
  go_wp2
  go_ret2
  exact ⟨none, 0, rfl, Nat.le_refl _, C0 _, Below.refl _ _⟩
def T7 : Bool × List (List Nat × List Nat) := (true, [([], []), ([], []), ([], []), ([], []), ([2, 3], [2, 3]), ([4], [4]), ([5], [5]), ([1, 6], [1, 6]), ([], []), ([], []), ([], []), ([9, 10], [9, 10]), ([11], [11]), ([12], [12]), ([8, 13, 7], [8, 13]), ([7, 14, 14], [7, 14]), ([15], [15]), ([0, 16, 15], [0, 16]), ([17, 17, 0, 1, 2, 3, 4, 5, 6, 7, 8, 9, 10, 11, 12, 13, 14, 15, 16, 17], [0, 17])])
def B7 : List Nat := [0, 0, 0, 0, 12, 28, 60, 126, 0, 0, 0, 1536, 3584, 7680, 16382, 32766, 65534, 131071, 262143]
theorem tab7 : rtab .any (opsOf Try.f28 7) = T7 := by kernel_rfl
theorem bits7 : waitsOk T7.2 B7 = true := by kernel_rfl
end Go.Proofs.Ytbfhinfblepidaa.RsSolveTells
