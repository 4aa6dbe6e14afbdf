/- fountainlaw11.alive answers true. No conditions. -/
import Derived.Test.YtbfhinfblepidaaDq
import Derived.Test.YtbfhinfblepidaaDa
namespace Go.Proofs.Ytbfhinfblepidaa.Dz
open Go.RowKit Go.Proofs.Ytbfhinfblepidaa.PSolveTells Go.Proofs.Ytbfhinfblepidaa.PSeedTells Go.Proofs.Ytbfhinfblepidaa.PBlockTells Go.Proofs.Ytbfhinfblepidaa.PDecodeTells Go.Proofs.YtbfhinfblepidaaW.PrintWords Go.Proofs.YtbfhinfblepidaaW.PrintLast Go.Proofs.Ytbfhinfblepidaa.Gf Go.Proofs.Ytbfhinfblepidaa.Rw Go.Proofs.Ytbfhinfblepidaa.Pc Go.Proofs.Ytbfhinfblepidaa.FSolveTells Go.Proofs.Ytbfhinfblepidaa.FSeedTells Go.Proofs.Ytbfhinfblepidaa.Sl Go.Proofs.Ytbfhinfblepidaa.Sd Go.Proofs.Ytbfhinfblepidaa.Dm Go.Proofs.Ytbfhinfblepidaa.Db Go.Proofs.Ytbfhinfblepidaa.Dq
set_option linter.unusedVariables false
theorem rk1 : rk 1 0 (src 1) = kL 1 := by decide +kernel
theorem find_hit {k d j : Nat} (h : rk k (j : Int) (src k) = kL k) : find k (d + 1) j = ((j : Int), 0) := by unfold find; rw [if_pos h]
theorem seed1 : seedOf 1 = (0, 0) := by
  unfold seedOf
  rw [if_neg (by omega)]
  exact find_hit (k := 1) (d := 255) (j := 0) rk1
def P1 : List (List F) := [[97], [120], [202], [25], [171]]
theorem sol1 : solD 1 1 0 [0] [[97]] = (tll P1, 0) := by decide +kernel
theorem drop1 : tl (dropR 1 P1 (parts 1 0 0)) = [97] := by decide +kernel
theorem none1 : (rk 1 0 [] == kL 1) = false := by decide +kernel
theorem dec_ex : decR 1 1 [⟨0, [97]⟩] = ([[97]], 0) := by
  unfold decR
  rw [if_neg (by decide), if_neg (by decide), seed1, if_neg (by decide)]
  have hb : solD (1 : Int).toNat (1 : Int).toNat ((0, 0) : Int × Int).1 (ER [⟨0, [97]⟩]) (FR [⟨0, [97]⟩]) = (tll P1, 0) := sol1
  rw [hb, if_neg (by decide)]
  have hp : PR 1 1 [⟨0, [97]⟩] = P1 := by
    unfold PR
    rw [seed1, hb]
    exact byts_tll P1
  rw [hp]
  exact congrArg (fun x => ([x], (0 : Int))) drop1
theorem en_ex : enR 1 [] = false := by
  unfold enR
  rw [seed1]
  show (decide ((0 : Int) = 0) && (true && (rk 1 0 [] == kL 1))) = false
  rw [none1]; rfl
end Go.Proofs.Ytbfhinfblepidaa.Dz
namespace Go.Proofs.Ytbfhinfblepidaa.Pd
open Go.RowKit Go.Proofs.Ytbfhinfblepidaa.PDecodeTells
def alive11.f : Option Bool := some true
theorem alive11.calls (r : Bool) (w : World) (h : alive11.f = some r) : Calls Try.prog 54 #[] w fun e w' => e = .returned (.bool r) ∧ Below w.heap.size w w' := by
  obtain rfl : true = r := Option.some.inj h
  refine Da.alive.calls w ?_ ?_
  · have := Dq.dblock_ev 1 1 [⟨0, [97]⟩] (by decide) (fun x hx => by
      obtain rfl : x = ⟨0, [97]⟩ := by simpa using hx
      intro y hy
      obtain rfl : y = 97 := by simpa using hy
      decide)
    rw [Dz.dec_ex] at this
    exact Pz.ev_of this
  · have := Dq.denough_ev 1 [] (by decide)
    rw [Dz.en_ex] at this
    exact Pz.ev_of this
end Go.Proofs.Ytbfhinfblepidaa.Pd
