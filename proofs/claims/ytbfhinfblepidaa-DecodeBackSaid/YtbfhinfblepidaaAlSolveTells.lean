/- fountainlaw3.alive: true. Conditions: those that stand in the theorems. -/
import Derived.Test.YtbfhinfblepidaaSoSolveTells
import Derived.Test.YtbfhinfblepidaaRsSolveTells
namespace Go.Proofs.Ytbfhinfblepidaa.AlSolveTells
open Go.RowKit Go.Lib Go.Proofs.Ytbfhinfblepidaa.PSolveTells Go.Proofs.YtbfhinfblepidaaW.PrintWords Go.Proofs.YtbfhinfblepidaaW.PrintLast Go.Proofs.YtbfhinfblepidaaW.PrintMore Go.Proofs.Ytbfhinfblepidaa.Mt Go.Proofs.Ytbfhinfblepidaa.StSolveTells Go.Proofs.Ytbfhinfblepidaa.RdSolveTells Go.Proofs.Ytbfhinfblepidaa.RkSolveTells Go.Proofs.Ytbfhinfblepidaa.RrSolveTells
set_option linter.unusedVariables false
set_option linter.unusedSimpArgs false
theorem lit_row {w : World} (x : Int) : RowC (w.alloc (.cells #[.int .u8 x] 5)) (some ⟨w.heap.size, 0, none⟩) [x] := by
  refine ⟨rfl, by simp, fun _ => ⟨_, rfl, fun j p hj => ?_⟩⟩
  cases j with
  | succ j => simp at hj
  | zero =>
    obtain rfl : x = p := by simpa using hj
    refine ⟨[.int .u8 x], rfl, rfl, fun i u hu => ?_⟩
    cases i with
    | succ i => simp at hu
    | zero =>
      obtain rfl : Value.int .u8 x = u := by simpa using hu
      exact (blk_cell (blk_new w _) 0).trans rfl
theorem lit_rows {w : World} {A : Option Addr} {c : Nat} {l : List Int} (hC : RowC w A l) (hc : l.length ≤ c) : (Kd.slice 5 (Kd.int .u8)).C (w.alloc (.cells #[.slice A l.length c] 31)) (some ⟨w.heap.size, 0, none⟩) [l].length [l] := by
  refine ⟨rfl, by simp, fun _ => ⟨_, rfl, fun j p hj => ?_⟩⟩
  cases j with
  | succ j => simp at hj
  | zero =>
    obtain rfl : l = p := by simpa using hj
    refine ⟨[.slice A l.length c], rfl, ⟨A, c, rfl, hc, Kd.C_below hC (below_alloc (Below.refl _ _) _)⟩, fun i u hu => ?_⟩
    cases i with
    | succ i => simp at hu
    | zero =>
      obtain rfl : Value.slice A l.length c = u := by simpa using hu
      exact (blk_cell (blk_new w _) 0).trans rfl
theorem solve_ex : SoSolveTells.solve.f 400 1 1 [[2]] [[29]] = some ([[128]], 0) := by kernel_rfl
theorem rank_ex : rank.f 400 3 [] = some 0 := by kernel_rfl
theorem add0 (a : Addr) : a.add (Int.toNat 0) = a := by
  unfold Addr.add
  split
  · rfl
  · rename_i h; exact absurd rfl h
theorem size_alloc (w : World) (o : Obj) : (w.alloc o).heap.size = w.heap.size + 1 := by unfold World.alloc; exact Array.size_push _
theorem args_ex (w : World) :
    (Kd.slice 5 (Kd.int .u8)).C ((((w.alloc (Obj.cells #[Value.int IntKind.u8 2] 5)).alloc (Obj.cells #[Value.slice (some ⟨w.heap.size, 0, none⟩) 1 1] 31)).alloc (Obj.cells #[Value.int IntKind.u8 29] 5)).alloc (Obj.cells #[Value.slice (some ⟨w.heap.size + 1 + 1, 0, none⟩) 1 1] 31)) (some ⟨w.heap.size + 1, 0, none⟩) [([2] : List Int)].length [[2]] ∧
    (Kd.slice 5 (Kd.int .u8)).C ((((w.alloc (Obj.cells #[Value.int IntKind.u8 2] 5)).alloc (Obj.cells #[Value.slice (some ⟨w.heap.size, 0, none⟩) 1 1] 31)).alloc (Obj.cells #[Value.int IntKind.u8 29] 5)).alloc (Obj.cells #[Value.slice (some ⟨w.heap.size + 1 + 1, 0, none⟩) 1 1] 31)) (some ⟨w.heap.size + 1 + 1 + 1, 0, none⟩) [([29] : List Int)].length [[29]] := by
  have a := lit_rows (c := 1) (lit_row (w := w) 2) (Nat.le_refl _)
  rw [size_alloc] at a
  replace a : (Kd.slice 5 (Kd.int .u8)).C ((w.alloc (Obj.cells #[Value.int IntKind.u8 2] 5)).alloc (Obj.cells #[Value.slice (some ⟨w.heap.size, 0, none⟩) 1 1] 31)) (some ⟨w.heap.size + 1, 0, none⟩) [([2] : List Int)].length [[2]] := a
  have hs : ((w.alloc (Obj.cells #[Value.int IntKind.u8 2] 5)).alloc (Obj.cells #[Value.slice (some ⟨w.heap.size, 0, none⟩) 1 1] 31)).heap.size = w.heap.size + 1 + 1 := by rw [size_alloc, size_alloc]
  generalize (w.alloc (Obj.cells #[Value.int IntKind.u8 2] 5)).alloc (Obj.cells #[Value.slice (some ⟨w.heap.size, 0, none⟩) 1 1] 31) = w2 at a hs ⊢
  have b := lit_rows (c := 1) (lit_row (w := w2) 29) (Nat.le_refl _)
  rw [size_alloc, hs] at b
  exact ⟨Kd.C_below a (below_alloc (below_alloc (Below.refl _ _) _) _), b⟩
set_option maxHeartbeats 4000000 in
set_option maxRecDepth 100000 in
theorem alive.calls (w : World) : Calls Try.prog 24 #[] w fun e w' => e = .returned (.bool true) ∧ Below w.heap.size w w' := by
  have HB := zA (Below.refl w.heap.size w)
  have AR := zA (args_ex w)
  have SX := zA solve_ex
  have RX := zA rank_ex
  go_enter Try.func24, Try.ntmps24
  go_wp2_with (first | (go_at_call 26; refine (SoSolveTells.solve.calls 400 1 1 _ 1 [[2]] _ 1 [[29]] ([[128]], 0) _ AR.out.1 (by simp) AR.out.2 (by simp) SX.out).mono ?_; rintro e w2 ⟨A, c, rfl, hc, hC, hb⟩; obtain ⟨ad, A0, c0, e0, x0, l0_, C0_⟩ := Cf.at_L1 hC 0 (by decide) (by decide); obtain ⟨ad0, e00, x00⟩ := Kd.at_int C0_ 0 (by decide) (by decide); subst e0; subst e00; have HB2 := zA (below_step (show Below w.heap.size w _ from bel) hb); have X0 := zA x0; have X00 := zA x00; clear hC hb x0 x00 l0_ C0_ AR SX) | (go_at_call 29; refine (rank.calls 400 3 none 0 [] 0 _ ⟨rfl, by simp, fun h => absurd h (Nat.lt_irrefl 0)⟩ (Nat.le_refl _) RX.out).mono ?_; rintro e w3 ⟨rfl, hb⟩; have HB3 := zA (below_step HB2.out hb); have x0 := (hb.cell (World.block_lt_of_cell? _ _ X0.out)).trans X0.out; have x00 := (hb.cell (World.block_lt_of_cell? _ _ X00.out)).trans X00.out; rw [add0] at x0 x00; replace x0 : w3.cell? ad = some (.slice (some ad0) 1 c0) := x0; replace x00 : w3.cell? ad0 = some (.int .u8 128) := x00; clear hb) | (go_at_call 33; refine (fountainlaw3_num.calls 0 0 _ rfl).mono ?_; rintro e w4 ⟨rfl, ⟨nd, rfl⟩⟩))
  go_ret
  exact ⟨rfl, by first | exact HB3.out | exact bel⟩
end Go.Proofs.Ytbfhinfblepidaa.AlSolveTells
