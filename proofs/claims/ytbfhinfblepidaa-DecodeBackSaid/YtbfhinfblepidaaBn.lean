/- The methods of the program's block and of the document's: Symbol, Size. Conditions: those that stand in the theorems. -/
import Derived.Test.YtbfhinfblepidaaPBlockTellsx
import Derived.Test.YtbfhinfblepidaaMt
import Derived.Test.YtbfhinfblepidaaPq
import Derived.BigQuiet
set_option maxHeartbeats 8000000
set_option maxRecDepth 100000
namespace Go.Proofs.Ytbfhinfblepidaa.Bs
open Go.RowKit Go.Lib Go.Proofs.Ytbfhinfblepidaa.PSolveTells Go.Proofs.Ytbfhinfblepidaa.PSeedTells Go.Proofs.Ytbfhinfblepidaa.PBlockTells Go.Proofs.YtbfhinfblepidaaW.PrintWords Go.Proofs.YtbfhinfblepidaaW.PrintLast Go.Proofs.YtbfhinfblepidaaW.PrintMore Go.Proofs.Ytbfhinfblepidaa.Mt
set_option linter.unusedVariables false
set_option linter.unusedSimpArgs false
abbrev Blk (w : World) (g : Nat) (K0 S H j size : Int) (A : Option Addr) (c : Nat) (n : Nat) : Prop := w.heap[g]? = some (.cells #[.int .i64 K0, .int .i64 S, .int .i64 H, .int .i64 j, .int .i64 size, .slice A n c] 75 (0, 0))
theorem VofC {t : Nat} {w : World} {A : Option Addr} {c : Nat} {L : List (List Int)} (hC : (Kd.slice 5 (Kd.int .u8)).C w A L.length L) (hc : L.length ≤ c) (base : Nat) : Kd.V (Kd.slice 5 (Kd.int .u8)) t w base (fun _ => True) (.slice A L.length c) L :=
  Kd.V_mono (Kd.V_mk hc (Kd.C_F (Kd.heap_slice 5 (Kd.heap_int .u8)) hC)) (fun _ _ => trivial)
def B3 : List Nat := [0, 1, 3, 7, 0, 16, 48, 112, 0, 256, 768, 1792, 0, 4096, 12288, 28672, 0, 131071, 262143, 524287]
abbrev RBlk (w : World) (g : Nat) (K0 j size : Int) (A : Option Addr) (c : Nat) (n : Nat) : Prop := w.heap[g]? = some (.cells #[.int .i64 K0, .int .i64 j, .int .i64 size, .slice A n c] 77 (0, 0))
def T4 : Bool × List (List Nat × List Nat) := (true, [([], []), ([0], [0]), ([1], [1]), ([2], [2]), ([], []), ([4], [4]), ([5], [5]), ([6], [6]), ([], []), ([8], [8]), ([9], [9]), ([10], [10]), ([], []), ([12], [12]), ([13], [13]), ([14], [14]), ([], []), ([3, 7, 11, 15, 16], [3, 7, 11, 15, 16]), ([17, 17, 0, 1, 2, 3, 4, 5, 6, 7, 8, 9, 10, 11, 12, 13, 14, 15, 16, 17], [17]), ([18, 0, 1, 2, 3, 4, 5, 6, 7, 8, 9, 10, 11, 12, 13, 14, 15, 16, 17, 18], [])])
def B4 : List Nat := [0, 1, 3, 7, 0, 16, 48, 112, 0, 256, 768, 1792, 0, 4096, 12288, 28672, 0, 131071, 262143, 524287]
theorem tab4 : rtab .any (opsOf Try.f51 3) = T4 := by kernel_rfl
theorem bits4 : waitsOk T4.2 B4 = true := by kernel_rfl
end Go.Proofs.Ytbfhinfblepidaa.Bs
namespace Go.Proofs.Ytbfhinfblepidaa.Bn
open Go.RowKit Go.Lib Go.Proofs.Ytbfhinfblepidaa.PSolveTells Go.Proofs.Ytbfhinfblepidaa.PSeedTells Go.Proofs.Ytbfhinfblepidaa.PBlockTells Go.Proofs.YtbfhinfblepidaaW.PrintWords Go.Proofs.YtbfhinfblepidaaW.PrintLast Go.Proofs.YtbfhinfblepidaaW.PrintMore Go.Proofs.Ytbfhinfblepidaa.Mt Go.Proofs.Ytbfhinfblepidaa.Bs
set_option linter.unusedVariables false
set_option linter.unusedSimpArgs false
def odd (z : Int) (r : List Int) : Bool := decide ((r.length : Int) ≠ z)
def odds (z : Int) (L : List (List Int)) : Bool := decide (0 ≤ Cf.idx (odd z) L 0)
abbrev Res := Option (Int × Int × Int × Int × List (List Int)) × Int
def Post (z : Int) (w : World) (r : Res) (e : Ending) (w' : World) : Prop := match r.1 with
  | none => e = .returned (.tuple #[.pointer none, .int .i64 r.2]) ∧ Below w.heap.size w w'
  | some b => ∃ g A c, e = .returned (.tuple #[.pointer (some ⟨g, 0, none⟩), .int .i64 r.2]) ∧ w.heap.size ≤ g ∧ Blk w' g b.1 b.2.1 b.2.2.1 b.2.2.2.1 z A c b.2.2.2.2.length ∧ (Kd.slice 5 (Kd.int .u8)).C w' A b.2.2.2.2.length b.2.2.2.2 ∧ b.2.2.2.2.length ≤ c ∧ Below w.heap.size w w'
theorem tells (gb : Nat) (z : Int) (L : List (List Int)) (w : World) (hbox : w.heap[gb]? = some (.cells #[.int .i64 z] 3 (0, 0))) :
    Cf.Tells 81 #[.pointer (some ⟨gb, 0, none⟩)] (odd z) L w := by
  intro W j A cc hj hb hC
  have hbox2 : W.heap[gb]? = some (.cells #[.int .i64 z] 3 (0, 0)) := blk_below hbox hb
  have hcell : W.cell? ⟨gb, 0, none⟩ = some (.int .i64 z) := (blk_cell hbox2 0).trans rfl
  show Calls Try.prog 81 #[.slice A (Cf.rd_L1 L (j : Int)).length cc, .pointer (some ⟨gb, 0, none⟩)] W fun e w' => e = .returned (.bool (odd z (Cf.rd_L1 L (j : Int)))) ∧ Below w.heap.size w w'
  generalize Cf.rd_L1 L (j : Int) = r at hC
  clear hbox2 hbox hC
  unfold odd
  by_cases h : (r.length : Int) = z
  · have h2 : ((r.length : Int) != z) = false := bne_eq_false_iff_eq.2 h
    have h3 : decide ((r.length : Int) ≠ z) = false := decide_eq_false (fun k => k h)
    rw [h3]
    clear h h3
    go_enter Try.func81, Try.ntmps81
    go_wp2
    go_ret
    exact ⟨by simp_all, hb⟩
  · have h2 : ((r.length : Int) != z) = true := bne_iff_ne.2 h
    have h3 : decide ((r.length : Int) ≠ z) = true := decide_eq_true h
    rw [h3]
    clear h h3
    go_enter Try.func81, Try.ntmps81
    go_wp2
    go_ret
    exact ⟨by simp_all, hb⟩
def T9 : Bool × List (List Nat × List Nat) := (true, [([], []), ([], []), ([], []), ([], []), ([3], [3]), ([4], [4]), ([], []), ([0, 1, 2, 5, 6, 5], [0, 1, 2, 5, 6]), ([7], [7]), ([8], [8]), ([8], [8]), ([9, 7, 0, 1, 2, 3, 4, 5, 6, 7, 8, 9], [9]), ([10, 11, 0, 1, 2, 3, 4, 5, 6, 7, 8, 9, 10, 11], [10])])
def B9 : List Nat := [0, 0, 0, 0, 8, 24, 0, 127, 255, 511, 511, 1023, 4095]
theorem tab9 : rtab .any (opsOf Try.f47 9) = T9 := by kernel_rfl
theorem bits9 : waitsOk T9.2 B9 = true := by kernel_rfl
end Go.Proofs.Ytbfhinfblepidaa.Bn
