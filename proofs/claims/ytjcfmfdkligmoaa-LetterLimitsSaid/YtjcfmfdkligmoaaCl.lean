/- slices.Clone of a row of bytes, and slices.Grow of nil: what they answer. 32, 46: their numbers; 26: the type []byte. Conditions: those that stand in the theorems. -/
import Derived.Test.YtjcfmfdkligmoaaProg
import Derived.Test.YtjcfmfdkligmoaaWWords
import Derived.WalkKit
import Derived.ProofKit
import Derived.Deep.LoopGhost
import Derived.Deep.Draws
import Derived.Shelf.Abstract
namespace Go.Proofs.Ytjcfmfdkligmoaa.Cl
open Go.RowKit Go.Proofs.YtjcfmfdkligmoaaW.PrintWords Go.Proofs.YtjcfmfdkligmoaaW.PrintLast Go.Proofs.YtjcfmfdkligmoaaW.PrintMore
theorem info5 : (Try.prog.info? 5).map (fun i => (i.zero, i.size, i.bytes)) = some (some (.int .u8 0), 1, 1) := by kernel_rfl
def grow.f (n : Int) : Option (List Int) := if 0 ≤ n then (if n < 140737488355328 then some [] else none) else none
set_option maxHeartbeats 2000000 in
theorem grow.calls (n : Int) (r : List Int) (w : World) (h : grow.f n = some r) :
    Calls Try.prog 46 #[.slice none 0 0, .int .i64 n] w fun e w' => ∃ v0_ : Value, e = .returned v0_ ∧ (Kd.int .u8).R 5 w' w.heap.size (fun _ => True) v0_ r ∧ Below w.heap.size w w' := by
  unfold grow.f at h
  by_cases h0 : 0 ≤ n
  · rw [if_pos h0] at h
    by_cases h1 : n < 140737488355328
    · rw [if_pos h1] at h
      obtain rfl := Option.some.inj h
      clear h
      have hw : wrap64 (n - wrap64 (0 - 0)) = n := by unfold wrap64; omega
      have hneg : decide (n < 0) = false := decide_eq_false (by omega)
      go_enter Try.func46, Try.ntmps46
      by_cases h2 : 0 < n
      · have hpos : decide (0 < n) = true := decide_eq_true h2
        obtain ⟨i0, hi0, _⟩ := info_parts info5
        go_wp2_with (first | ((with_reducible refine gate_builtin (b := .append) (xs := #[.tmp 20, .tmp 21]) rfl ?_); at_builtin; refine Kd.R_append_zeros (Kd.int .u8) (w0 := w) w.heap.size rfl (.tmp 20) (.tmp 21) 26 3 5 (.int .u8 0) 1 rfl Try.underlying26 Try.underlying3 info5 rfl (by decide) (by omega) (.slice none 0 0) ([] : List Int) 0 n (fun _ => True) rfl rfl rfl (fun _ _ => trivial) (Kd.R_nil _ _ _ _ _) h0 (Below.refl _ _) (Nat.le_refl _) (by simp only [List.length_nil]; omega) ?_; intro v1 w1 ho hb hg hat; rw [List.nil_append] at ho; obtain ⟨A1, c1, e1⟩ := Kd.R_slice ho; subst e1; have HO := Aside0.mk ho; have HB := Aside0.mk hb; have hcut := cut_to (P := Try.prog) 26 5 .i64 Try.underlying26 hi0 A1 (List.replicate n.toNat (0 : Int)).length c1 0 (by decide) (by omega) (Kd.R_reads' ho).2.1; clear ho hb hg hat))
        go_ret
        exact ⟨_, rfl, Kd.R_take HO.out (Nat.zero_le _), HB.out⟩
      · have hpos : decide (0 < n) = false := decide_eq_false h2
        go_wp2
        go_ret
        exact ⟨_, rfl, Kd.R_nil _ _ _ _ _, Below.refl _ _⟩
    · rw [if_neg h1] at h; cases h
  · rw [if_neg h0] at h; cases h
end Go.Proofs.Ytjcfmfdkligmoaa.Cl
