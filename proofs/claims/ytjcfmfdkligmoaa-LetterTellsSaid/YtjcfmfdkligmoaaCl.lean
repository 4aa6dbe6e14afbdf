/- slices.Clone of a row of bytes, and slices.Grow of nil: what they answer. 32, 46: their numbers; 26: the type []byte. Conditions: those that stand in the theorems. -/
import Derived.Test.YtjcfmfdkligmoaaProg
import Derived.Test.YtjcfmfdkligmoaaYtjcfmfdkligmoaaWWords
import Derived.WalkKit
import Derived.ProofKit
import Derived.Deep.LoopGhost
import Derived.Deep.Draws
import Derived.Shelf.Abstract
namespace Go.Proofs.Ytjcfmfdkligmoaa.Cl
open Go.RowKit Go.Proofs.YtjcfmfdkligmoaaW.PrintWords Go.Proofs.YtjcfmfdkligmoaaW.PrintLast Go.Proofs.YtjcfmfdkligmoaaW.PrintMore
theorem info5 : (Try.prog.info? 5).map (fun i => (i.zero, i.size, i.bytes)) = some (some (.int .u8 0), 1, 1) := by kernel_rfl
theorem nil_eq (A : Option Addr) (n c : Nat) (w : World) : (binOp .eql 26 (.slice A n c) (.slice none 0 0)).run Try.prog w = .ok (.bool A.isNone) w := by
 have e : ∃ d, Op.maxDepth = d + 1 := ⟨_, rfl⟩
 obtain ⟨d, hd⟩ := e
 cases A <;> simp [binOp, Op.equal, hd, Op.equalIn, run_underlying Try.underlying26]
def clone.f (L : List Int) : Option (List Int) := if L.length < 140737488355328 then some L else none
def grow.f (n : Int) : Option (List Int) := if 0 ≤ n then (if n < 140737488355328 then some [] else none) else none
set_option maxHeartbeats 2000000 in
theorem clone.calls (A : Option Addr) (c : Nat) (L r : List Int) (w : World) (hr : (Kd.int .u8).C w A L.length L) (_hc : L.length ≤ c) (h : clone.f L = some r) :
 Calls Try.prog 32 #[.slice A L.length c] w fun e w' => ∃ v0_ : Value, e = .returned v0_ ∧ (Kd.int .u8).R 5 w' w.heap.size (fun _ => True) v0_ r ∧ Below w.heap.size w w' := by
 unfold clone.f at h
 by_cases hl : L.length < 140737488355328
 ·rw [if_pos hl] at h
  obtain rfl := Option.some.inj h
  clear h
  cases A with
  | none =>
   have h0 : L = [] := by
    rcases Nat.eq_zero_or_pos L.length with h0 | h0
    ·exact List.eq_nil_of_length_eq_zero h0
    ·obtain ⟨ad, h, _⟩ := (Kd.reads_of_C (enc := Value.int .u8) (d := (0 : Int)) (h1 := fun _ => rfl) hr).2.2 h0
     cases h
   subst h0
   have hq := nil_eq none 0 c w
   go_enter Try.func32, Try.ntmps32
   go_wp2
   go_ret
   exact ⟨_, rfl, Kd.R_nil _ _ _ _ _, Below.refl _ _⟩
  | some ad =>
   have HR := Aside0.mk hr
   clear hr
   have hq := nil_eq (some ad) L.length c w
   go_enter Try.func32, Try.ntmps32
   go_wp2_with (first | ((with_reducible refine gate_dst (N := 5) rfl ?_); refine Kd.R_lit (Kd.int .u8) w.heap.size 5 ?hg (N := 5) ?hd (xs := ([] : List Int)) (inner := []) (ok := fun _ => True) (okp := fun _ => True) ?hr ?hp (fun _ hk => hk) trivial (Below.refl _ _) (Nat.le_refl _) (by simp) ?_; (case hd => rfl); (case hg => rfl); (case hr => first | (go_simp; done) | (go_simp; rfl)); (case hp => exact ⟨by simp, fun j x h => by simp at h⟩); intro v1 w1 ho hb hg hat; have HO := Aside0.mk ho; have HB := Aside0.mk hb; clear ho hb hg hat) | ((with_reducible refine gate_builtin (b := .append) (xs := #[.tmp 5, .tmp 6]) rfl ?_); at_builtin; refine Kd.R_append_rows (Kd.int .u8) (w0 := w) w.heap.size rfl (.tmp 5) (.tmp 6) 26 5 (.int .u8 0) 1 rfl Try.underlying26 info5 rfl (by decide) (by omega) v1 ([] : List Int) L _ _ _ (fun _ => True) (fun _ => False) rfl rfl ?aO ?aR (fun _ _ h => h) (fun _ h => h.elim) ?aF ?aB ?aS ?aL ?_; (case aR => exact Kd.C_below HR.out HB.out); (case aF => exact fun _ _ => trivial); (case aB => exact HB.out); (case aS => exact below_size HB.out); (case aL => simp only [List.length_nil]; omega); (case aO => exact HO.out); intro v2 w2 ho2 hb2 hg hat; rw [List.nil_append] at ho2; have HO2 := Aside0.mk ho2; have HB2 := Aside0.mk hb2; clear ho2 hb2 hg hat))
   go_ret
   exact ⟨_, rfl, HO2.out, HB2.out⟩
 ·rw [if_neg hl] at h; cases h
set_option maxHeartbeats 2000000 in
theorem grow.calls (n : Int) (r : List Int) (w : World) (h : grow.f n = some r) :
 Calls Try.prog 46 #[.slice none 0 0, .int .i64 n] w fun e w' => ∃ v0_ : Value, e = .returned v0_ ∧ (Kd.int .u8).R 5 w' w.heap.size (fun _ => True) v0_ r ∧ Below w.heap.size w w' := by
 unfold grow.f at h
 by_cases h0 : 0 ≤ n
 ·rw [if_pos h0] at h
  by_cases h1 : n < 140737488355328
  ·rw [if_pos h1] at h
   obtain rfl := Option.some.inj h
   clear h
   have hw : wrap64 (n - wrap64 (0 - 0)) = n := by unfold wrap64; omega
   have hneg : decide (n < 0) = false := decide_eq_false (by omega)
   go_enter Try.func46, Try.ntmps46
   by_cases h2 : 0 < n
   ·have hpos : decide (0 < n) = true := decide_eq_true h2
    obtain ⟨i0, hi0, _⟩ := info_parts info5
    go_wp2_with (first | ((with_reducible refine gate_builtin (b := .append) (xs := #[.tmp 20, .tmp 21]) rfl ?_); at_builtin; refine Kd.R_append_zeros (Kd.int .u8) (w0 := w) w.heap.size rfl (.tmp 20) (.tmp 21) 26 3 5 (.int .u8 0) 1 rfl Try.underlying26 Try.underlying3 info5 rfl (by decide) (by omega) (.slice none 0 0) ([] : List Int) 0 n (fun _ => True) rfl rfl rfl (fun _ _ => trivial) (Kd.R_nil _ _ _ _ _) h0 (Below.refl _ _) (Nat.le_refl _) (by simp only [List.length_nil]; omega) ?_; intro v1 w1 ho hb hg hat; rw [List.nil_append] at ho; obtain ⟨A1, c1, e1⟩ := Kd.R_slice ho; subst e1; have HO := Aside0.mk ho; have HB := Aside0.mk hb; have hcut := cut_to (P := Try.prog) 26 5 .i64 Try.underlying26 hi0 A1 (List.replicate n.toNat (0 : Int)).length c1 0 (by decide) (by omega) (Kd.R_reads' ho).2.1; clear ho hb hg hat))
    go_ret
    exact ⟨_, rfl, Kd.R_take HO.out (Nat.zero_le _), HB.out⟩
   ·have hpos : decide (0 < n) = false := decide_eq_false h2
    go_wp2
    go_ret
    exact ⟨_, rfl, Kd.R_nil _ _ _ _ _, Below.refl _ _⟩
  ·rw [if_neg h1] at h; cases h
 ·rw [if_neg h0] at h; cases h
end Go.Proofs.Ytjcfmfdkligmoaa.Cl
