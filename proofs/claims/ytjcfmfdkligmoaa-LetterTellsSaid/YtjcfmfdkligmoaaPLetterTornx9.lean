/- Written by a program (this session's own): functions that the law reaches, as plain Lean functions, each with the proof that the code comes to it. No conditions but those that stand in the theorems. -/
import Derived.Test.YtjcfmfdkligmoaaPq
import Derived.Test.YtjcfmfdkligmoaaPLetterLimitsx0
import Derived.Test.YtjcfmfdkligmoaaPRecordTellsx8
import Derived.Test.YtjcfmfdkligmoaaPRecordTellsx11
import Derived.Test.YtjcfmfdkligmoaaPRecordTellsx12
import Derived.Test.YtjcfmfdkligmoaaPLetterTornx0
set_option maxHeartbeats 8000000
set_option maxRecDepth 100000
namespace Go.Proofs.Ytjcfmfdkligmoaa.PLetterTorn
open Go.RowKit Go.Proofs.YtjcfmfdkligmoaaW.PrintWords Go.Proofs.YtjcfmfdkligmoaaW.PrintLast Go.Proofs.YtjcfmfdkligmoaaW.PrintMore Go.Proofs.Ytjcfmfdkligmoaa.PRecordTells Go.Proofs.Ytjcfmfdkligmoaa.PLetterLimits
attribute [local go_sem] max2_int min2_int max_two min_two max_three min_three max_four min_four
set_option linter.unusedVariables false
set_option linter.unusedSimpArgs false
def zm_Few.l0 : Nat → List (S28) → Int → Option (Bool)
 | 0, _, _ => none
 | k + 1, x0, x3 => if x3 < (x0.length : Int) then (if 0 ≤ x3 then (if (((rd_T28 x0 x3).f6).length : Int) > 100 then (some false) else (zm_Few.l0 k x0 (wrap64 (x3 + 1)))) else (none)) else (some (decide ((x0.length : Int) ≤ 60)))
def zm_Few.f (k : Nat) (l0 : List (S28)) : Option (Bool) := zm_Few.l0 k l0 0
theorem zm_Few.calls (k : Nat) (A0 : Option Addr) (c0 : Nat) (l0 : List (S28)) (r : Bool) (w : World) (hr0 : Kd.C k28 w A0 l0.length l0) (hc0 : l0.length ≤ c0) (h : zm_Few.f k l0 = some r) :
 Calls Try.prog 19 #[.slice A0 l0.length c0] w fun e w' => e = .returned (.bool r) ∧ Drawn0 w w' := by
 have HR0 := zA hr0
 have HC0 := zA hc0
 clear hr0 hc0
 have H : (zm_Few.l0 k l0 0) = some r := h
 clear h
 have H' := zA H
 clear H
 go_enter Try.func19, Try.ntmps19
 go_wp2
 go_loopg [3] k (fun kq v3 w' => ∃ (x3_1 : Int), v3 = .int .i64 x3_1 ∧ Aside0 (zm_Few.l0 kq l0 x3_1 = some r) ∧ Aside0 (kq ≤ k) ∧ Drawn0 w w')
 case atStart => exact ⟨(0), frs, H', ⟨Nat.le_refl _⟩, by repeat (first | exact Drawn0.refl _ | apply Drawn0.step)⟩
 case round =>
  clear H'
  obtain ⟨x3_1, rfl, HA, HK1, ⟨m1, rfl⟩⟩ := hrel
  cases gk with
  | zero => exact absurd HA.out (by simp [zm_Few.l0])
  | succ k1 =>
   have H := HA.out
   clear HA
   simp only [zm_Few.l0] at H
   by_cases c2 : x3_1 < (l0.length : Int)
   ·rw [if_pos c2] at H
    have c2b0 : decide (x3_1 < (l0.length : Int)) = true := decide_eq_true c2
    clear c2
    by_cases c3 : 0 ≤ x3_1
    ·rw [if_pos c3] at H
     have c3b0 : decide (0 ≤ x3_1) = true := decide_eq_true c3
     clear c3
     by_cases c4 : (((rd_T28 l0 x3_1).f6).length : Int) > 100
     ·rw [if_pos c4] at H
      have c4b0 : decide (100 < (((rd_T28 l0 x3_1).f6).length : Int)) = true := decide_eq_true c4
      have c4b1 : decide (100 < ((rd_T28 l0 x3_1).f6).length) = true := decide_eq_true (by omega)
      clear c4
      obtain rfl := Option.some.inj H
      have p258 : 0 ≤ (x3_1 : Int) := of_decide_eq_true asu
      have q258 : x3_1 < (l0.length : Int) := of_decide_eq_true asu
      obtain ⟨ad258, A258_9, c258_9, e258, hx258_0, hx258_1, hx258_2, hx258_3, hx258_4, hx258_5, hx258_6, hx258_7, hx258_8, hx258_9, hl258_9, hi258_9⟩ := at_T28 HR0.out x3_1 p258 q258
      cases e258
      have HR258_9 := zA hi258_9
      have HC258_9 := zA hl258_9
      clear hi258_9 hl258_9
      replace p258 := eq_true p258
      replace q258 := eq_true q258
      go_wp2
      go_ret
      exact ⟨by first | rfl | (simp; done) | (simp [*]; done), by repeat (first | exact Drawn0.refl _ | apply Drawn0.step)⟩
     ·rw [if_neg c4] at H
      have c4b0 : decide (100 < (((rd_T28 l0 x3_1).f6).length : Int)) = false := decide_eq_false c4
      have c4b1 : decide (100 < ((rd_T28 l0 x3_1).f6).length) = false := decide_eq_false (by omega)
      clear c4
      have H' := zA H
      clear H
      have p258 : 0 ≤ (x3_1 : Int) := of_decide_eq_true asu
      have q258 : x3_1 < (l0.length : Int) := of_decide_eq_true asu
      obtain ⟨ad258, A258_9, c258_9, e258, hx258_0, hx258_1, hx258_2, hx258_3, hx258_4, hx258_5, hx258_6, hx258_7, hx258_8, hx258_9, hl258_9, hi258_9⟩ := at_T28 HR0.out x3_1 p258 q258
      cases e258
      have HR258_9 := zA hi258_9
      have HC258_9 := zA hl258_9
      clear hi258_9 hl258_9
      replace p258 := eq_true p258
      replace q258 := eq_true q258
      go_wp2
      go_roundg k1
      case measure => have := HK1.out; omega
      case rel => exact ⟨(wrap64 (x3_1 + 1)), frs, H', ⟨by have := HK1.out; omega⟩, by repeat (first | exact Drawn0.refl _ | apply Drawn0.step)⟩
    ·rw [if_neg c3] at H
     exact absurd H (by simp)
   ·rw [if_neg c2] at H
    have c2b0 : decide (x3_1 < (l0.length : Int)) = false := decide_eq_false c2
    clear c2
    obtain rfl := Option.some.inj H
    go_wp2
    go_ret
    exact ⟨by first | rfl | (simp; done) | (simp [*]; done), by repeat (first | exact Drawn0.refl _ | apply Drawn0.step)⟩
end Go.Proofs.Ytjcfmfdkligmoaa.PLetterTorn
