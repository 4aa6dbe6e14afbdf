/- Written by a program (this session's own): functions that the law reaches, as plain Lean functions, each with the proof that the code comes to it. No conditions but those that stand in the theorems. -/
import Derived.Test.YtjcfmfdkligmoaaPq
import Derived.Test.YtjcfmfdkligmoaaPs
import Derived.Test.YtjcfmfdkligmoaaPLetterLimitsx0
import Derived.Test.YtjcfmfdkligmoaaPRecordTellsx8
import Derived.Test.YtjcfmfdkligmoaaPRecordTellsx11
import Derived.Test.YtjcfmfdkligmoaaPRecordTellsx12
import Derived.Test.YtjcfmfdkligmoaaPLetterTornx0
import Derived.Test.YtjcfmfdkligmoaaPLetterTornx9
import Derived.Test.YtjcfmfdkligmoaaPRecordTellsx13
set_option maxHeartbeats 8000000
set_option maxRecDepth 100000
namespace Go.Proofs.Ytjcfmfdkligmoaa.PLetterTells
open Go.RowKit Go.Proofs.YtjcfmfdkligmoaaW.PrintWords Go.Proofs.YtjcfmfdkligmoaaW.PrintLast Go.Proofs.YtjcfmfdkligmoaaW.PrintMore Go.Proofs.Ytjcfmfdkligmoaa.PRecordTells Go.Proofs.Ytjcfmfdkligmoaa.PLetterLimits Go.Proofs.Ytjcfmfdkligmoaa.PLetterTorn
attribute [local go_sem] max2_int min2_int max_two min_two max_three min_three max_four min_four
attribute [local go_sem high] eqA23 eqA25
set_option linter.unusedVariables false
set_option linter.unusedSimpArgs false
def zp_SameInts.l0 : Nat → List Int → List Int → Int → Option (Bool)
 | 0, _, _, _ => none
 | k + 1, x0, x1, x5 => if x5 < (x0.length : Int) then (if 0 ≤ x5 then (if x5 < (x1.length : Int) then (if (rd x0 x5) = (rd x1 x5) then (zp_SameInts.l0 k x0 x1 (wrap64 (x5 + 1))) else (some false)) else (none)) else (none)) else (some true)
def zp_SameInts.f (k : Nat) (l0 : List Int) (l1 : List Int) : Option (Bool) := if (l0.length : Int) = (l1.length : Int) then (zp_SameInts.l0 k l0 l1 0) else (some false)
theorem zp_SameInts.calls (k : Nat) (A0 : Option Addr) (c0 : Nat) (l0 : List Int) (A1 : Option Addr) (c1 : Nat) (l1 : List Int) (r : Bool) (w : World) (hr0 : Kd.C (Kd.int .i64) w A0 l0.length l0) (hc0 : l0.length ≤ c0) (hr1 : Kd.C (Kd.int .i64) w A1 l1.length l1) (hc1 : l1.length ≤ c1) (h : zp_SameInts.f k l0 l1 = some r) :
 Calls Try.prog 43 #[.slice A0 l0.length c0, .slice A1 l1.length c1] w fun e w' => e = .returned (.bool r) ∧ Drawn0 w w' := by
 have HR0 := zA hr0
 have HC0 := zA hc0
 clear hr0 hc0
 have HR1 := zA hr1
 have HC1 := zA hc1
 clear hr1 hc1
 have H : (if (l0.length : Int) = (l1.length : Int) then (zp_SameInts.l0 k l0 l1 0) else (some false)) = some r := h
 clear h
 by_cases c3 : (l0.length : Int) = (l1.length : Int)
 ·rw [if_pos c3] at H
  have c3b0 : ((l0.length : Int) == (l1.length : Int)) = true := beq_iff_eq.mpr c3
  have c3b1 : ((l0.length : Int) != (l1.length : Int)) = false := bne_eq_false_iff_eq.mpr c3
  have c3b2 : (l0.length == l1.length) = true := by first | simpa using c3 | (simp at c3 ⊢; omega)
  clear c3
  have H' := zA H
  clear H
  go_enter Try.func43, Try.ntmps43
  go_wp2
  repeat (go_quiet (fail); try go_wp2)
  go_loopg [5] k (fun kq v5 w' => ∃ (x5_1 : Int), v5 = .int .i64 x5_1 ∧ Aside0 (zp_SameInts.l0 kq l0 l1 x5_1 = some r) ∧ Aside0 (kq ≤ k) ∧ Drawn0 w w')
  case atStart => exact ⟨(0), frs, H', ⟨Nat.le_refl _⟩, by repeat (first | exact Drawn0.refl _ | apply Drawn0.step)⟩
  case round =>
   clear H'
   obtain ⟨x5_1, rfl, HA, HK1, ⟨m1, rfl⟩⟩ := hrel
   cases gk with
   | zero => exact absurd HA.out (by simp [zp_SameInts.l0])
   | succ k1 =>
    have H := HA.out
    clear HA
    simp only [zp_SameInts.l0] at H
    by_cases c4 : x5_1 < (l0.length : Int)
    ·rw [if_pos c4] at H
     have c4b0 : decide (x5_1 < (l0.length : Int)) = true := decide_eq_true c4
     clear c4
     by_cases c5 : 0 ≤ x5_1
     ·rw [if_pos c5] at H
      have c5b0 : decide (0 ≤ x5_1) = true := decide_eq_true c5
      clear c5
      by_cases c6 : x5_1 < (l1.length : Int)
      ·rw [if_pos c6] at H
       have c6b0 : decide (x5_1 < (l1.length : Int)) = true := decide_eq_true c6
       clear c6
       by_cases c7 : (rd l0 x5_1) = (rd l1 x5_1)
       ·rw [if_pos c7] at H
        have c7b0 : ((rd l0 x5_1) == (rd l1 x5_1)) = true := beq_iff_eq.mpr c7
        have c7b1 : ((rd l0 x5_1) != (rd l1 x5_1)) = false := bne_eq_false_iff_eq.mpr c7
        clear c7
        have H' := zA H
        clear H
        have p358 : 0 ≤ (x5_1 : Int) := of_decide_eq_true asu
        have q358 : x5_1 < (l0.length : Int) := of_decide_eq_true asu
        obtain ⟨ad358, e358, hx358_0⟩ := Kd.at_int HR0.out x5_1 p358 q358
        cases e358
        replace p358 := eq_true p358
        replace q358 := eq_true q358
        have p359 : 0 ≤ (x5_1 : Int) := of_decide_eq_true asu
        have q359 : x5_1 < (l1.length : Int) := of_decide_eq_true asu
        obtain ⟨ad359, e359, hx359_0⟩ := Kd.at_int HR1.out x5_1 p359 q359
        cases e359
        replace p359 := eq_true p359
        replace q359 := eq_true q359
        go_wp2
        repeat (go_quiet (fail); try go_wp2)
        go_roundg k1
        case measure => have := HK1.out; omega
        case rel => exact ⟨(wrap64 (x5_1 + 1)), frs, H', ⟨by have := HK1.out; omega⟩, by repeat (first | exact Drawn0.refl _ | apply Drawn0.step)⟩
       ·rw [if_neg c7] at H
        have c7b0 : ((rd l0 x5_1) == (rd l1 x5_1)) = false := beq_eq_false_iff_ne.mpr c7
        have c7b1 : ((rd l0 x5_1) != (rd l1 x5_1)) = true := bne_iff_ne.mpr c7
        obtain rfl := Option.some.inj H
        have p358 : 0 ≤ (x5_1 : Int) := of_decide_eq_true asu
        have q358 : x5_1 < (l0.length : Int) := of_decide_eq_true asu
        obtain ⟨ad358, e358, hx358_0⟩ := Kd.at_int HR0.out x5_1 p358 q358
        cases e358
        replace p358 := eq_true p358
        replace q358 := eq_true q358
        have p359 : 0 ≤ (x5_1 : Int) := of_decide_eq_true asu
        have q359 : x5_1 < (l1.length : Int) := of_decide_eq_true asu
        obtain ⟨ad359, e359, hx359_0⟩ := Kd.at_int HR1.out x5_1 p359 q359
        cases e359
        replace p359 := eq_true p359
        replace q359 := eq_true q359
        go_wp2
        repeat (go_quiet (fail); try go_wp2)
        go_ret
        exact ⟨by first | rfl | (simp; done) | (simp [*]; done), by repeat (first | exact Drawn0.refl _ | apply Drawn0.step)⟩
      ·rw [if_neg c6] at H
       exact absurd H (by simp)
     ·rw [if_neg c5] at H
      exact absurd H (by simp)
    ·rw [if_neg c4] at H
     have c4b0 : decide (x5_1 < (l0.length : Int)) = false := decide_eq_false c4
     clear c4
     obtain rfl := Option.some.inj H
     go_wp2
     repeat (go_quiet (fail); try go_wp2)
     go_ret
     exact ⟨by first | rfl | (simp; done) | (simp [*]; done), by repeat (first | exact Drawn0.refl _ | apply Drawn0.step)⟩
 ·rw [if_neg c3] at H
  have c3b0 : ((l0.length : Int) == (l1.length : Int)) = false := beq_eq_false_iff_ne.mpr c3
  have c3b1 : ((l0.length : Int) != (l1.length : Int)) = true := bne_iff_ne.mpr c3
  have c3b2 : (l0.length == l1.length) = false := by first | simpa using c3 | (simp at c3 ⊢; omega)
  obtain rfl := Option.some.inj H
  go_enter Try.func43, Try.ntmps43
  go_wp2
  repeat (go_quiet (fail); try go_wp2)
  go_ret
  exact ⟨by first | rfl | (simp; done) | (simp [*]; done), by repeat (first | exact Drawn0.refl _ | apply Drawn0.step)⟩
def zq_SameRecords.l0 : Nat → List (S28) → List (S28) → Int → Option (Bool)
 | 0, _, _, _ => none
 | k + 1, x0, x1, x5 => if x5 < (x0.length : Int) then (if 0 ≤ x5 then (if x5 < (x1.length : Int) then ((zq_SameRecord.f ((rd_T28 x0 x5).f0.f0) ((rd_T28 x0 x5).f0.f1) ((rd_T28 x0 x5).f1.f0) ((rd_T28 x0 x5).f1.f1) ((rd_T28 x0 x5).f1.f2) ((rd_T28 x0 x5).f2) ((rd_T28 x0 x5).f3) ((rd_T28 x0 x5).f4) ((rd_T28 x0 x5).f5) ((rd_T28 x0 x5).f6) ((rd_T28 x1 x5).f0.f0) ((rd_T28 x1 x5).f0.f1) ((rd_T28 x1 x5).f1.f0) ((rd_T28 x1 x5).f1.f1) ((rd_T28 x1 x5).f1.f2) ((rd_T28 x1 x5).f2) ((rd_T28 x1 x5).f3) ((rd_T28 x1 x5).f4) ((rd_T28 x1 x5).f5) ((rd_T28 x1 x5).f6)).bind fun t364 => (if t364 = true then (zq_SameRecords.l0 k x0 x1 (wrap64 (x5 + 1))) else (some false))) else (none)) else (none)) else (some true)
def zq_SameRecords.f (k : Nat) (l0 : List (S28)) (l1 : List (S28)) : Option (Bool) := if (l0.length : Int) = (l1.length : Int) then (zq_SameRecords.l0 k l0 l1 0) else (some false)
def zq_SameRecords.T6 : Bool × List (List Nat × List Nat) := (true, [([], []), ([], []), ([0, 1], [0, 1]), ([2], [2]), ([], []), ([], []), ([4, 5], [4, 5]), ([6], [6]), ([3, 7], [3, 7]), ([8], [8])])
def zq_SameRecords.B6 : List Nat := [0, 0, 3, 7, 0, 0, 48, 112, 255, 511]
theorem zq_SameRecords.tab6 : rtab .any (opsOf Try.f44 6) = zq_SameRecords.T6 := by kernel_rfl
theorem zq_SameRecords.bits6 : waitsOk zq_SameRecords.T6.2 zq_SameRecords.B6 = true := by kernel_rfl
theorem zq_SameRecords.calls (k : Nat) (A0 : Option Addr) (c0 : Nat) (l0 : List (S28)) (A1 : Option Addr) (c1 : Nat) (l1 : List (S28)) (r : Bool) (w : World) (hr0 : Kd.C k28 w A0 l0.length l0) (hc0 : l0.length ≤ c0) (hr1 : Kd.C k28 w A1 l1.length l1) (hc1 : l1.length ≤ c1) (h : zq_SameRecords.f k l0 l1 = some r) :
 Calls Try.prog 44 #[.slice A0 l0.length c0, .slice A1 l1.length c1] w fun e w' => e = .returned (.bool r) ∧ Below w.heap.size w w' := by
 have hu28 := Try.underlying28
 have HR0 := zA hr0
 have HC0 := zA hc0
 clear hr0 hc0
 have HR1 := zA hr1
 have HC1 := zA hc1
 clear hr1 hc1
 have HB := zA (Below.refl w.heap.size w)
 have H : (if (l0.length : Int) = (l1.length : Int) then (zq_SameRecords.l0 k l0 l1 0) else (some false)) = some r := h
 clear h
 by_cases c3 : (l0.length : Int) = (l1.length : Int)
 ·rw [if_pos c3] at H
  have c3b0 : ((l0.length : Int) == (l1.length : Int)) = true := beq_iff_eq.mpr c3
  have c3b1 : ((l0.length : Int) != (l1.length : Int)) = false := bne_eq_false_iff_eq.mpr c3
  have c3b2 : (l0.length == l1.length) = true := by first | simpa using c3 | (simp at c3 ⊢; omega)
  clear c3
  have H' := zA H
  clear H
  go_enter Try.func44, Try.ntmps44
  go_wp2
  go_loopg [5] k (fun kq v5 w' => ∃ (x5_1 : Int), v5 = .int .i64 x5_1 ∧ Aside0 (zq_SameRecords.l0 kq l0 l1 x5_1 = some r) ∧ Aside0 (kq ≤ k) ∧ Aside0 (Below w.heap.size w w'))
  case atStart => exact ⟨(0), frs, H', ⟨Nat.le_refl _⟩, ⟨bel⟩⟩
  case round =>
   clear H'
   obtain ⟨x5_1, rfl, HA, HK1, HB⟩ := hrel
   cases gk with
   | zero => exact absurd HA.out (by simp [zq_SameRecords.l0])
   | succ k1 =>
    have H := HA.out
    clear HA
    simp only [zq_SameRecords.l0] at H
    by_cases c4 : x5_1 < (l0.length : Int)
    ·rw [if_pos c4] at H
     have c4b0 : decide (x5_1 < (l0.length : Int)) = true := decide_eq_true c4
     clear c4
     by_cases c5 : 0 ≤ x5_1
     ·rw [if_pos c5] at H
      have c5b0 : decide (0 ≤ x5_1) = true := decide_eq_true c5
      clear c5
      by_cases c6 : x5_1 < (l1.length : Int)
      ·rw [if_pos c6] at H
       have c6b0 : decide (x5_1 < (l1.length : Int)) = true := decide_eq_true c6
       clear c6
       replace H := Option.bind_eq_some_iff.mp H
       obtain ⟨t364, A70, H⟩ := H
       try dsimp only at H
       have A7 := zA A70
       clear A70
       by_cases c8 : t364 = true
       ·subst c8
        have H1 : (zq_SameRecords.l0 k1 l0 l1 (wrap64 (x5_1 + 1))) = some r := by rw [if_pos rfl] at H; exact H
        clear H
        have H := H1
        clear H1
        have H' := zA H
        clear H
        try go_wp2
        replace HB := zA (below_drew1 HB.out)
        have p362 : 0 ≤ (x5_1 : Int) := of_decide_eq_true asu
        have q362 : x5_1 < (l0.length : Int) := of_decide_eq_true asu
        obtain ⟨ad362, A362_9, c362_9, e362, hx362_0, hx362_1, hx362_2, hx362_3, hx362_4, hx362_5, hx362_6, hx362_7, hx362_8, hx362_9, hl362_9, hi362_9⟩ := at_T28 HR0.out x5_1 p362 q362
        have hw362_9 := hx362_9
        have hw362_8 := hx362_8
        have hw362_7 := hx362_7
        have hw362_6 := hx362_6
        have hw362_5 := hx362_5
        have hw362_4 := hx362_4
        have hw362_3 := hx362_3
        have hw362_2 := hx362_2
        have hw362_1 := hx362_1
        have hw362_0 := hx362_0
        cases e362
        replace hx362_0 := (HB.out.cell (World.block_lt_of_cell? w _ hx362_0)).trans hx362_0
        replace hx362_1 := (HB.out.cell (World.block_lt_of_cell? w _ hx362_1)).trans hx362_1
        replace hx362_2 := (HB.out.cell (World.block_lt_of_cell? w _ hx362_2)).trans hx362_2
        replace hx362_3 := (HB.out.cell (World.block_lt_of_cell? w _ hx362_3)).trans hx362_3
        replace hx362_4 := (HB.out.cell (World.block_lt_of_cell? w _ hx362_4)).trans hx362_4
        replace hx362_5 := (HB.out.cell (World.block_lt_of_cell? w _ hx362_5)).trans hx362_5
        replace hx362_6 := (HB.out.cell (World.block_lt_of_cell? w _ hx362_6)).trans hx362_6
        replace hx362_7 := (HB.out.cell (World.block_lt_of_cell? w _ hx362_7)).trans hx362_7
        replace hx362_8 := (HB.out.cell (World.block_lt_of_cell? w _ hx362_8)).trans hx362_8
        replace hx362_9 := (HB.out.cell (World.block_lt_of_cell? w _ hx362_9)).trans hx362_9
        have HR362_9 := zA hi362_9
        have HC362_9 := zA hl362_9
        clear hi362_9 hl362_9
        replace p362 := eq_true p362
        replace q362 := eq_true q362
        have p363 : 0 ≤ (x5_1 : Int) := of_decide_eq_true asu
        have q363 : x5_1 < (l1.length : Int) := of_decide_eq_true asu
        obtain ⟨ad363, A363_9, c363_9, e363, hx363_0, hx363_1, hx363_2, hx363_3, hx363_4, hx363_5, hx363_6, hx363_7, hx363_8, hx363_9, hl363_9, hi363_9⟩ := at_T28 HR1.out x5_1 p363 q363
        have hw363_9 := hx363_9
        have hw363_8 := hx363_8
        have hw363_7 := hx363_7
        have hw363_6 := hx363_6
        have hw363_5 := hx363_5
        have hw363_4 := hx363_4
        have hw363_3 := hx363_3
        have hw363_2 := hx363_2
        have hw363_1 := hx363_1
        have hw363_0 := hx363_0
        cases e363
        replace hx363_0 := (HB.out.cell (World.block_lt_of_cell? w _ hx363_0)).trans hx363_0
        replace hx363_1 := (HB.out.cell (World.block_lt_of_cell? w _ hx363_1)).trans hx363_1
        replace hx363_2 := (HB.out.cell (World.block_lt_of_cell? w _ hx363_2)).trans hx363_2
        replace hx363_3 := (HB.out.cell (World.block_lt_of_cell? w _ hx363_3)).trans hx363_3
        replace hx363_4 := (HB.out.cell (World.block_lt_of_cell? w _ hx363_4)).trans hx363_4
        replace hx363_5 := (HB.out.cell (World.block_lt_of_cell? w _ hx363_5)).trans hx363_5
        replace hx363_6 := (HB.out.cell (World.block_lt_of_cell? w _ hx363_6)).trans hx363_6
        replace hx363_7 := (HB.out.cell (World.block_lt_of_cell? w _ hx363_7)).trans hx363_7
        replace hx363_8 := (HB.out.cell (World.block_lt_of_cell? w _ hx363_8)).trans hx363_8
        replace hx363_9 := (HB.out.cell (World.block_lt_of_cell? w _ hx363_9)).trans hx363_9
        have HR363_9 := zA hi363_9
        have HC363_9 := zA hl363_9
        clear hi363_9 hl363_9
        replace p363 := eq_true p363
        replace q363 := eq_true q363
        refine start_ (n := 10) (S := fun w' => w'.cell? (ad362.add ((x5_1).toNat * 10)) = some (.int .i64 ((rd_T28 l0 x5_1).f0.f0)) ∧ w'.cell? ⟨(ad362.add ((x5_1).toNat * 10)).block, (ad362.add ((x5_1).toNat * 10)).off + 1, none⟩ = some (.int .i64 ((rd_T28 l0 x5_1).f0.f1)) ∧ w'.cell? ⟨(ad362.add ((x5_1).toNat * 10)).block, (ad362.add ((x5_1).toNat * 10)).off + 2, none⟩ = some (.int .i64 ((rd_T28 l0 x5_1).f1.f0)) ∧ w'.cell? ⟨(ad362.add ((x5_1).toNat * 10)).block, (ad362.add ((x5_1).toNat * 10)).off + 3, none⟩ = some (.int .i64 ((rd_T28 l0 x5_1).f1.f1)) ∧ w'.cell? ⟨(ad362.add ((x5_1).toNat * 10)).block, (ad362.add ((x5_1).toNat * 10)).off + 4, none⟩ = some (.int .i64 ((rd_T28 l0 x5_1).f1.f2)) ∧ w'.cell? ⟨(ad362.add ((x5_1).toNat * 10)).block, (ad362.add ((x5_1).toNat * 10)).off + 5, none⟩ = some (.int .i64 ((rd_T28 l0 x5_1).f2)) ∧ w'.cell? ⟨(ad362.add ((x5_1).toNat * 10)).block, (ad362.add ((x5_1).toNat * 10)).off + 6, none⟩ = some (.int .i64 ((rd_T28 l0 x5_1).f3)) ∧ w'.cell? ⟨(ad362.add ((x5_1).toNat * 10)).block, (ad362.add ((x5_1).toNat * 10)).off + 7, none⟩ = some (.bool ((rd_T28 l0 x5_1).f4)) ∧ w'.cell? ⟨(ad362.add ((x5_1).toNat * 10)).block, (ad362.add ((x5_1).toNat * 10)).off + 8, none⟩ = some (.int .i64 ((rd_T28 l0 x5_1).f5)) ∧ w'.cell? ⟨(ad362.add ((x5_1).toNat * 10)).block, (ad362.add ((x5_1).toNat * 10)).off + 9, none⟩ = some (.slice A362_9 ((rd_T28 l0 x5_1).f6).length c362_9) ∧ w'.cell? (ad363.add ((x5_1).toNat * 10)) = some (.int .i64 ((rd_T28 l1 x5_1).f0.f0)) ∧ w'.cell? ⟨(ad363.add ((x5_1).toNat * 10)).block, (ad363.add ((x5_1).toNat * 10)).off + 1, none⟩ = some (.int .i64 ((rd_T28 l1 x5_1).f0.f1)) ∧ w'.cell? ⟨(ad363.add ((x5_1).toNat * 10)).block, (ad363.add ((x5_1).toNat * 10)).off + 2, none⟩ = some (.int .i64 ((rd_T28 l1 x5_1).f1.f0)) ∧ w'.cell? ⟨(ad363.add ((x5_1).toNat * 10)).block, (ad363.add ((x5_1).toNat * 10)).off + 3, none⟩ = some (.int .i64 ((rd_T28 l1 x5_1).f1.f1)) ∧ w'.cell? ⟨(ad363.add ((x5_1).toNat * 10)).block, (ad363.add ((x5_1).toNat * 10)).off + 4, none⟩ = some (.int .i64 ((rd_T28 l1 x5_1).f1.f2)) ∧ w'.cell? ⟨(ad363.add ((x5_1).toNat * 10)).block, (ad363.add ((x5_1).toNat * 10)).off + 5, none⟩ = some (.int .i64 ((rd_T28 l1 x5_1).f2)) ∧ w'.cell? ⟨(ad363.add ((x5_1).toNat * 10)).block, (ad363.add ((x5_1).toNat * 10)).off + 6, none⟩ = some (.int .i64 ((rd_T28 l1 x5_1).f3)) ∧ w'.cell? ⟨(ad363.add ((x5_1).toNat * 10)).block, (ad363.add ((x5_1).toNat * 10)).off + 7, none⟩ = some (.bool ((rd_T28 l1 x5_1).f4)) ∧ w'.cell? ⟨(ad363.add ((x5_1).toNat * 10)).block, (ad363.add ((x5_1).toNat * 10)).off + 8, none⟩ = some (.int .i64 ((rd_T28 l1 x5_1).f5)) ∧ w'.cell? ⟨(ad363.add ((x5_1).toNat * 10)).block, (ad363.add ((x5_1).toNat * 10)).off + 9, none⟩ = some (.slice A363_9 ((rd_T28 l1 x5_1).f6).length c363_9)) (ds := []) (ms 10 0) (by kernel_rfl) rfl rfl ⟨((HB.out.cell (World.block_lt_of_cell? w _ hw362_0)).trans hw362_0), ((HB.out.cell (World.block_lt_of_cell? w _ hw362_1)).trans hw362_1), ((HB.out.cell (World.block_lt_of_cell? w _ hw362_2)).trans hw362_2), ((HB.out.cell (World.block_lt_of_cell? w _ hw362_3)).trans hw362_3), ((HB.out.cell (World.block_lt_of_cell? w _ hw362_4)).trans hw362_4), ((HB.out.cell (World.block_lt_of_cell? w _ hw362_5)).trans hw362_5), ((HB.out.cell (World.block_lt_of_cell? w _ hw362_6)).trans hw362_6), ((HB.out.cell (World.block_lt_of_cell? w _ hw362_7)).trans hw362_7), ((HB.out.cell (World.block_lt_of_cell? w _ hw362_8)).trans hw362_8), ((HB.out.cell (World.block_lt_of_cell? w _ hw362_9)).trans hw362_9), ((HB.out.cell (World.block_lt_of_cell? w _ hw363_0)).trans hw363_0), ((HB.out.cell (World.block_lt_of_cell? w _ hw363_1)).trans hw363_1), ((HB.out.cell (World.block_lt_of_cell? w _ hw363_2)).trans hw363_2), ((HB.out.cell (World.block_lt_of_cell? w _ hw363_3)).trans hw363_3), ((HB.out.cell (World.block_lt_of_cell? w _ hw363_4)).trans hw363_4), ((HB.out.cell (World.block_lt_of_cell? w _ hw363_5)).trans hw363_5), ((HB.out.cell (World.block_lt_of_cell? w _ hw363_6)).trans hw363_6), ((HB.out.cell (World.block_lt_of_cell? w _ hw363_7)).trans hw363_7), ((HB.out.cell (World.block_lt_of_cell? w _ hw363_8)).trans hw363_8), ((HB.out.cell (World.block_lt_of_cell? w _ hw363_9)).trans hw363_9)⟩ (fun hHeld => ?_); refine with_tabW zq_SameRecords.tab6 zq_SameRecords.bits6 (fun HT_ HW_ => ?_)
        generalize wr.drew = w9 at HB HR362_9 HR363_9 hx362_0 hx362_1 hx362_2 hx362_3 hx362_4 hx362_5 hx362_6 hx362_7 hx362_8 hx362_9 hx363_0 hx363_1 hx363_2 hx363_3 hx363_4 hx363_5 hx363_6 hx363_7 hx363_8 hx363_9 hHeld ⊢
        refine run_ [(0, false, some 17), (1, false, some 18), (2, false, some 19), (4, false, some 21), (5, false, some 22), (6, false, some 23), (3, true, some 20), (7, true, some 24)] (n := 8) (ms 10 255) rfl HT_.out HW_.out (by kernel_rfl) (fun _ _ _ _ h => h) hHeld ?_
        repeat (first | (refine Run.p (v := ?_) (a' := ?_) rfl rfl (Or.inl ⟨by rfl, ?_⟩) ?_ ?_; rotate_left; (focus intro w'; go_simp; with_reducible rfl); rotate_left; (focus simp only [Act.put, sx]; rfl)) | (refine Run.t (v := ?_) (a' := ?_) rfl rfl (Or.inl ⟨by rfl, ?_⟩) ?_ ?_; rotate_left; (focus rintro w' ⟨s0, s1, s2, s3, s4, s5, s6, s7, s8, s9, s10, s11, s12, s13, s14, s15, s16, s17, s18, s19⟩; go_simp; with_reducible rfl); rotate_left; (focus simp only [Act.put, sx]; rfl)))
        refine Run.nil ?_
        refine one_ (i := 8) (N := some 25) (ms 10 511) rfl rfl (one_of HT_.out (by kernel_rfl)) (by decide) (fun K hK => ?_)
        refine goes_ Try.func16 (by kernel_rfl) rfl #[.agg #[.int .i64 ((rd_T28 l0 x5_1).f0.f0), .int .i64 ((rd_T28 l0 x5_1).f0.f1), .int .i64 ((rd_T28 l0 x5_1).f1.f0), .int .i64 ((rd_T28 l0 x5_1).f1.f1), .int .i64 ((rd_T28 l0 x5_1).f1.f2), .int .i64 ((rd_T28 l0 x5_1).f2), .int .i64 ((rd_T28 l0 x5_1).f3), .bool ((rd_T28 l0 x5_1).f4), .int .i64 ((rd_T28 l0 x5_1).f5), .slice A362_9 ((rd_T28 l0 x5_1).f6).length c362_9], .agg #[.int .i64 ((rd_T28 l1 x5_1).f0.f0), .int .i64 ((rd_T28 l1 x5_1).f0.f1), .int .i64 ((rd_T28 l1 x5_1).f1.f0), .int .i64 ((rd_T28 l1 x5_1).f1.f1), .int .i64 ((rd_T28 l1 x5_1).f1.f2), .int .i64 ((rd_T28 l1 x5_1).f2), .int .i64 ((rd_T28 l1 x5_1).f3), .bool ((rd_T28 l1 x5_1).f4), .int .i64 ((rd_T28 l1 x5_1).f5), .slice A363_9 ((rd_T28 l1 x5_1).f6).length c363_9]] (by rfl) rfl rfl agl ?_
        with_reducible refine (zq_SameRecord.calls ((rd_T28 l0 x5_1).f0.f0) ((rd_T28 l0 x5_1).f0.f1) ((rd_T28 l0 x5_1).f1.f0) ((rd_T28 l0 x5_1).f1.f1) ((rd_T28 l0 x5_1).f1.f2) ((rd_T28 l0 x5_1).f2) ((rd_T28 l0 x5_1).f3) ((rd_T28 l0 x5_1).f4) ((rd_T28 l0 x5_1).f5) _ _ ((rd_T28 l0 x5_1).f6) ((rd_T28 l1 x5_1).f0.f0) ((rd_T28 l1 x5_1).f0.f1) ((rd_T28 l1 x5_1).f1.f0) ((rd_T28 l1 x5_1).f1.f1) ((rd_T28 l1 x5_1).f1.f2) ((rd_T28 l1 x5_1).f2) ((rd_T28 l1 x5_1).f3) ((rd_T28 l1 x5_1).f4) ((rd_T28 l1 x5_1).f5) _ _ ((rd_T28 l1 x5_1).f6) true _ ?side1 ?side2 ?side3 ?side4 A7.out).mono ?_
        (case side1 => repeat (first | exact (Kd.C_below HR362_9.out HB.out) | (with_reducible refine Kd.C_alloc ?_ _) | (with_reducible refine Kd.C_drewN ?_ _) | (with_reducible refine Kd.C_drew ?_)))
        (case side2 => exact HC362_9.out)
        (case side3 => repeat (first | exact (Kd.C_below HR363_9.out HB.out) | (with_reducible refine Kd.C_alloc ?_ _) | (with_reducible refine Kd.C_drewN ?_ _) | (with_reducible refine Kd.C_drew ?_)))
        (case side4 => exact HC363_9.out)
        rintro e w10 ⟨rfl, hb⟩
        refine ⟨_, rfl, ?_⟩
        replace HB := zA (belt hb)
        (try clear hb)
        (try clear hb2)
        (try clear hk)
        (try clear hi)
        refine hK.out _ _ ⟨((HB.out.cell (World.block_lt_of_cell? w _ hw362_0)).trans hw362_0), ((HB.out.cell (World.block_lt_of_cell? w _ hw362_1)).trans hw362_1), ((HB.out.cell (World.block_lt_of_cell? w _ hw362_2)).trans hw362_2), ((HB.out.cell (World.block_lt_of_cell? w _ hw362_3)).trans hw362_3), ((HB.out.cell (World.block_lt_of_cell? w _ hw362_4)).trans hw362_4), ((HB.out.cell (World.block_lt_of_cell? w _ hw362_5)).trans hw362_5), ((HB.out.cell (World.block_lt_of_cell? w _ hw362_6)).trans hw362_6), ((HB.out.cell (World.block_lt_of_cell? w _ hw362_7)).trans hw362_7), ((HB.out.cell (World.block_lt_of_cell? w _ hw362_8)).trans hw362_8), ((HB.out.cell (World.block_lt_of_cell? w _ hw362_9)).trans hw362_9), ((HB.out.cell (World.block_lt_of_cell? w _ hw363_0)).trans hw363_0), ((HB.out.cell (World.block_lt_of_cell? w _ hw363_1)).trans hw363_1), ((HB.out.cell (World.block_lt_of_cell? w _ hw363_2)).trans hw363_2), ((HB.out.cell (World.block_lt_of_cell? w _ hw363_3)).trans hw363_3), ((HB.out.cell (World.block_lt_of_cell? w _ hw363_4)).trans hw363_4), ((HB.out.cell (World.block_lt_of_cell? w _ hw363_5)).trans hw363_5), ((HB.out.cell (World.block_lt_of_cell? w _ hw363_6)).trans hw363_6), ((HB.out.cell (World.block_lt_of_cell? w _ hw363_7)).trans hw363_7), ((HB.out.cell (World.block_lt_of_cell? w _ hw363_8)).trans hw363_8), ((HB.out.cell (World.block_lt_of_cell? w _ hw363_9)).trans hw363_9)⟩ (fun hHeld => ?_)
        clear hK K
        refine norm_ (a' := ?_) ?_ ?_
        rotate_left
        ·show Act.put _ (some 25) _ = _
         simp only [Act.put, sx]
         rfl
        refine pure_ (i := 9) (N := some 26) (v := ?_) (a' := ?_) (ms 10 1023) rfl rfl (any_of HT_.out (by kernel_rfl)) (fun _ _ _ h => h) (Or.inl ⟨by rfl, ?_⟩) ?_ ?_
        rotate_left
        ·intro w'
         go_simp
         with_reducible rfl
        rotate_left
        ·simp only [Act.put, sx]
         rfl
        refine done_ (done_of HT_.out (by kernel_rfl)) ?_
        try go_wp2
        go_roundg k1
        case measure => have := HK1.out; omega
        case rel => exact ⟨(wrap64 (x5_1 + 1)), frs, H', ⟨by have := HK1.out; omega⟩, ⟨bel⟩⟩
       ·replace c8 := Bool.eq_false_iff.mpr c8
        subst c8
        have H1 : (some false) = some r := by rw [if_neg (show ¬ (false = true) by decide)] at H; exact H
        clear H
        have H := H1
        clear H1
        obtain rfl := Option.some.inj H
        try go_wp2
        replace HB := zA (below_drew1 HB.out)
        have p362 : 0 ≤ (x5_1 : Int) := of_decide_eq_true asu
        have q362 : x5_1 < (l0.length : Int) := of_decide_eq_true asu
        obtain ⟨ad362, A362_9, c362_9, e362, hx362_0, hx362_1, hx362_2, hx362_3, hx362_4, hx362_5, hx362_6, hx362_7, hx362_8, hx362_9, hl362_9, hi362_9⟩ := at_T28 HR0.out x5_1 p362 q362
        have hw362_9 := hx362_9
        have hw362_8 := hx362_8
        have hw362_7 := hx362_7
        have hw362_6 := hx362_6
        have hw362_5 := hx362_5
        have hw362_4 := hx362_4
        have hw362_3 := hx362_3
        have hw362_2 := hx362_2
        have hw362_1 := hx362_1
        have hw362_0 := hx362_0
        cases e362
        replace hx362_0 := (HB.out.cell (World.block_lt_of_cell? w _ hx362_0)).trans hx362_0
        replace hx362_1 := (HB.out.cell (World.block_lt_of_cell? w _ hx362_1)).trans hx362_1
        replace hx362_2 := (HB.out.cell (World.block_lt_of_cell? w _ hx362_2)).trans hx362_2
        replace hx362_3 := (HB.out.cell (World.block_lt_of_cell? w _ hx362_3)).trans hx362_3
        replace hx362_4 := (HB.out.cell (World.block_lt_of_cell? w _ hx362_4)).trans hx362_4
        replace hx362_5 := (HB.out.cell (World.block_lt_of_cell? w _ hx362_5)).trans hx362_5
        replace hx362_6 := (HB.out.cell (World.block_lt_of_cell? w _ hx362_6)).trans hx362_6
        replace hx362_7 := (HB.out.cell (World.block_lt_of_cell? w _ hx362_7)).trans hx362_7
        replace hx362_8 := (HB.out.cell (World.block_lt_of_cell? w _ hx362_8)).trans hx362_8
        replace hx362_9 := (HB.out.cell (World.block_lt_of_cell? w _ hx362_9)).trans hx362_9
        have HR362_9 := zA hi362_9
        have HC362_9 := zA hl362_9
        clear hi362_9 hl362_9
        replace p362 := eq_true p362
        replace q362 := eq_true q362
        have p363 : 0 ≤ (x5_1 : Int) := of_decide_eq_true asu
        have q363 : x5_1 < (l1.length : Int) := of_decide_eq_true asu
        obtain ⟨ad363, A363_9, c363_9, e363, hx363_0, hx363_1, hx363_2, hx363_3, hx363_4, hx363_5, hx363_6, hx363_7, hx363_8, hx363_9, hl363_9, hi363_9⟩ := at_T28 HR1.out x5_1 p363 q363
        have hw363_9 := hx363_9
        have hw363_8 := hx363_8
        have hw363_7 := hx363_7
        have hw363_6 := hx363_6
        have hw363_5 := hx363_5
        have hw363_4 := hx363_4
        have hw363_3 := hx363_3
        have hw363_2 := hx363_2
        have hw363_1 := hx363_1
        have hw363_0 := hx363_0
        cases e363
        replace hx363_0 := (HB.out.cell (World.block_lt_of_cell? w _ hx363_0)).trans hx363_0
        replace hx363_1 := (HB.out.cell (World.block_lt_of_cell? w _ hx363_1)).trans hx363_1
        replace hx363_2 := (HB.out.cell (World.block_lt_of_cell? w _ hx363_2)).trans hx363_2
        replace hx363_3 := (HB.out.cell (World.block_lt_of_cell? w _ hx363_3)).trans hx363_3
        replace hx363_4 := (HB.out.cell (World.block_lt_of_cell? w _ hx363_4)).trans hx363_4
        replace hx363_5 := (HB.out.cell (World.block_lt_of_cell? w _ hx363_5)).trans hx363_5
        replace hx363_6 := (HB.out.cell (World.block_lt_of_cell? w _ hx363_6)).trans hx363_6
        replace hx363_7 := (HB.out.cell (World.block_lt_of_cell? w _ hx363_7)).trans hx363_7
        replace hx363_8 := (HB.out.cell (World.block_lt_of_cell? w _ hx363_8)).trans hx363_8
        replace hx363_9 := (HB.out.cell (World.block_lt_of_cell? w _ hx363_9)).trans hx363_9
        have HR363_9 := zA hi363_9
        have HC363_9 := zA hl363_9
        clear hi363_9 hl363_9
        replace p363 := eq_true p363
        replace q363 := eq_true q363
        refine start_ (n := 10) (S := fun w' => w'.cell? (ad362.add ((x5_1).toNat * 10)) = some (.int .i64 ((rd_T28 l0 x5_1).f0.f0)) ∧ w'.cell? ⟨(ad362.add ((x5_1).toNat * 10)).block, (ad362.add ((x5_1).toNat * 10)).off + 1, none⟩ = some (.int .i64 ((rd_T28 l0 x5_1).f0.f1)) ∧ w'.cell? ⟨(ad362.add ((x5_1).toNat * 10)).block, (ad362.add ((x5_1).toNat * 10)).off + 2, none⟩ = some (.int .i64 ((rd_T28 l0 x5_1).f1.f0)) ∧ w'.cell? ⟨(ad362.add ((x5_1).toNat * 10)).block, (ad362.add ((x5_1).toNat * 10)).off + 3, none⟩ = some (.int .i64 ((rd_T28 l0 x5_1).f1.f1)) ∧ w'.cell? ⟨(ad362.add ((x5_1).toNat * 10)).block, (ad362.add ((x5_1).toNat * 10)).off + 4, none⟩ = some (.int .i64 ((rd_T28 l0 x5_1).f1.f2)) ∧ w'.cell? ⟨(ad362.add ((x5_1).toNat * 10)).block, (ad362.add ((x5_1).toNat * 10)).off + 5, none⟩ = some (.int .i64 ((rd_T28 l0 x5_1).f2)) ∧ w'.cell? ⟨(ad362.add ((x5_1).toNat * 10)).block, (ad362.add ((x5_1).toNat * 10)).off + 6, none⟩ = some (.int .i64 ((rd_T28 l0 x5_1).f3)) ∧ w'.cell? ⟨(ad362.add ((x5_1).toNat * 10)).block, (ad362.add ((x5_1).toNat * 10)).off + 7, none⟩ = some (.bool ((rd_T28 l0 x5_1).f4)) ∧ w'.cell? ⟨(ad362.add ((x5_1).toNat * 10)).block, (ad362.add ((x5_1).toNat * 10)).off + 8, none⟩ = some (.int .i64 ((rd_T28 l0 x5_1).f5)) ∧ w'.cell? ⟨(ad362.add ((x5_1).toNat * 10)).block, (ad362.add ((x5_1).toNat * 10)).off + 9, none⟩ = some (.slice A362_9 ((rd_T28 l0 x5_1).f6).length c362_9) ∧ w'.cell? (ad363.add ((x5_1).toNat * 10)) = some (.int .i64 ((rd_T28 l1 x5_1).f0.f0)) ∧ w'.cell? ⟨(ad363.add ((x5_1).toNat * 10)).block, (ad363.add ((x5_1).toNat * 10)).off + 1, none⟩ = some (.int .i64 ((rd_T28 l1 x5_1).f0.f1)) ∧ w'.cell? ⟨(ad363.add ((x5_1).toNat * 10)).block, (ad363.add ((x5_1).toNat * 10)).off + 2, none⟩ = some (.int .i64 ((rd_T28 l1 x5_1).f1.f0)) ∧ w'.cell? ⟨(ad363.add ((x5_1).toNat * 10)).block, (ad363.add ((x5_1).toNat * 10)).off + 3, none⟩ = some (.int .i64 ((rd_T28 l1 x5_1).f1.f1)) ∧ w'.cell? ⟨(ad363.add ((x5_1).toNat * 10)).block, (ad363.add ((x5_1).toNat * 10)).off + 4, none⟩ = some (.int .i64 ((rd_T28 l1 x5_1).f1.f2)) ∧ w'.cell? ⟨(ad363.add ((x5_1).toNat * 10)).block, (ad363.add ((x5_1).toNat * 10)).off + 5, none⟩ = some (.int .i64 ((rd_T28 l1 x5_1).f2)) ∧ w'.cell? ⟨(ad363.add ((x5_1).toNat * 10)).block, (ad363.add ((x5_1).toNat * 10)).off + 6, none⟩ = some (.int .i64 ((rd_T28 l1 x5_1).f3)) ∧ w'.cell? ⟨(ad363.add ((x5_1).toNat * 10)).block, (ad363.add ((x5_1).toNat * 10)).off + 7, none⟩ = some (.bool ((rd_T28 l1 x5_1).f4)) ∧ w'.cell? ⟨(ad363.add ((x5_1).toNat * 10)).block, (ad363.add ((x5_1).toNat * 10)).off + 8, none⟩ = some (.int .i64 ((rd_T28 l1 x5_1).f5)) ∧ w'.cell? ⟨(ad363.add ((x5_1).toNat * 10)).block, (ad363.add ((x5_1).toNat * 10)).off + 9, none⟩ = some (.slice A363_9 ((rd_T28 l1 x5_1).f6).length c363_9)) (ds := []) (ms 10 0) (by kernel_rfl) rfl rfl ⟨((HB.out.cell (World.block_lt_of_cell? w _ hw362_0)).trans hw362_0), ((HB.out.cell (World.block_lt_of_cell? w _ hw362_1)).trans hw362_1), ((HB.out.cell (World.block_lt_of_cell? w _ hw362_2)).trans hw362_2), ((HB.out.cell (World.block_lt_of_cell? w _ hw362_3)).trans hw362_3), ((HB.out.cell (World.block_lt_of_cell? w _ hw362_4)).trans hw362_4), ((HB.out.cell (World.block_lt_of_cell? w _ hw362_5)).trans hw362_5), ((HB.out.cell (World.block_lt_of_cell? w _ hw362_6)).trans hw362_6), ((HB.out.cell (World.block_lt_of_cell? w _ hw362_7)).trans hw362_7), ((HB.out.cell (World.block_lt_of_cell? w _ hw362_8)).trans hw362_8), ((HB.out.cell (World.block_lt_of_cell? w _ hw362_9)).trans hw362_9), ((HB.out.cell (World.block_lt_of_cell? w _ hw363_0)).trans hw363_0), ((HB.out.cell (World.block_lt_of_cell? w _ hw363_1)).trans hw363_1), ((HB.out.cell (World.block_lt_of_cell? w _ hw363_2)).trans hw363_2), ((HB.out.cell (World.block_lt_of_cell? w _ hw363_3)).trans hw363_3), ((HB.out.cell (World.block_lt_of_cell? w _ hw363_4)).trans hw363_4), ((HB.out.cell (World.block_lt_of_cell? w _ hw363_5)).trans hw363_5), ((HB.out.cell (World.block_lt_of_cell? w _ hw363_6)).trans hw363_6), ((HB.out.cell (World.block_lt_of_cell? w _ hw363_7)).trans hw363_7), ((HB.out.cell (World.block_lt_of_cell? w _ hw363_8)).trans hw363_8), ((HB.out.cell (World.block_lt_of_cell? w _ hw363_9)).trans hw363_9)⟩ (fun hHeld => ?_); refine with_tabW zq_SameRecords.tab6 zq_SameRecords.bits6 (fun HT_ HW_ => ?_)
        generalize wr.drew = w11 at HB HR362_9 HR363_9 hx362_0 hx362_1 hx362_2 hx362_3 hx362_4 hx362_5 hx362_6 hx362_7 hx362_8 hx362_9 hx363_0 hx363_1 hx363_2 hx363_3 hx363_4 hx363_5 hx363_6 hx363_7 hx363_8 hx363_9 hHeld ⊢
        refine run_ [(0, false, some 17), (1, false, some 18), (2, false, some 19), (4, false, some 21), (5, false, some 22), (6, false, some 23), (3, true, some 20), (7, true, some 24)] (n := 8) (ms 10 255) rfl HT_.out HW_.out (by kernel_rfl) (fun _ _ _ _ h => h) hHeld ?_
        repeat (first | (refine Run.p (v := ?_) (a' := ?_) rfl rfl (Or.inl ⟨by rfl, ?_⟩) ?_ ?_; rotate_left; (focus intro w'; go_simp; with_reducible rfl); rotate_left; (focus simp only [Act.put, sx]; rfl)) | (refine Run.t (v := ?_) (a' := ?_) rfl rfl (Or.inl ⟨by rfl, ?_⟩) ?_ ?_; rotate_left; (focus rintro w' ⟨s0, s1, s2, s3, s4, s5, s6, s7, s8, s9, s10, s11, s12, s13, s14, s15, s16, s17, s18, s19⟩; go_simp; with_reducible rfl); rotate_left; (focus simp only [Act.put, sx]; rfl)))
        refine Run.nil ?_
        refine one_ (i := 8) (N := some 25) (ms 10 511) rfl rfl (one_of HT_.out (by kernel_rfl)) (by decide) (fun K hK => ?_)
        refine goes_ Try.func16 (by kernel_rfl) rfl #[.agg #[.int .i64 ((rd_T28 l0 x5_1).f0.f0), .int .i64 ((rd_T28 l0 x5_1).f0.f1), .int .i64 ((rd_T28 l0 x5_1).f1.f0), .int .i64 ((rd_T28 l0 x5_1).f1.f1), .int .i64 ((rd_T28 l0 x5_1).f1.f2), .int .i64 ((rd_T28 l0 x5_1).f2), .int .i64 ((rd_T28 l0 x5_1).f3), .bool ((rd_T28 l0 x5_1).f4), .int .i64 ((rd_T28 l0 x5_1).f5), .slice A362_9 ((rd_T28 l0 x5_1).f6).length c362_9], .agg #[.int .i64 ((rd_T28 l1 x5_1).f0.f0), .int .i64 ((rd_T28 l1 x5_1).f0.f1), .int .i64 ((rd_T28 l1 x5_1).f1.f0), .int .i64 ((rd_T28 l1 x5_1).f1.f1), .int .i64 ((rd_T28 l1 x5_1).f1.f2), .int .i64 ((rd_T28 l1 x5_1).f2), .int .i64 ((rd_T28 l1 x5_1).f3), .bool ((rd_T28 l1 x5_1).f4), .int .i64 ((rd_T28 l1 x5_1).f5), .slice A363_9 ((rd_T28 l1 x5_1).f6).length c363_9]] (by rfl) rfl rfl agl ?_
        with_reducible refine (zq_SameRecord.calls ((rd_T28 l0 x5_1).f0.f0) ((rd_T28 l0 x5_1).f0.f1) ((rd_T28 l0 x5_1).f1.f0) ((rd_T28 l0 x5_1).f1.f1) ((rd_T28 l0 x5_1).f1.f2) ((rd_T28 l0 x5_1).f2) ((rd_T28 l0 x5_1).f3) ((rd_T28 l0 x5_1).f4) ((rd_T28 l0 x5_1).f5) _ _ ((rd_T28 l0 x5_1).f6) ((rd_T28 l1 x5_1).f0.f0) ((rd_T28 l1 x5_1).f0.f1) ((rd_T28 l1 x5_1).f1.f0) ((rd_T28 l1 x5_1).f1.f1) ((rd_T28 l1 x5_1).f1.f2) ((rd_T28 l1 x5_1).f2) ((rd_T28 l1 x5_1).f3) ((rd_T28 l1 x5_1).f4) ((rd_T28 l1 x5_1).f5) _ _ ((rd_T28 l1 x5_1).f6) false _ ?side1 ?side2 ?side3 ?side4 A7.out).mono ?_
        (case side1 => repeat (first | exact (Kd.C_below HR362_9.out HB.out) | (with_reducible refine Kd.C_alloc ?_ _) | (with_reducible refine Kd.C_drewN ?_ _) | (with_reducible refine Kd.C_drew ?_)))
        (case side2 => exact HC362_9.out)
        (case side3 => repeat (first | exact (Kd.C_below HR363_9.out HB.out) | (with_reducible refine Kd.C_alloc ?_ _) | (with_reducible refine Kd.C_drewN ?_ _) | (with_reducible refine Kd.C_drew ?_)))
        (case side4 => exact HC363_9.out)
        rintro e w12 ⟨rfl, hb⟩
        refine ⟨_, rfl, ?_⟩
        replace HB := zA (belt hb)
        (try clear hb)
        (try clear hb2)
        (try clear hk)
        (try clear hi)
        refine hK.out _ _ ⟨((HB.out.cell (World.block_lt_of_cell? w _ hw362_0)).trans hw362_0), ((HB.out.cell (World.block_lt_of_cell? w _ hw362_1)).trans hw362_1), ((HB.out.cell (World.block_lt_of_cell? w _ hw362_2)).trans hw362_2), ((HB.out.cell (World.block_lt_of_cell? w _ hw362_3)).trans hw362_3), ((HB.out.cell (World.block_lt_of_cell? w _ hw362_4)).trans hw362_4), ((HB.out.cell (World.block_lt_of_cell? w _ hw362_5)).trans hw362_5), ((HB.out.cell (World.block_lt_of_cell? w _ hw362_6)).trans hw362_6), ((HB.out.cell (World.block_lt_of_cell? w _ hw362_7)).trans hw362_7), ((HB.out.cell (World.block_lt_of_cell? w _ hw362_8)).trans hw362_8), ((HB.out.cell (World.block_lt_of_cell? w _ hw362_9)).trans hw362_9), ((HB.out.cell (World.block_lt_of_cell? w _ hw363_0)).trans hw363_0), ((HB.out.cell (World.block_lt_of_cell? w _ hw363_1)).trans hw363_1), ((HB.out.cell (World.block_lt_of_cell? w _ hw363_2)).trans hw363_2), ((HB.out.cell (World.block_lt_of_cell? w _ hw363_3)).trans hw363_3), ((HB.out.cell (World.block_lt_of_cell? w _ hw363_4)).trans hw363_4), ((HB.out.cell (World.block_lt_of_cell? w _ hw363_5)).trans hw363_5), ((HB.out.cell (World.block_lt_of_cell? w _ hw363_6)).trans hw363_6), ((HB.out.cell (World.block_lt_of_cell? w _ hw363_7)).trans hw363_7), ((HB.out.cell (World.block_lt_of_cell? w _ hw363_8)).trans hw363_8), ((HB.out.cell (World.block_lt_of_cell? w _ hw363_9)).trans hw363_9)⟩ (fun hHeld => ?_)
        clear hK K
        refine norm_ (a' := ?_) ?_ ?_
        rotate_left
        ·show Act.put _ (some 25) _ = _
         simp only [Act.put, sx]
         rfl
        refine pure_ (i := 9) (N := some 26) (v := ?_) (a' := ?_) (ms 10 1023) rfl rfl (any_of HT_.out (by kernel_rfl)) (fun _ _ _ h => h) (Or.inl ⟨by rfl, ?_⟩) ?_ ?_
        rotate_left
        ·intro w'
         go_simp
         with_reducible rfl
        rotate_left
        ·simp only [Act.put, sx]
         rfl
        refine done_ (done_of HT_.out (by kernel_rfl)) ?_
        try go_wp2
        go_ret
        exact ⟨by first | rfl | (simp [errW_none, errW_some] <;> rfl) | (simp [*, errW_none, errW_some] <;> rfl), bel⟩
      ·rw [if_neg c6] at H
       exact absurd H (by simp)
     ·rw [if_neg c5] at H
      exact absurd H (by simp)
    ·rw [if_neg c4] at H
     have c4b0 : decide (x5_1 < (l0.length : Int)) = false := decide_eq_false c4
     clear c4
     obtain rfl := Option.some.inj H
     go_wp2
     go_ret
     exact ⟨by first | rfl | (simp [errW_none, errW_some] <;> rfl) | (simp [*, errW_none, errW_some] <;> rfl), bel⟩
 ·rw [if_neg c3] at H
  have c3b0 : ((l0.length : Int) == (l1.length : Int)) = false := beq_eq_false_iff_ne.mpr c3
  have c3b1 : ((l0.length : Int) != (l1.length : Int)) = true := bne_iff_ne.mpr c3
  have c3b2 : (l0.length == l1.length) = false := by first | simpa using c3 | (simp at c3 ⊢; omega)
  obtain rfl := Option.some.inj H
  go_enter Try.func44, Try.ntmps44
  go_wp2
  go_ret
  exact ⟨by first | rfl | (simp [errW_none, errW_some] <;> rfl) | (simp [*, errW_none, errW_some] <;> rfl), bel⟩
def zq_SameLetter.f (k : Nat) (a0_0 : Int) (a0_1 : Int) (a0_2 : Int) (a0_3 : Int) (a0_4 : Int) (a0_5 : Int) (l0_6 : List Int) (l0_7 : List (S28)) (a1_0 : Int) (a1_1 : Int) (a1_2 : Int) (a1_3 : Int) (a1_4 : Int) (a1_5 : Int) (l1_6 : List Int) (l1_7 : List (S28)) : Option (Bool) := if a0_0 = a1_0 then (if a0_1 = a1_1 then (if a0_2 = a1_2 then (if a0_3 = a1_3 then (if (a0_4 == a1_4 && (a0_5 == a1_5)) = true then ((zp_SameInts.f k l0_6 l1_6).bind fun t367 => (if t367 = true then ((zq_SameRecords.f k l0_7 l1_7).bind fun t368 => (some t368)) else (some false))) else (some false)) else (some false)) else (some false)) else (some false)) else (some false)
theorem zq_SameLetter.calls (k : Nat) (a0_0 : Int) (a0_1 : Int) (a0_2 : Int) (a0_3 : Int) (a0_4 : Int) (a0_5 : Int) (A0_6 : Option Addr) (c0_6 : Nat) (l0_6 : List Int) (A0_7 : Option Addr) (c0_7 : Nat) (l0_7 : List (S28)) (a1_0 : Int) (a1_1 : Int) (a1_2 : Int) (a1_3 : Int) (a1_4 : Int) (a1_5 : Int) (A1_6 : Option Addr) (c1_6 : Nat) (l1_6 : List Int) (A1_7 : Option Addr) (c1_7 : Nat) (l1_7 : List (S28)) (r : Bool) (w : World) (hr0_6 : Kd.C (Kd.int .i64) w A0_6 l0_6.length l0_6) (hc0_6 : l0_6.length ≤ c0_6) (hr0_7 : Kd.C k28 w A0_7 l0_7.length l0_7) (hc0_7 : l0_7.length ≤ c0_7) (hr1_6 : Kd.C (Kd.int .i64) w A1_6 l1_6.length l1_6) (hc1_6 : l1_6.length ≤ c1_6) (hr1_7 : Kd.C k28 w A1_7 l1_7.length l1_7) (hc1_7 : l1_7.length ≤ c1_7) (h : zq_SameLetter.f k a0_0 a0_1 a0_2 a0_3 a0_4 a0_5 l0_6 l0_7 a1_0 a1_1 a1_2 a1_3 a1_4 a1_5 l1_6 l1_7 = some r) :
 Calls Try.prog 24 #[.agg #[.int .i64 a0_0, .int .i64 a0_1, .int .i64 a0_2, .int .i64 a0_3, .int .i64 a0_4, .int .i64 a0_5, .slice A0_6 l0_6.length c0_6, .slice A0_7 l0_7.length c0_7], .agg #[.int .i64 a1_0, .int .i64 a1_1, .int .i64 a1_2, .int .i64 a1_3, .int .i64 a1_4, .int .i64 a1_5, .slice A1_6 l1_6.length c1_6, .slice A1_7 l1_7.length c1_7]] w fun e w' => e = .returned (.bool r) ∧ Below w.heap.size w w' := by
 have hu45 := Try.underlying45
 have hu23 := Try.underlying23
 have HR0_6 := zA hr0_6
 have HC0_6 := zA hc0_6
 clear hr0_6 hc0_6
 have HR0_7 := zA hr0_7
 have HC0_7 := zA hc0_7
 clear hr0_7 hc0_7
 have HR1_6 := zA hr1_6
 have HC1_6 := zA hc1_6
 clear hr1_6 hc1_6
 have HR1_7 := zA hr1_7
 have HC1_7 := zA hc1_7
 clear hr1_7 hc1_7
 have HB := zA (Below.refl w.heap.size w)
 have H : (if a0_0 = a1_0 then (if a0_1 = a1_1 then (if a0_2 = a1_2 then (if a0_3 = a1_3 then (if (a0_4 == a1_4 && (a0_5 == a1_5)) = true then ((zp_SameInts.f k l0_6 l1_6).bind fun t367 => (if t367 = true then ((zq_SameRecords.f k l0_7 l1_7).bind fun t368 => (some t368)) else (some false))) else (some false)) else (some false)) else (some false)) else (some false)) else (some false)) = some r := h
 clear h
 by_cases c3 : a0_0 = a1_0
 ·rw [if_pos c3] at H
  have c3b0 : (a0_0 == a1_0) = true := beq_iff_eq.mpr c3
  have c3b1 : (a0_0 != a1_0) = false := bne_eq_false_iff_eq.mpr c3
  clear c3
  by_cases c4 : a0_1 = a1_1
  ·rw [if_pos c4] at H
   have c4b0 : (a0_1 == a1_1) = true := beq_iff_eq.mpr c4
   have c4b1 : (a0_1 != a1_1) = false := bne_eq_false_iff_eq.mpr c4
   clear c4
   by_cases c5 : a0_2 = a1_2
   ·rw [if_pos c5] at H
    have c5b0 : (a0_2 == a1_2) = true := beq_iff_eq.mpr c5
    have c5b1 : (a0_2 != a1_2) = false := bne_eq_false_iff_eq.mpr c5
    clear c5
    by_cases c6 : a0_3 = a1_3
    ·rw [if_pos c6] at H
     have c6b0 : (a0_3 == a1_3) = true := beq_iff_eq.mpr c6
     have c6b1 : (a0_3 != a1_3) = false := bne_eq_false_iff_eq.mpr c6
     clear c6
     by_cases c7 : (a0_4 == a1_4 && (a0_5 == a1_5)) = true
     ·rw [if_pos c7] at H
      have c7b0 : (a0_4 == a1_4 && (a0_5 == a1_5)) = true := c7
      (try (have c7b1 : decide (a0_4 = a1_4 && (a0_5 == a1_5)) = true := by simpa using c7))
      (try (have c7b2 : (a0_4 == a1_4 && (a0_5 == a1_5)) = true := by simpa using c7))
      clear c7
      replace H := Option.bind_eq_some_iff.mp H
      obtain ⟨t367, A80, H⟩ := H
      try dsimp only at H
      have A8 := zA A80
      clear A80
      by_cases c9 : t367 = true
      ·subst c9
       have H1 : ((zq_SameRecords.f k l0_7 l1_7).bind fun t368 => (some t368)) = some r := by rw [if_pos rfl] at H; exact H
       clear H
       have H := H1
       clear H1
       replace H := Option.bind_eq_some_iff.mp H
       obtain ⟨t368, A100, H⟩ := H
       try dsimp only at H
       have A10 := zA A100
       clear A100
       obtain rfl := Option.some.inj H
       go_enter Try.func24, Try.ntmps24
       go_wp2_with (first | ((with_reducible refine gate_dst (N := 2) rfl ?_); refine box_event ?hg (N := 2) ?hd (cs := #[.int .i64 a0_0, .int .i64 a0_1, .int .i64 a0_2, .int .i64 a0_3, .int .i64 a0_4, .int .i64 a0_5, .slice A0_6 l0_6.length c0_6, .slice A0_7 l0_7.length c0_7]) (t := 45) ?hr ?_; (case hd => rfl); (case hg => rfl); (case hr => first | (go_simp; done) | (go_simp; rfl)); intro gb365 hg w11 hbox hb; have BK365 := zA (hbox); have GW365 := zA ((by rw [hg]; exact bels : w.heap.size ≤ gb365)); have GE365 := zA ((by rw [hg]; exact bels : w.heap.size ≤ gb365)); replace HB := zA (belt hb); clear hb hbox hg) | ((with_reducible refine gate_dst (N := 3) rfl ?_); refine box_event ?hg (N := 3) ?hd (cs := #[.int .i64 a1_0, .int .i64 a1_1, .int .i64 a1_2, .int .i64 a1_3, .int .i64 a1_4, .int .i64 a1_5, .slice A1_6 l1_6.length c1_6, .slice A1_7 l1_7.length c1_7]) (t := 45) ?hr ?_; (case hd => rfl); (case hg => rfl); (case hr => first | (go_simp; done) | (go_simp; rfl)); intro gb366 hg w12 hbox hb; have BK366 := zA (hbox); have GW366 := zA ((by rw [hg]; exact bels : w.heap.size ≤ gb366)); have GE366 := zA ((by rw [hg]; exact bels : w.heap.size ≤ gb366)); have NB365_366 := zA ((by rw [hg]; exact Nat.ne_of_lt (blk_lt (g := gb365) (o := .cells #[.int .i64 a0_0, .int .i64 a0_1, .int .i64 a0_2, .int .i64 a0_3, .int .i64 a0_4, .int .i64 a0_5, .slice A0_6 l0_6.length c0_6, .slice A0_7 l0_7.length c0_7] 45 (0, 0)) (blk_g BK365.out)) : gb365 ≠ gb366)); have NB366_365 := zA ((by rw [hg]; exact Nat.ne_of_gt (blk_lt (g := gb365) (o := .cells #[.int .i64 a0_0, .int .i64 a0_1, .int .i64 a0_2, .int .i64 a0_3, .int .i64 a0_4, .int .i64 a0_5, .slice A0_6 l0_6.length c0_6, .slice A0_7 l0_7.length c0_7] 45 (0, 0)) (blk_g BK365.out)) : gb366 ≠ gb365)); replace BK365 := zA (blk_below (g := gb365) (o := .cells #[.int .i64 a0_0, .int .i64 a0_1, .int .i64 a0_2, .int .i64 a0_3, .int .i64 a0_4, .int .i64 a0_5, .slice A0_6 l0_6.length c0_6, .slice A0_7 l0_7.length c0_7] 45 (0, 0)) (blk_g BK365.out) hb); replace HB := zA (belt hb); clear hb hbox hg; have hnb13 := NB365_366.out; have hnc13 := NB366_365.out; obtain ⟨hcz14_0, hcz14_1, hcz14_2, hcz14_3, hcz14_4, hcz14_5, hcz14_6, hcz14_7⟩ := bx8 BK365.out; obtain ⟨hfz14_0, hfz14_1, hfz14_2, hfz14_3, hfz14_4, hfz14_5, hfz14_6, hfz14_7⟩ := fz8 BK365.out; obtain ⟨hcz15_0, hcz15_1, hcz15_2, hcz15_3, hcz15_4, hcz15_5, hcz15_6, hcz15_7⟩ := bx8 BK366.out; obtain ⟨hfz15_0, hfz15_1, hfz15_2, hfz15_3, hfz15_4, hfz15_5, hfz15_6, hfz15_7⟩ := fz8 BK366.out) | (go_at_call 43; (with_reducible refine (zp_SameInts.calls k _ _ l0_6 _ _ l1_6 true _ ?side1 ?side2 ?side3 ?side4 A8.out).mono ?_); (case side1 => repeat (first | exact (Kd.C_below HR0_6.out HB.out) | (with_reducible refine Kd.C_alloc ?_ _) | (with_reducible refine Kd.C_drewN ?_ _) | (with_reducible refine Kd.C_drew ?_))); (case side2 => exact HC0_6.out); (case side3 => repeat (first | exact (Kd.C_below HR1_6.out HB.out) | (with_reducible refine Kd.C_alloc ?_ _) | (with_reducible refine Kd.C_drewN ?_ _) | (with_reducible refine Kd.C_drew ?_))); (case side4 => exact HC1_6.out); rintro e w' ⟨rfl, ⟨nd, rfl⟩⟩) | (go_at_call 44; (with_reducible refine (zq_SameRecords.calls k _ _ l0_7 _ _ l1_7 t368 _ ?side1 ?side2 ?side3 ?side4 A10.out).mono ?_); (case side1 => repeat (first | exact (Kd.C_below HR0_7.out bel) | (with_reducible refine Kd.C_alloc ?_ _) | (with_reducible refine Kd.C_drewN ?_ _) | (with_reducible refine Kd.C_drew ?_))); (case side2 => exact HC0_7.out); (case side3 => repeat (first | exact (Kd.C_below HR1_7.out bel) | (with_reducible refine Kd.C_alloc ?_ _) | (with_reducible refine Kd.C_drewN ?_ _) | (with_reducible refine Kd.C_drew ?_))); (case side4 => exact HC1_7.out); rintro e w16 ⟨rfl, hb⟩; replace BK365 := zA (blk_below (g := gb365) (o := .cells #[.int .i64 a0_0, .int .i64 a0_1, .int .i64 a0_2, .int .i64 a0_3, .int .i64 a0_4, .int .i64 a0_5, .slice A0_6 l0_6.length c0_6, .slice A0_7 l0_7.length c0_7] 45 (0, 0)) (blk_g BK365.out) hb); replace BK366 := zA (blk_below (g := gb366) (o := .cells #[.int .i64 a1_0, .int .i64 a1_1, .int .i64 a1_2, .int .i64 a1_3, .int .i64 a1_4, .int .i64 a1_5, .slice A1_6 l1_6.length c1_6, .slice A1_7 l1_7.length c1_7] 45 (0, 0)) (blk_g BK366.out) hb); replace HB := zA (belt hb)))
       go_ret
       exact ⟨by first | rfl | (simp [errW_none, errW_some] <;> rfl) | (simp [*, errW_none, errW_some] <;> rfl), bel⟩
      ·replace c9 := Bool.eq_false_iff.mpr c9
       subst c9
       have H1 : (some false) = some r := by rw [if_neg (show ¬ (false = true) by decide)] at H; exact H
       clear H
       have H := H1
       clear H1
       obtain rfl := Option.some.inj H
       go_enter Try.func24, Try.ntmps24
       go_wp2_with (first | ((with_reducible refine gate_dst (N := 2) rfl ?_); refine box_event ?hg (N := 2) ?hd (cs := #[.int .i64 a0_0, .int .i64 a0_1, .int .i64 a0_2, .int .i64 a0_3, .int .i64 a0_4, .int .i64 a0_5, .slice A0_6 l0_6.length c0_6, .slice A0_7 l0_7.length c0_7]) (t := 45) ?hr ?_; (case hd => rfl); (case hg => rfl); (case hr => first | (go_simp; done) | (go_simp; rfl)); intro gb365 hg w17 hbox hb; have BK365 := zA (hbox); have GW365 := zA ((by rw [hg]; exact bels : w.heap.size ≤ gb365)); have GE365 := zA ((by rw [hg]; exact bels : w.heap.size ≤ gb365)); replace HB := zA (belt hb); clear hb hbox hg) | ((with_reducible refine gate_dst (N := 3) rfl ?_); refine box_event ?hg (N := 3) ?hd (cs := #[.int .i64 a1_0, .int .i64 a1_1, .int .i64 a1_2, .int .i64 a1_3, .int .i64 a1_4, .int .i64 a1_5, .slice A1_6 l1_6.length c1_6, .slice A1_7 l1_7.length c1_7]) (t := 45) ?hr ?_; (case hd => rfl); (case hg => rfl); (case hr => first | (go_simp; done) | (go_simp; rfl)); intro gb366 hg w18 hbox hb; have BK366 := zA (hbox); have GW366 := zA ((by rw [hg]; exact bels : w.heap.size ≤ gb366)); have GE366 := zA ((by rw [hg]; exact bels : w.heap.size ≤ gb366)); have NB365_366 := zA ((by rw [hg]; exact Nat.ne_of_lt (blk_lt (g := gb365) (o := .cells #[.int .i64 a0_0, .int .i64 a0_1, .int .i64 a0_2, .int .i64 a0_3, .int .i64 a0_4, .int .i64 a0_5, .slice A0_6 l0_6.length c0_6, .slice A0_7 l0_7.length c0_7] 45 (0, 0)) (blk_g BK365.out)) : gb365 ≠ gb366)); have NB366_365 := zA ((by rw [hg]; exact Nat.ne_of_gt (blk_lt (g := gb365) (o := .cells #[.int .i64 a0_0, .int .i64 a0_1, .int .i64 a0_2, .int .i64 a0_3, .int .i64 a0_4, .int .i64 a0_5, .slice A0_6 l0_6.length c0_6, .slice A0_7 l0_7.length c0_7] 45 (0, 0)) (blk_g BK365.out)) : gb366 ≠ gb365)); replace BK365 := zA (blk_below (g := gb365) (o := .cells #[.int .i64 a0_0, .int .i64 a0_1, .int .i64 a0_2, .int .i64 a0_3, .int .i64 a0_4, .int .i64 a0_5, .slice A0_6 l0_6.length c0_6, .slice A0_7 l0_7.length c0_7] 45 (0, 0)) (blk_g BK365.out) hb); replace HB := zA (belt hb); clear hb hbox hg; have hnb19 := NB365_366.out; have hnc19 := NB366_365.out; obtain ⟨hcz20_0, hcz20_1, hcz20_2, hcz20_3, hcz20_4, hcz20_5, hcz20_6, hcz20_7⟩ := bx8 BK365.out; obtain ⟨hfz20_0, hfz20_1, hfz20_2, hfz20_3, hfz20_4, hfz20_5, hfz20_6, hfz20_7⟩ := fz8 BK365.out; obtain ⟨hcz21_0, hcz21_1, hcz21_2, hcz21_3, hcz21_4, hcz21_5, hcz21_6, hcz21_7⟩ := bx8 BK366.out; obtain ⟨hfz21_0, hfz21_1, hfz21_2, hfz21_3, hfz21_4, hfz21_5, hfz21_6, hfz21_7⟩ := fz8 BK366.out) | (go_at_call 43; (with_reducible refine (zp_SameInts.calls k _ _ l0_6 _ _ l1_6 false _ ?side1 ?side2 ?side3 ?side4 A8.out).mono ?_); (case side1 => repeat (first | exact (Kd.C_below HR0_6.out HB.out) | (with_reducible refine Kd.C_alloc ?_ _) | (with_reducible refine Kd.C_drewN ?_ _) | (with_reducible refine Kd.C_drew ?_))); (case side2 => exact HC0_6.out); (case side3 => repeat (first | exact (Kd.C_below HR1_6.out HB.out) | (with_reducible refine Kd.C_alloc ?_ _) | (with_reducible refine Kd.C_drewN ?_ _) | (with_reducible refine Kd.C_drew ?_))); (case side4 => exact HC1_6.out); rintro e w' ⟨rfl, ⟨nd, rfl⟩⟩))
       go_ret
       exact ⟨by first | rfl | (simp [errW_none, errW_some] <;> rfl) | (simp [*, errW_none, errW_some] <;> rfl), bel⟩
     ·rw [if_neg c7] at H
      have c7b0 : (a0_4 == a1_4 && (a0_5 == a1_5)) = false := by simpa using c7
      (try (have c7b1 : decide (a0_4 = a1_4 && (a0_5 == a1_5)) = false := by simpa using c7))
      (try (have c7b2 : (a0_4 == a1_4 && (a0_5 == a1_5)) = false := by simpa using c7))
      (try (have c7b3 : ¬ (a0_4 = a1_4 && (a0_5 == a1_5)) := by simpa using c7))
      clear c7
      obtain rfl := Option.some.inj H
      go_enter Try.func24, Try.ntmps24
      go_wp2_with (first | ((with_reducible refine gate_dst (N := 2) rfl ?_); refine box_event ?hg (N := 2) ?hd (cs := #[.int .i64 a0_0, .int .i64 a0_1, .int .i64 a0_2, .int .i64 a0_3, .int .i64 a0_4, .int .i64 a0_5, .slice A0_6 l0_6.length c0_6, .slice A0_7 l0_7.length c0_7]) (t := 45) ?hr ?_; (case hd => rfl); (case hg => rfl); (case hr => first | (go_simp; done) | (go_simp; rfl)); intro gb365 hg w22 hbox hb; have BK365 := zA (hbox); have GW365 := zA ((by rw [hg]; exact bels : w.heap.size ≤ gb365)); have GE365 := zA ((by rw [hg]; exact bels : w.heap.size ≤ gb365)); replace HB := zA (belt hb); clear hb hbox hg) | ((with_reducible refine gate_dst (N := 3) rfl ?_); refine box_event ?hg (N := 3) ?hd (cs := #[.int .i64 a1_0, .int .i64 a1_1, .int .i64 a1_2, .int .i64 a1_3, .int .i64 a1_4, .int .i64 a1_5, .slice A1_6 l1_6.length c1_6, .slice A1_7 l1_7.length c1_7]) (t := 45) ?hr ?_; (case hd => rfl); (case hg => rfl); (case hr => first | (go_simp; done) | (go_simp; rfl)); intro gb366 hg w23 hbox hb; have BK366 := zA (hbox); have GW366 := zA ((by rw [hg]; exact bels : w.heap.size ≤ gb366)); have GE366 := zA ((by rw [hg]; exact bels : w.heap.size ≤ gb366)); have NB365_366 := zA ((by rw [hg]; exact Nat.ne_of_lt (blk_lt (g := gb365) (o := .cells #[.int .i64 a0_0, .int .i64 a0_1, .int .i64 a0_2, .int .i64 a0_3, .int .i64 a0_4, .int .i64 a0_5, .slice A0_6 l0_6.length c0_6, .slice A0_7 l0_7.length c0_7] 45 (0, 0)) (blk_g BK365.out)) : gb365 ≠ gb366)); have NB366_365 := zA ((by rw [hg]; exact Nat.ne_of_gt (blk_lt (g := gb365) (o := .cells #[.int .i64 a0_0, .int .i64 a0_1, .int .i64 a0_2, .int .i64 a0_3, .int .i64 a0_4, .int .i64 a0_5, .slice A0_6 l0_6.length c0_6, .slice A0_7 l0_7.length c0_7] 45 (0, 0)) (blk_g BK365.out)) : gb366 ≠ gb365)); replace BK365 := zA (blk_below (g := gb365) (o := .cells #[.int .i64 a0_0, .int .i64 a0_1, .int .i64 a0_2, .int .i64 a0_3, .int .i64 a0_4, .int .i64 a0_5, .slice A0_6 l0_6.length c0_6, .slice A0_7 l0_7.length c0_7] 45 (0, 0)) (blk_g BK365.out) hb); replace HB := zA (belt hb); clear hb hbox hg; have hnb24 := NB365_366.out; have hnc24 := NB366_365.out; obtain ⟨hcz25_0, hcz25_1, hcz25_2, hcz25_3, hcz25_4, hcz25_5, hcz25_6, hcz25_7⟩ := bx8 BK365.out; obtain ⟨hfz25_0, hfz25_1, hfz25_2, hfz25_3, hfz25_4, hfz25_5, hfz25_6, hfz25_7⟩ := fz8 BK365.out; obtain ⟨hcz26_0, hcz26_1, hcz26_2, hcz26_3, hcz26_4, hcz26_5, hcz26_6, hcz26_7⟩ := bx8 BK366.out; obtain ⟨hfz26_0, hfz26_1, hfz26_2, hfz26_3, hfz26_4, hfz26_5, hfz26_6, hfz26_7⟩ := fz8 BK366.out))
      go_ret
      exact ⟨by first | rfl | (simp [errW_none, errW_some] <;> rfl) | (simp [*, errW_none, errW_some] <;> rfl), bel⟩
    ·rw [if_neg c6] at H
     have c6b0 : (a0_3 == a1_3) = false := beq_eq_false_iff_ne.mpr c6
     have c6b1 : (a0_3 != a1_3) = true := bne_iff_ne.mpr c6
     obtain rfl := Option.some.inj H
     go_enter Try.func24, Try.ntmps24
     go_wp2_with (first | ((with_reducible refine gate_dst (N := 2) rfl ?_); refine box_event ?hg (N := 2) ?hd (cs := #[.int .i64 a0_0, .int .i64 a0_1, .int .i64 a0_2, .int .i64 a0_3, .int .i64 a0_4, .int .i64 a0_5, .slice A0_6 l0_6.length c0_6, .slice A0_7 l0_7.length c0_7]) (t := 45) ?hr ?_; (case hd => rfl); (case hg => rfl); (case hr => first | (go_simp; done) | (go_simp; rfl)); intro gb365 hg w27 hbox hb; have BK365 := zA (hbox); have GW365 := zA ((by rw [hg]; exact bels : w.heap.size ≤ gb365)); have GE365 := zA ((by rw [hg]; exact bels : w.heap.size ≤ gb365)); replace HB := zA (belt hb); clear hb hbox hg) | ((with_reducible refine gate_dst (N := 3) rfl ?_); refine box_event ?hg (N := 3) ?hd (cs := #[.int .i64 a1_0, .int .i64 a1_1, .int .i64 a1_2, .int .i64 a1_3, .int .i64 a1_4, .int .i64 a1_5, .slice A1_6 l1_6.length c1_6, .slice A1_7 l1_7.length c1_7]) (t := 45) ?hr ?_; (case hd => rfl); (case hg => rfl); (case hr => first | (go_simp; done) | (go_simp; rfl)); intro gb366 hg w28 hbox hb; have BK366 := zA (hbox); have GW366 := zA ((by rw [hg]; exact bels : w.heap.size ≤ gb366)); have GE366 := zA ((by rw [hg]; exact bels : w.heap.size ≤ gb366)); have NB365_366 := zA ((by rw [hg]; exact Nat.ne_of_lt (blk_lt (g := gb365) (o := .cells #[.int .i64 a0_0, .int .i64 a0_1, .int .i64 a0_2, .int .i64 a0_3, .int .i64 a0_4, .int .i64 a0_5, .slice A0_6 l0_6.length c0_6, .slice A0_7 l0_7.length c0_7] 45 (0, 0)) (blk_g BK365.out)) : gb365 ≠ gb366)); have NB366_365 := zA ((by rw [hg]; exact Nat.ne_of_gt (blk_lt (g := gb365) (o := .cells #[.int .i64 a0_0, .int .i64 a0_1, .int .i64 a0_2, .int .i64 a0_3, .int .i64 a0_4, .int .i64 a0_5, .slice A0_6 l0_6.length c0_6, .slice A0_7 l0_7.length c0_7] 45 (0, 0)) (blk_g BK365.out)) : gb366 ≠ gb365)); replace BK365 := zA (blk_below (g := gb365) (o := .cells #[.int .i64 a0_0, .int .i64 a0_1, .int .i64 a0_2, .int .i64 a0_3, .int .i64 a0_4, .int .i64 a0_5, .slice A0_6 l0_6.length c0_6, .slice A0_7 l0_7.length c0_7] 45 (0, 0)) (blk_g BK365.out) hb); replace HB := zA (belt hb); clear hb hbox hg; have hnb29 := NB365_366.out; have hnc29 := NB366_365.out; obtain ⟨hcz30_0, hcz30_1, hcz30_2, hcz30_3, hcz30_4, hcz30_5, hcz30_6, hcz30_7⟩ := bx8 BK365.out; obtain ⟨hfz30_0, hfz30_1, hfz30_2, hfz30_3, hfz30_4, hfz30_5, hfz30_6, hfz30_7⟩ := fz8 BK365.out; obtain ⟨hcz31_0, hcz31_1, hcz31_2, hcz31_3, hcz31_4, hcz31_5, hcz31_6, hcz31_7⟩ := bx8 BK366.out; obtain ⟨hfz31_0, hfz31_1, hfz31_2, hfz31_3, hfz31_4, hfz31_5, hfz31_6, hfz31_7⟩ := fz8 BK366.out))
     go_ret
     exact ⟨by first | rfl | (simp [errW_none, errW_some] <;> rfl) | (simp [*, errW_none, errW_some] <;> rfl), bel⟩
   ·rw [if_neg c5] at H
    have c5b0 : (a0_2 == a1_2) = false := beq_eq_false_iff_ne.mpr c5
    have c5b1 : (a0_2 != a1_2) = true := bne_iff_ne.mpr c5
    obtain rfl := Option.some.inj H
    go_enter Try.func24, Try.ntmps24
    go_wp2_with (first | ((with_reducible refine gate_dst (N := 2) rfl ?_); refine box_event ?hg (N := 2) ?hd (cs := #[.int .i64 a0_0, .int .i64 a0_1, .int .i64 a0_2, .int .i64 a0_3, .int .i64 a0_4, .int .i64 a0_5, .slice A0_6 l0_6.length c0_6, .slice A0_7 l0_7.length c0_7]) (t := 45) ?hr ?_; (case hd => rfl); (case hg => rfl); (case hr => first | (go_simp; done) | (go_simp; rfl)); intro gb365 hg w32 hbox hb; have BK365 := zA (hbox); have GW365 := zA ((by rw [hg]; exact bels : w.heap.size ≤ gb365)); have GE365 := zA ((by rw [hg]; exact bels : w.heap.size ≤ gb365)); replace HB := zA (belt hb); clear hb hbox hg) | ((with_reducible refine gate_dst (N := 3) rfl ?_); refine box_event ?hg (N := 3) ?hd (cs := #[.int .i64 a1_0, .int .i64 a1_1, .int .i64 a1_2, .int .i64 a1_3, .int .i64 a1_4, .int .i64 a1_5, .slice A1_6 l1_6.length c1_6, .slice A1_7 l1_7.length c1_7]) (t := 45) ?hr ?_; (case hd => rfl); (case hg => rfl); (case hr => first | (go_simp; done) | (go_simp; rfl)); intro gb366 hg w33 hbox hb; have BK366 := zA (hbox); have GW366 := zA ((by rw [hg]; exact bels : w.heap.size ≤ gb366)); have GE366 := zA ((by rw [hg]; exact bels : w.heap.size ≤ gb366)); have NB365_366 := zA ((by rw [hg]; exact Nat.ne_of_lt (blk_lt (g := gb365) (o := .cells #[.int .i64 a0_0, .int .i64 a0_1, .int .i64 a0_2, .int .i64 a0_3, .int .i64 a0_4, .int .i64 a0_5, .slice A0_6 l0_6.length c0_6, .slice A0_7 l0_7.length c0_7] 45 (0, 0)) (blk_g BK365.out)) : gb365 ≠ gb366)); have NB366_365 := zA ((by rw [hg]; exact Nat.ne_of_gt (blk_lt (g := gb365) (o := .cells #[.int .i64 a0_0, .int .i64 a0_1, .int .i64 a0_2, .int .i64 a0_3, .int .i64 a0_4, .int .i64 a0_5, .slice A0_6 l0_6.length c0_6, .slice A0_7 l0_7.length c0_7] 45 (0, 0)) (blk_g BK365.out)) : gb366 ≠ gb365)); replace BK365 := zA (blk_below (g := gb365) (o := .cells #[.int .i64 a0_0, .int .i64 a0_1, .int .i64 a0_2, .int .i64 a0_3, .int .i64 a0_4, .int .i64 a0_5, .slice A0_6 l0_6.length c0_6, .slice A0_7 l0_7.length c0_7] 45 (0, 0)) (blk_g BK365.out) hb); replace HB := zA (belt hb); clear hb hbox hg; have hnb34 := NB365_366.out; have hnc34 := NB366_365.out; obtain ⟨hcz35_0, hcz35_1, hcz35_2, hcz35_3, hcz35_4, hcz35_5, hcz35_6, hcz35_7⟩ := bx8 BK365.out; obtain ⟨hfz35_0, hfz35_1, hfz35_2, hfz35_3, hfz35_4, hfz35_5, hfz35_6, hfz35_7⟩ := fz8 BK365.out; obtain ⟨hcz36_0, hcz36_1, hcz36_2, hcz36_3, hcz36_4, hcz36_5, hcz36_6, hcz36_7⟩ := bx8 BK366.out; obtain ⟨hfz36_0, hfz36_1, hfz36_2, hfz36_3, hfz36_4, hfz36_5, hfz36_6, hfz36_7⟩ := fz8 BK366.out))
    go_ret
    exact ⟨by first | rfl | (simp [errW_none, errW_some] <;> rfl) | (simp [*, errW_none, errW_some] <;> rfl), bel⟩
  ·rw [if_neg c4] at H
   have c4b0 : (a0_1 == a1_1) = false := beq_eq_false_iff_ne.mpr c4
   have c4b1 : (a0_1 != a1_1) = true := bne_iff_ne.mpr c4
   obtain rfl := Option.some.inj H
   go_enter Try.func24, Try.ntmps24
   go_wp2_with (first | ((with_reducible refine gate_dst (N := 2) rfl ?_); refine box_event ?hg (N := 2) ?hd (cs := #[.int .i64 a0_0, .int .i64 a0_1, .int .i64 a0_2, .int .i64 a0_3, .int .i64 a0_4, .int .i64 a0_5, .slice A0_6 l0_6.length c0_6, .slice A0_7 l0_7.length c0_7]) (t := 45) ?hr ?_; (case hd => rfl); (case hg => rfl); (case hr => first | (go_simp; done) | (go_simp; rfl)); intro gb365 hg w37 hbox hb; have BK365 := zA (hbox); have GW365 := zA ((by rw [hg]; exact bels : w.heap.size ≤ gb365)); have GE365 := zA ((by rw [hg]; exact bels : w.heap.size ≤ gb365)); replace HB := zA (belt hb); clear hb hbox hg) | ((with_reducible refine gate_dst (N := 3) rfl ?_); refine box_event ?hg (N := 3) ?hd (cs := #[.int .i64 a1_0, .int .i64 a1_1, .int .i64 a1_2, .int .i64 a1_3, .int .i64 a1_4, .int .i64 a1_5, .slice A1_6 l1_6.length c1_6, .slice A1_7 l1_7.length c1_7]) (t := 45) ?hr ?_; (case hd => rfl); (case hg => rfl); (case hr => first | (go_simp; done) | (go_simp; rfl)); intro gb366 hg w38 hbox hb; have BK366 := zA (hbox); have GW366 := zA ((by rw [hg]; exact bels : w.heap.size ≤ gb366)); have GE366 := zA ((by rw [hg]; exact bels : w.heap.size ≤ gb366)); have NB365_366 := zA ((by rw [hg]; exact Nat.ne_of_lt (blk_lt (g := gb365) (o := .cells #[.int .i64 a0_0, .int .i64 a0_1, .int .i64 a0_2, .int .i64 a0_3, .int .i64 a0_4, .int .i64 a0_5, .slice A0_6 l0_6.length c0_6, .slice A0_7 l0_7.length c0_7] 45 (0, 0)) (blk_g BK365.out)) : gb365 ≠ gb366)); have NB366_365 := zA ((by rw [hg]; exact Nat.ne_of_gt (blk_lt (g := gb365) (o := .cells #[.int .i64 a0_0, .int .i64 a0_1, .int .i64 a0_2, .int .i64 a0_3, .int .i64 a0_4, .int .i64 a0_5, .slice A0_6 l0_6.length c0_6, .slice A0_7 l0_7.length c0_7] 45 (0, 0)) (blk_g BK365.out)) : gb366 ≠ gb365)); replace BK365 := zA (blk_below (g := gb365) (o := .cells #[.int .i64 a0_0, .int .i64 a0_1, .int .i64 a0_2, .int .i64 a0_3, .int .i64 a0_4, .int .i64 a0_5, .slice A0_6 l0_6.length c0_6, .slice A0_7 l0_7.length c0_7] 45 (0, 0)) (blk_g BK365.out) hb); replace HB := zA (belt hb); clear hb hbox hg; have hnb39 := NB365_366.out; have hnc39 := NB366_365.out; obtain ⟨hcz40_0, hcz40_1, hcz40_2, hcz40_3, hcz40_4, hcz40_5, hcz40_6, hcz40_7⟩ := bx8 BK365.out; obtain ⟨hfz40_0, hfz40_1, hfz40_2, hfz40_3, hfz40_4, hfz40_5, hfz40_6, hfz40_7⟩ := fz8 BK365.out; obtain ⟨hcz41_0, hcz41_1, hcz41_2, hcz41_3, hcz41_4, hcz41_5, hcz41_6, hcz41_7⟩ := bx8 BK366.out; obtain ⟨hfz41_0, hfz41_1, hfz41_2, hfz41_3, hfz41_4, hfz41_5, hfz41_6, hfz41_7⟩ := fz8 BK366.out))
   go_ret
   exact ⟨by first | rfl | (simp [errW_none, errW_some] <;> rfl) | (simp [*, errW_none, errW_some] <;> rfl), bel⟩
 ·rw [if_neg c3] at H
  have c3b0 : (a0_0 == a1_0) = false := beq_eq_false_iff_ne.mpr c3
  have c3b1 : (a0_0 != a1_0) = true := bne_iff_ne.mpr c3
  obtain rfl := Option.some.inj H
  go_enter Try.func24, Try.ntmps24
  go_wp2_with (first | ((with_reducible refine gate_dst (N := 2) rfl ?_); refine box_event ?hg (N := 2) ?hd (cs := #[.int .i64 a0_0, .int .i64 a0_1, .int .i64 a0_2, .int .i64 a0_3, .int .i64 a0_4, .int .i64 a0_5, .slice A0_6 l0_6.length c0_6, .slice A0_7 l0_7.length c0_7]) (t := 45) ?hr ?_; (case hd => rfl); (case hg => rfl); (case hr => first | (go_simp; done) | (go_simp; rfl)); intro gb365 hg w42 hbox hb; have BK365 := zA (hbox); have GW365 := zA ((by rw [hg]; exact bels : w.heap.size ≤ gb365)); have GE365 := zA ((by rw [hg]; exact bels : w.heap.size ≤ gb365)); replace HB := zA (belt hb); clear hb hbox hg) | ((with_reducible refine gate_dst (N := 3) rfl ?_); refine box_event ?hg (N := 3) ?hd (cs := #[.int .i64 a1_0, .int .i64 a1_1, .int .i64 a1_2, .int .i64 a1_3, .int .i64 a1_4, .int .i64 a1_5, .slice A1_6 l1_6.length c1_6, .slice A1_7 l1_7.length c1_7]) (t := 45) ?hr ?_; (case hd => rfl); (case hg => rfl); (case hr => first | (go_simp; done) | (go_simp; rfl)); intro gb366 hg w43 hbox hb; have BK366 := zA (hbox); have GW366 := zA ((by rw [hg]; exact bels : w.heap.size ≤ gb366)); have GE366 := zA ((by rw [hg]; exact bels : w.heap.size ≤ gb366)); have NB365_366 := zA ((by rw [hg]; exact Nat.ne_of_lt (blk_lt (g := gb365) (o := .cells #[.int .i64 a0_0, .int .i64 a0_1, .int .i64 a0_2, .int .i64 a0_3, .int .i64 a0_4, .int .i64 a0_5, .slice A0_6 l0_6.length c0_6, .slice A0_7 l0_7.length c0_7] 45 (0, 0)) (blk_g BK365.out)) : gb365 ≠ gb366)); have NB366_365 := zA ((by rw [hg]; exact Nat.ne_of_gt (blk_lt (g := gb365) (o := .cells #[.int .i64 a0_0, .int .i64 a0_1, .int .i64 a0_2, .int .i64 a0_3, .int .i64 a0_4, .int .i64 a0_5, .slice A0_6 l0_6.length c0_6, .slice A0_7 l0_7.length c0_7] 45 (0, 0)) (blk_g BK365.out)) : gb366 ≠ gb365)); replace BK365 := zA (blk_below (g := gb365) (o := .cells #[.int .i64 a0_0, .int .i64 a0_1, .int .i64 a0_2, .int .i64 a0_3, .int .i64 a0_4, .int .i64 a0_5, .slice A0_6 l0_6.length c0_6, .slice A0_7 l0_7.length c0_7] 45 (0, 0)) (blk_g BK365.out) hb); replace HB := zA (belt hb); clear hb hbox hg; have hnb44 := NB365_366.out; have hnc44 := NB366_365.out; obtain ⟨hcz45_0, hcz45_1, hcz45_2, hcz45_3, hcz45_4, hcz45_5, hcz45_6, hcz45_7⟩ := bx8 BK365.out; obtain ⟨hfz45_0, hfz45_1, hfz45_2, hfz45_3, hfz45_4, hfz45_5, hfz45_6, hfz45_7⟩ := fz8 BK365.out; obtain ⟨hcz46_0, hcz46_1, hcz46_2, hcz46_3, hcz46_4, hcz46_5, hcz46_6, hcz46_7⟩ := bx8 BK366.out; obtain ⟨hfz46_0, hfz46_1, hfz46_2, hfz46_3, hfz46_4, hfz46_5, hfz46_6, hfz46_7⟩ := fz8 BK366.out))
  go_ret
  exact ⟨by first | rfl | (simp [errW_none, errW_some] <;> rfl) | (simp [*, errW_none, errW_some] <;> rfl), bel⟩
end Go.Proofs.Ytjcfmfdkligmoaa.PLetterTells
