/- fountainlaw10.BlockSums: it answers true, if what it calls comes to what is said. Conditions: those that stand in the theorems. -/
import Derived.Test.YtbfhinfblepidaaBa
namespace Go.Proofs.Ytbfhinfblepidaa.Bm
open Go.RowKit Go.Lib Go.Proofs.Ytbfhinfblepidaa.PSolveTells Go.Proofs.Ytbfhinfblepidaa.PSeedTells Go.Proofs.Ytbfhinfblepidaa.PBlockTells Go.Proofs.YtbfhinfblepidaaW.PrintWords Go.Proofs.YtbfhinfblepidaaW.PrintLast Go.Proofs.YtbfhinfblepidaaW.PrintMore Go.Proofs.Ytbfhinfblepidaa.Mt Go.Proofs.Ytbfhinfblepidaa.Bs Go.Proofs.Ytbfhinfblepidaa.Bn
set_option linter.unusedVariables false
set_option linter.unusedSimpArgs false
/-- What the example of the document comes to. -/
def Live (k : Nat) : Prop := ∃ (j : Int) (P : List (List Int)), new.f k 1 [] = some (none, 1) ∧ new.f k 2 [[97, 98]] = some (some (1, 2, 2, j, P), 0) ∧ sym.f k 1 2 2 j 2 P 0 = some ([97, 98], 0)
/-- What the three blocks come to: none, for one reason; or symbols of which the third is the others' sum. -/
def ToldM (k : Nat) (z : Nat) (L C Sm : List (List Int)) (esi : Int) : Prop :=
 (new.f k (z : Int) L = some (none, 5) ∧ new.f k (z : Int) C = some (none, 5) ∧ new.f k (z : Int) Sm = some (none, 5)) ∨
 (∃ (K0 S H j : Int) (P1 P2 P3 : List (List Int)) (x y s : List Int), new.f k (z : Int) L = some (some (K0, S, H, j, P1), 0) ∧ new.f k (z : Int) C = some (some (K0, S, H, j, P2), 0) ∧ new.f k (z : Int) Sm = some (some (K0, S, H, j, P3), 0) ∧
  sym.f k K0 S H j (z : Int) P1 esi = some (x, 0) ∧ sym.f k K0 S H j (z : Int) P2 esi = some (y, 0) ∧ sym.f k K0 S H j (z : Int) P3 esi = some (s, 0) ∧ s.length = z ∧ fountainref1_Sum.f k (z : Int) [x, y] = some s)
def Main (k : Nat) (z : Nat) (L C : List (List Int)) (esi : Int) : Prop := ∃ Sm : List (List Int), Sm.length = L.length ∧ (∀ i, i < L.length → fountainref1_Sum.f k (z : Int) [ro L i, ro C i] = some (ro Sm i)) ∧
 ((∃ i, i < L.length ∧ ((ro L i).length ≠ z ∨ (ro C i).length ≠ z)) ∨ (fountainlaw2_To.f k L = some L ∧ fountainlaw2_To.f k C = some C ∧ fountainlaw2_To.f k Sm = some Sm ∧ ToldM k z L C Sm esi))
def Hyp (k : Nat) (L C : List (List Int)) (esi : Int) : Prop :=
 Live k ∧ ((L.length : Int) < 1 ∨ 10 < (L.length : Int) ∨ C.length ≠ L.length ∨ fountainlaw2_Few.f k L = some false ∨ (fountainlaw2_Few.f k L = some true ∧ (((ro L 0).length : Int) < 1 ∨ 64 < ((ro L 0).length : Int) ∨ esi < 0 ∨ 16777216 ≤ esi ∨ Main k (ro L 0).length L C esi)))
noncomputable def fountainlaw10_BlockSums.f (k : Nat) (L C : List (List Int)) (esi : Int) : Option Bool := @ite _ (Hyp k L C esi) (Classical.propDecidable _) (some true) none
theorem C_lit2 {w : World} {A B : Option Addr} {c d : Nat} {l m : List Int} (hC : RowC w A l) (hc : l.length ≤ c) (hD : RowC w B m) (hd : m.length ≤ d) : (Kd.slice 5 (Kd.int .u8)).C (w.alloc (.cells #[.slice A l.length c, .slice B m.length d] 30)) (some ⟨w.heap.size, 0, none⟩) [l, m].length [l, m] := by
 refine ⟨rfl, by simp, fun _ => ⟨_, rfl, fun j p hj => ?_⟩⟩
 cases j with
 | zero =>
  obtain rfl : l = p := by simpa using hj
  refine ⟨[.slice A l.length c], rfl, ⟨A, c, rfl, hc, Kd.C_below hC (below_alloc (Below.refl _ _) _)⟩, fun i u hu => ?_⟩
  cases i with
  | succ i => simp at hu
  | zero =>
   obtain rfl : Value.slice A l.length c = u := by simpa using hu
   exact (blk_cell (blk_new w _) 0).trans rfl
 | succ j => cases j with
  | succ j => simp at hj
  | zero =>
   obtain rfl : m = p := by simpa using hj
   refine ⟨[.slice B m.length d], rfl, ⟨B, d, rfl, hd, Kd.C_below hD (below_alloc (Below.refl _ _) _)⟩, fun i u hu => ?_⟩
   cases i with
   | succ i => simp at hu
   | zero =>
    obtain rfl : Value.slice B m.length d = u := by simpa using hu
    exact (blk_cell (blk_new w _) 1).trans rfl
theorem sum2 (k : Nat) (W : Int) {w : World} {A : Option Addr} {l m x : List Int} (hC : (Kd.slice 5 (Kd.int .u8)).C w A [l, m].length [l, m]) (h : fountainref1_Sum.f k W [l, m] = some x) :
 Calls Try.prog 34 #[.int .i64 W, .slice A 2 2] w fun e w' => ∃ v0_ : Value, e = .returned (v0_) ∧ Kd.R (Kd.int .u8) 5 w' w.heap.size (fun _ => True) v0_ x ∧ Below w.heap.size w w' :=
 fountainref1_Sum.calls k W A 2 [l, m] x w hC (by simp) h
theorem take_next (L : List (List Int)) (i : Nat) (h : i < L.length) : L.take i ++ [ro L i] = L.take (i + 1) := by
 unfold ro
 rw [List.take_add_one, List.getD_eq_getElem?_getD, List.getElem?_eq_getElem h]; rfl
def T11 : Bool × List (List Nat × List Nat) := (true, [([], []), ([], []), ([], []), ([], []), ([2, 3], [2, 3]), ([4], [4]), ([], []), ([], []), ([6, 7], [6, 7]), ([8], [8]), ([5, 9], [5, 9]), ([1, 10], [1, 10]), ([11], [11]), ([0, 12, 11], [0, 12]), ([13, 13, 0, 1, 2, 3, 4, 5, 6, 7, 8, 9, 10, 11, 12, 13], [0, 13])])
def B11 : List Nat := [0, 0, 0, 0, 12, 28, 0, 0, 192, 448, 1020, 2046, 4094, 8191, 16383]
theorem tab11 : rtab .any (opsOf Try.f13 11) = T11 := by kernel_rfl
theorem bits11 : waitsOk T11.2 B11 = true := by kernel_rfl
def T22 : Bool × List (List Nat × List Nat) := (true, [([], []), ([0], [0]), ([1], [1]), ([2, 1], [2]), ([3], [3]), ([4, 3], [3, 4]), ([3], [3]), ([5, 6, 3], [3, 5, 6]), ([3, 7], [3, 7]), ([8, 3], [8]), ([9], [9]), ([10, 9], [9, 10]), ([9], [9]), ([9], [9]), ([9], [9]), ([13, 14, 9], [9, 13, 14]), ([12, 15, 9, 9], [9, 12, 15]), ([16, 9], [9, 16]), ([11, 17, 9], [9, 11, 17]), ([9, 18], [9, 18]), ([19, 16, 0, 1, 2, 3, 4, 5, 6, 7, 8, 9, 10, 11, 12, 13, 14, 15, 16, 17, 18, 19], [19])])
def B22 : List Nat := [0, 1, 3, 7, 15, 31, 15, 127, 255, 511, 1023, 2047, 1023, 1023, 1023, 25599, 62463, 127999, 262143, 524287, 1048575]
theorem tab22 : rtab .any (opsOf Try.f13 22) = T22 := by kernel_rfl
theorem bits22 : waitsOk T22.2 B22 = true := by kernel_rfl
set_option maxHeartbeats 16000000 in
set_option maxRecDepth 100000 in
theorem fountainlaw10_BlockSums.calls (k : Nat) (A1 : Option Addr) (c1 : Nat) (L : List (List Int)) (A2 : Option Addr) (c2 : Nat) (C : List (List Int)) (esi : Int) (r : Bool) (w : World) (hL : (Kd.slice 5 (Kd.int .u8)).C w A1 L.length L) (hcL : L.length ≤ c1) (hM : (Kd.slice 5 (Kd.int .u8)).C w A2 C.length C) (hcM : C.length ≤ c2) (h : fountainlaw10_BlockSums.f k L C esi = some r) :
 Calls Try.prog 13 #[.slice A1 L.length c1, .slice A2 C.length c2, .int .i64 esi] w fun e w' => e = .returned (.bool r) ∧ Below w.heap.size w w' := by
 unfold fountainlaw10_BlockSums.f at h
 by_cases hy : Hyp k L C esi
 rotate_left
 ·rw [if_neg hy] at h; cases h
 rw [if_pos hy] at h
 obtain rfl : true = r := Option.some.inj h
 obtain ⟨⟨ja, Pa, l1, l2, l3⟩, hy⟩ := hy
 have HL := Aside0.mk hL
 have LC := Aside0.mk hcL
 have HM := Aside0.mk hM
 have LM := Aside0.mk hcM
 have LV := Aside0.mk (And.intro l1 (And.intro l2 l3))
 have HB := Aside0.mk (Below.refl w.heap.size w)
 clear h hL hcL hM hcM l1 l2 l3
 by_cases q1 : (L.length : Int) < 1
 ·clear hy
  go_enter Try.func13, Try.ntmps13
  go_wp2_with (first | (go_at_call 46; (with_reducible refine (Ba.alive.calls k ja Pa _ LV.out.1 LV.out.2.1 LV.out.2.2).mono ?_); rintro e w1 ⟨rfl, hb⟩; have n0_ := Aside0.mk (below_step (show Below w.heap.size w _ from bel) hb); clear HB hb; have HB := n0_; clear n0_))
  go_ret
  exact ⟨rfl, bel⟩
 by_cases q2 : 10 < (L.length : Int)
 ·clear hy
  go_enter Try.func13, Try.ntmps13
  go_wp2_with (first | (go_at_call 46; (with_reducible refine (Ba.alive.calls k ja Pa _ LV.out.1 LV.out.2.1 LV.out.2.2).mono ?_); rintro e w1 ⟨rfl, hb⟩; have n0_ := Aside0.mk (below_step (show Below w.heap.size w _ from bel) hb); clear HB hb; have HB := n0_; clear n0_))
  go_ret
  exact ⟨rfl, bel⟩
 by_cases q3 : C.length ≠ L.length
 ·have q3b : ((C.length : Int) != (L.length : Int)) = true := bne_iff_ne.2 (by omega)
  clear hy q3
  go_enter Try.func13, Try.ntmps13
  go_wp2_with (first | (go_at_call 46; (with_reducible refine (Ba.alive.calls k ja Pa _ LV.out.1 LV.out.2.1 LV.out.2.2).mono ?_); rintro e w1 ⟨rfl, hb⟩; have n0_ := Aside0.mk (below_step (show Below w.heap.size w _ from bel) hb); clear HB hb; have HB := n0_; clear n0_))
  go_ret
  exact ⟨rfl, bel⟩
 have q3e : C.length = L.length := Decidable.not_not.1 q3
 clear q3
 have q3b : ((C.length : Int) != (L.length : Int)) = false := bne_eq_false_iff_eq.2 (by omega)
 rcases hy with hy | hy | hy | hy | ⟨f1, hy⟩
 ·exact absurd hy q1
 ·exact absurd hy q2
 ·exact absurd q3e hy
 ·have FW := Aside0.mk hy
  clear hy
  go_enter Try.func13, Try.ntmps13
  go_wp2_with (first | (go_at_call 46; (with_reducible refine (Ba.alive.calls k ja Pa _ LV.out.1 LV.out.2.1 LV.out.2.2).mono ?_); rintro e w1 ⟨rfl, hb⟩; have n0_ := Aside0.mk (below_step (show Below w.heap.size w _ from bel) hb); clear HB hb; have HB := n0_; clear n0_) | (go_at_call 25; (with_reducible refine (fountainlaw2_Few.calls k A1 c1 L _ _ ?sM LC.out FW.out).mono ?_); (case sM => exact Kd.C_below HL.out bel); rintro e w' ⟨rfl, ⟨nd, rfl⟩⟩))
  go_ret
  exact ⟨rfl, bel⟩
 have FW := Aside0.mk f1
 clear f1
 obtain ⟨ad, A0, c0, e, x0_, l0_, C0_⟩ := Cf.at_L1 HL.out 0 (by omega) (by omega)
 cases e
 have X0 := Aside0.mk (show w.cell? ad = some (.slice A0 (ro L 0).length c0) from by have := x0_; rwa [AlSolveTells.add0] at this)
 clear x0_ l0_ C0_
 obtain ⟨z, hz⟩ : ∃ z : Nat, (ro L 0).length = z := ⟨_, rfl⟩
 rw [hz] at hy X0
 clear hz
 by_cases q4 : (z : Int) < 1
 ·clear hy
  go_enter Try.func13, Try.ntmps13
  go_wp2_with (first | (go_at_call 46; (with_reducible refine (Ba.alive.calls k ja Pa _ LV.out.1 LV.out.2.1 LV.out.2.2).mono ?_); rintro e w1 ⟨rfl, hb⟩; have n0_ := Aside0.mk (below_step (show Below w.heap.size w _ from bel) hb); clear HB hb; have HB := n0_; clear n0_; have x1_ : w1.cell? ad = some (.slice A0 z c0) := (HB.out.cell (World.block_lt_of_cell? w _ X0.out)).trans X0.out) | (go_at_call 25; (with_reducible refine (fountainlaw2_Few.calls k (some ad) c1 L _ _ ?sM LC.out FW.out).mono ?_); (case sM => exact Kd.C_below HL.out bel); rintro e w' ⟨rfl, ⟨nd, rfl⟩⟩))
  go_ret
  exact ⟨rfl, bel⟩
 by_cases q5 : 64 < (z : Int)
 ·clear hy
  go_enter Try.func13, Try.ntmps13
  go_wp2_with (first | (go_at_call 46; (with_reducible refine (Ba.alive.calls k ja Pa _ LV.out.1 LV.out.2.1 LV.out.2.2).mono ?_); rintro e w1 ⟨rfl, hb⟩; have n0_ := Aside0.mk (below_step (show Below w.heap.size w _ from bel) hb); clear HB hb; have HB := n0_; clear n0_; have x1_ : w1.cell? ad = some (.slice A0 z c0) := (HB.out.cell (World.block_lt_of_cell? w _ X0.out)).trans X0.out) | (go_at_call 25; (with_reducible refine (fountainlaw2_Few.calls k (some ad) c1 L _ _ ?sM LC.out FW.out).mono ?_); (case sM => exact Kd.C_below HL.out bel); rintro e w' ⟨rfl, ⟨nd, rfl⟩⟩))
  go_ret
  exact ⟨rfl, bel⟩
 by_cases q6 : esi < 0
 ·clear hy
  go_enter Try.func13, Try.ntmps13
  go_wp2_with (first | (go_at_call 46; (with_reducible refine (Ba.alive.calls k ja Pa _ LV.out.1 LV.out.2.1 LV.out.2.2).mono ?_); rintro e w1 ⟨rfl, hb⟩; have n0_ := Aside0.mk (below_step (show Below w.heap.size w _ from bel) hb); clear HB hb; have HB := n0_; clear n0_; have x1_ : w1.cell? ad = some (.slice A0 z c0) := (HB.out.cell (World.block_lt_of_cell? w _ X0.out)).trans X0.out) | (go_at_call 25; (with_reducible refine (fountainlaw2_Few.calls k (some ad) c1 L _ _ ?sM LC.out FW.out).mono ?_); (case sM => exact Kd.C_below HL.out bel); rintro e w' ⟨rfl, ⟨nd, rfl⟩⟩))
  go_ret
  exact ⟨rfl, bel⟩
 by_cases q7 : 16777216 ≤ esi
 ·clear hy
  go_enter Try.func13, Try.ntmps13
  go_wp2_with (first | (go_at_call 46; (with_reducible refine (Ba.alive.calls k ja Pa _ LV.out.1 LV.out.2.1 LV.out.2.2).mono ?_); rintro e w1 ⟨rfl, hb⟩; have n0_ := Aside0.mk (below_step (show Below w.heap.size w _ from bel) hb); clear HB hb; have HB := n0_; clear n0_; have x1_ : w1.cell? ad = some (.slice A0 z c0) := (HB.out.cell (World.block_lt_of_cell? w _ X0.out)).trans X0.out) | (go_at_call 25; (with_reducible refine (fountainlaw2_Few.calls k (some ad) c1 L _ _ ?sM LC.out FW.out).mono ?_); (case sM => exact Kd.C_below HL.out bel); rintro e w' ⟨rfl, ⟨nd, rfl⟩⟩))
  go_ret
  exact ⟨rfl, bel⟩
 rcases hy with hy | hy | hy | hy | hy
 ·exact absurd hy q4
 ·exact absurd hy q5
 ·exact absurd hy q6
 ·exact absurd hy q7
 obtain ⟨Sm, sl, su, hy⟩ := hy
 have SU := Aside0.mk su
 have HY := Aside0.mk hy
 clear su hy
 have QE := Aside0.mk q3e
 have SL := Aside0.mk sl
 clear q3e sl
 go_enter Try.func13, Try.ntmps13
 go_wp2_with (first | (go_at_call 46; (with_reducible refine (Ba.alive.calls k ja Pa _ LV.out.1 LV.out.2.1 LV.out.2.2).mono ?_); rintro e w1 ⟨rfl, hb⟩; have n0_ := Aside0.mk (below_step (show Below w.heap.size w _ from bel) hb); clear HB hb; have HB := n0_; clear n0_; have x1_ : w1.cell? ad = some (.slice A0 z c0) := (HB.out.cell (World.block_lt_of_cell? w _ X0.out)).trans X0.out) | (go_at_call 25; (with_reducible refine (fountainlaw2_Few.calls k (some ad) c1 L _ _ ?sM LC.out FW.out).mono ?_); (case sM => exact Kd.C_below HL.out bel); rintro e w' ⟨rfl, ⟨nd, rfl⟩⟩))
 go_loopg [9, 10] L.length (fun gg v9 v10 wr => ∃ i : Nat, v10 = .int .i64 (i : Int) ∧ Aside0 (i + gg = L.length) ∧ Aside0 (∀ j, j < i → (ro L j).length = z ∧ (ro C j).length = z) ∧ Aside0 (Kd.S (Kd.slice 5 (Kd.int .u8)) 30 wr w.heap.size (fun _ => True) v9 (Sm.take i)) ∧ Aside0 (Below w.heap.size w wr))
 case atStart => exact ⟨0, by simp, ⟨Nat.zero_add _⟩, ⟨fun j hj => absurd hj (Nat.not_lt_zero _)⟩, ⟨by rw [List.take_zero]; exact Kd.S_nil _ _ _ _ _⟩, ⟨bel⟩⟩
 case round =>
  clear HB x1_
  obtain ⟨i, rfl, E1, EV, HO, HB⟩ := hrel
  cases gk with
  | succ d =>
   have hlt : (i : Int) < (L.length : Int) := by have := E1.out; omega
   have hlt2 : (i : Int) < (C.length : Int) := by have := QE.out; omega
   obtain ⟨aa, Aa, ca, ea, xa_, la_, Ca_⟩ := Cf.at_L1 HL.out (i : Int) (by omega) (by omega)
   obtain ⟨ab, Ab, cb, eb, xb_, lb_, Cb_⟩ := Cf.at_L1 HM.out (i : Int) (by omega) (by have := QE.out; omega)
   cases ea
   cases eb
   rw [rd_ro] at xa_ la_ Ca_ xb_ lb_ Cb_
   rw [Int.toNat_natCast] at xa_ xb_
   have XA := Aside0.mk xa_
   have XB := Aside0.mk xb_
   have LA := Aside0.mk (And.intro la_ lb_)
   have CA := Aside0.mk Ca_
   have CB := Aside0.mk Cb_
   clear la_ lb_ Ca_ Cb_ xa_ xb_
   have xa1 := (HB.out.cell (World.block_lt_of_cell? w _ XA.out)).trans XA.out
   have xb1 := (HB.out.cell (World.block_lt_of_cell? w _ XB.out)).trans XB.out
   by_cases q8 : (ro L i).length = z
   rotate_left
   ·have q8b : (((ro L i).length : Int) != (z : Int)) = true := bne_iff_ne.2 (by omega)
    clear q8
    go_wp2
    go_ret
    exact ⟨rfl, bel⟩
   by_cases q9 : (ro C i).length = z
   rotate_left
   ·have q8b : (((ro L i).length : Int) != (z : Int)) = false := bne_eq_false_iff_eq.2 (by omega)
    have q9b : (((ro C i).length : Int) != (z : Int)) = true := bne_iff_ne.2 (by omega)
    clear q8 q9
    go_wp2
    go_ret
    exact ⟨rfl, bel⟩
   have q8b : (((ro L i).length : Int) != (z : Int)) = false := bne_eq_false_iff_eq.2 (by omega)
   have q9b : (((ro C i).length : Int) != (z : Int)) = false := bne_eq_false_iff_eq.2 (by omega)
   have QQ := Aside0.mk (And.intro q8 q9)
   have SUI := Aside0.mk (SU.out i (by omega))
   clear q8 q9
   go_upto_region 11 with (fail)
   clear xa1 xb1
   refine start_ (n := 15) (S := fun w' => Below w.heap.size w w') (ds := []) (ms 15 0) (by kernel_rfl) rfl rfl HB.out.drew (fun hHeld => ?_); refine with_tabW tab11 bits11 (fun HT_ HW_ => ?_)
   have HW := Aside0.mk (show Below w.heap.size w wr.drew from HB.out.drew)
   have HO1 := Aside0.mk (Kd.S_drew HO.out)
   clear HB HO
   generalize wr.drew = w2 at hHeld HW HO1 ⊢
   refine run_ [(0, false, some 97), (1, false, some 98), (2, false, some 99), (3, false, some 100), (4, false, some 101), (5, true, some 102), (6, false, some 103), (7, false, some 104), (8, false, some 105), (9, true, some 106)] (n := 10) (ms 15 1023) rfl HT_.out HW_.out (by kernel_rfl) (fun _ _ _ _ h => h) hHeld ?_
   repeat (first | (refine Run.p (v := ?_) (a' := ?_) rfl rfl (Or.inl ⟨by rfl, ?_⟩) ?_ ?_; rotate_left; (focus intro w'; go_simp; with_reducible rfl); rotate_left; (focus simp only [Act.put, List.setIfInBounds_toArray, List.set_cons_zero, List.set_cons_succ, i64_w, i32_w]; rfl)) | (refine Run.t (v := ?_) (a' := ?_) rfl rfl (Or.inl ⟨by rfl, ?_⟩) ?_ ?_; rotate_left; (focus intro w' hS; have xa1 := (hS.cell (World.block_lt_of_cell? w _ XA.out)).trans XA.out; have xb1 := (hS.cell (World.block_lt_of_cell? w _ XB.out)).trans XB.out; go_simp; with_reducible rfl); rotate_left; (focus simp only [Act.put, List.setIfInBounds_toArray, List.set_cons_zero, List.set_cons_succ, i64_w, i32_w]; rfl)))
   refine Run.nil ?_
   refine one_ (i := 10) (N := some 107) (ms 15 2047) rfl rfl (one_of HT_.out (by kernel_rfl)) (by decide) (fun K hK => ?_)
   refine value_ (w1 := ?_) (v := ?_) (by rfl) rfl ?_ ?_
   rotate_left 2
   ·go_simp
    constructor
    ·rfl
    ·rfl
   have CL := Aside0.mk (C_lit2 (w := w2) (Kd.C_below CA.out HW.out) LA.out.1 (Kd.C_below CB.out HW.out) LA.out.2)
   have HV := Aside0.mk (below_alloc HW.out (.cells #[.slice Aa (ro L i).length ca, .slice Ab (ro C i).length cb] 30))
   have HO2 := Aside0.mk (Kd.S_alloc HO1.out (.cells #[.slice Aa (ro L i).length ca, .slice Ab (ro C i).length cb] 30))
   refine hK.out _ _ HV.out (fun hHeld => ?_)
   clear hK HW HO1
   refine norm_ (a' := ?_) ?_ ?_
   rotate_left
   ·show Act.put _ (some 107) _ = _
    simp only [Act.put, List.setIfInBounds_toArray, List.set_cons_zero, List.set_cons_succ, i64_w, i32_w]
    rfl
   generalize hG_ : (⟨w2.heap.size, 0, none⟩ : Addr) = q_ at CL ⊢
   clear hG_
   generalize w2.alloc (.cells #[.slice Aa (ro L i).length ca, .slice Ab (ro C i).length cb] 30) = w3 at hHeld HV HO2 CL ⊢
   refine one_ (i := 11) (N := some 108) (ms 15 4095) rfl rfl (one_of HT_.out (by kernel_rfl)) (by decide) (fun K hK => ?_)
   refine goes_ Try.func34 (by kernel_rfl) rfl #[.int .i64 (z : Int), .slice (some q_) 2 2] (by rfl) rfl rfl agl ?_
   with_reducible refine (sum2 k (z : Int) CL.out SUI.out).mono ?_
   rintro e w4 ⟨v, rfl, ho_, hb_⟩
   refine ⟨_, rfl, ?_⟩
   have HW := Aside0.mk (below_step HV.out hb_)
   have HO3 := Aside0.mk (Kd.S_elder' HO2.out (Kd.R_base ho_) hb_)
   have Z3 := Aside0.mk (Kd.R_lower ho_ HV.out.size)
   clear ho_ hb_ HV HO2 CL
   obtain ⟨Az, cz, ez⟩ := Kd.R_slice Z3.out
   subst ez
   refine hK.out _ _ HW.out (fun hHeld => ?_)
   clear hK
   refine norm_ (a' := ?_) ?_ ?_
   rotate_left
   ·show Act.put _ (some 108) _ = _
    simp only [Act.put, List.setIfInBounds_toArray, List.set_cons_zero, List.set_cons_succ, i64_w, i32_w]
    rfl
   refine one_ (i := 12) (N := some 109) (ms 15 8191) rfl rfl (one_of HT_.out (by kernel_rfl)) (by decide) (fun K hK => ?_)
   refine value_ (w1 := ?_) (v := ?_) (by rfl) rfl ?_ ?_
   rotate_left 2
   ·go_simp
    constructor
    ·rfl
    ·rfl
   refine hK.out _ _ (below_alloc HW.out _) (fun hHeld => ?_)
   clear hK
   refine norm_ (a' := ?_) ?_ ?_
   rotate_left
   ·show Act.put _ (some 109) _ = _
    simp only [Act.put, List.setIfInBounds_toArray, List.set_cons_zero, List.set_cons_succ, i64_w, i32_w]
    rfl
   refine one_ (i := 13) (N := some 110) (ms 15 16383) rfl rfl (one_of HT_.out (by kernel_rfl)) (by decide) (fun K hK => ?_)
   refine Kd.S_append_step (Kd.slice 5 (Kd.int .u8)) (w0 := w) w.heap.size (by rfl) (.tmp 97) (.tmp 109) 34 30 (.slice none 0 0) 24 rfl Try.underlying34 info30 rfl (by decide) (by omega) u9 (Sm.take i) (ro Sm i) [.slice Az (ro Sm i).length cz] (fun _ => True) (fun k_ => some k_ = (.slice Az (ro Sm i).length cz : Value).ownBlock) rfl rfl ?aP (fun k_ hk_ => ((Kd.R_mono (ok' := fun k_ => ((fun _ => True)) k_ ∧ some k_ ≠ (u9 : Value).ownBlock) (Kd.R_apart' (Z3.out) (Kd.S_typed HO3.out) (by decide)) (fun k_ hk => ⟨trivial, hk.2⟩))).1 k_ hk_.symm) ?aF ?aO ?aB ?aS ?aL ?_
   (case aP => exact Kd.M_row (Kd.R_mono (Kd.R_tight rfl (Kd.R_mono (ok' := fun k_ => ((fun _ => True)) k_ ∧ some k_ ≠ (u9 : Value).ownBlock) (Kd.R_apart' (Z3.out) (Kd.S_typed HO3.out) (by decide)) (fun k_ hk => ⟨trivial, hk.2⟩))) (fun _ h_ => h_)))
   (case aB => exact HW.out)
   (case aF => exact (fun _ _ => trivial))
   (case aO => exact (Kd.S_mono HO3.out (fun k_ hk => ⟨trivial, fun e_ => hk.2 e_⟩)))
   (case aS => exact HW.out.size)
   (case aL => rw [List.length_take]; omega)
   intro v110 w5 ho hb hg hat
   rw [take_next Sm i (by have := SL.out; omega)] at ho
   have HO4 := Aside0.mk ho
   have HB4 := Aside0.mk hb
   refine hK.out _ _ HB4.out (fun hHeld => ?_)
   clear hK ho hb hg hat HO3 Z3 HW
   refine norm_ (a' := ?_) ?_ ?_
   rotate_left
   ·show Act.put _ (some 110) _ = _
    simp only [Act.put, List.setIfInBounds_toArray, List.set_cons_zero, List.set_cons_succ, i64_w, i32_w]
    rfl
   refine pure_ (i := 14) (N := some 9) (v := ?_) (a' := ?_) (ms 15 32767) rfl rfl (any_of HT_.out (by kernel_rfl)) (fun _ _ _ h => h) (Or.inl ⟨by rfl, ?_⟩) ?_ ?_
   rotate_left
   ·intro w'
    go_simp
    with_reducible rfl
   rotate_left
   ·simp only [Act.put, List.setIfInBounds_toArray, List.set_cons_zero, List.set_cons_succ, i64_w, i32_w]
    rfl
   refine done_ (done_of HT_.out (by kernel_rfl)) ?_
   clear HT_ HW_
   go_wp2
   go_roundg d
   case measure => omega
   case rel => exact ⟨i + 1, by go_num, ⟨by have := E1.out; omega⟩, ⟨fun j hj => by
    by_cases e : j = i
    ·subst e; exact QQ.out
    ·exact EV.out j (by omega)⟩, HO4, HB4⟩
  | zero =>
   have hlt : ¬ (i : Int) < (L.length : Int) := by have := E1.out; omega
   have hti : Sm.take i = Sm := List.take_of_length_le (by have := E1.out; have := SL.out; omega)
   rw [hti] at HO
   rcases HY.out with ⟨jj, hj, hodd⟩ | ⟨t1, t2, t3, tm⟩
   ·obtain ⟨e1, e2⟩ := EV.out jj (by have := E1.out; omega)
    rcases hodd with h | h
    ·exact absurd e1 h
    ·exact absurd e2 h
   have TO1 := Aside0.mk t1
   have TO2 := Aside0.mk t2
   have TO3 := Aside0.mk t3
   obtain ⟨Ao, co, eo⟩ := Kd.R_slice (Kd.S_R HO.out)
   subst eo
   have CS := Aside0.mk (Kd.R_reads' (Kd.S_R HO.out)).2.2
   have LS := Aside0.mk (Kd.R_reads' (Kd.S_R HO.out)).2.1
   clear t1 t2 t3 hti HO EV HY SU
   rcases tm with ⟨n1, n2, n3⟩ | ⟨K0, S, H, j, P1, P2, P3, x, y, s, n1, n2, n3, y1, y2, y3, sz, sm⟩
   ·have N1 := Aside0.mk n1
    have N2 := Aside0.mk n2
    have N3 := Aside0.mk n3
    clear n1 n2 n3
    go_wp2_with (first | (go_at_call 27; (with_reducible refine (fountainlaw2_To.calls k (some ad) c1 L L _ ?sM LC.out TO1.out).mono ?_); (case sM => exact Kd.C_below HL.out bel); rintro e w' ⟨v, rfl, ho_, hb⟩; obtain ⟨T1, t1, rfl, l_, C_⟩ := Kd.R_reads (Kd.S_R ho_); have CT1 := Aside0.mk C_; have LT1 := Aside0.mk l_; clear ho_ C_ l_; (try (have q_ := Aside0.mk (blk_below BX1.out hb); clear BX1; have BX1 := q_; clear q_)); (try (have q_ := Aside0.mk (blk_below BX2.out hb); clear BX2; have BX2 := q_; clear q_)); (try (have q_ := Aside0.mk (blk_below BX3.out hb); clear BX3; have BX3 := q_; clear q_)); (try (have q_ := Aside0.mk (Kd.C_below CP1.out hb); clear CP1; have CP1 := q_; clear q_)); (try (have q_ := Aside0.mk (Kd.C_below CP2.out hb); clear CP2; have CP2 := q_; clear q_)); (try (have q_ := Aside0.mk (Kd.C_below CP3.out hb); clear CP3; have CP3 := q_; clear q_)); (try (have q_ := Aside0.mk (Kd.C_below CX1.out hb); clear CX1; have CX1 := q_; clear q_)); (try (have q_ := Aside0.mk (Kd.C_below CX2.out hb); clear CX2; have CX2 := q_; clear q_)); (try (have q_ := Aside0.mk (Kd.C_below CX3.out hb); clear CX3; have CX3 := q_; clear q_)); (try (have q_ := Aside0.mk (Kd.C_below CS.out hb); clear CS; have CS := q_; clear q_)); have n0_ := Aside0.mk (below_step (show Below w.heap.size w _ from bel) hb); clear HB hb; have HB := n0_; clear n0_) | (go_at_call 27; (with_reducible refine (fountainlaw2_To.calls k A2 c2 C C _ ?sM LM.out TO2.out).mono ?_); (case sM => exact Kd.C_below HM.out bel); rintro e w' ⟨v, rfl, ho_, hb⟩; obtain ⟨T2, t2, rfl, l_, C_⟩ := Kd.R_reads (Kd.S_R ho_); have CT2 := Aside0.mk C_; have LT2 := Aside0.mk l_; clear ho_ C_ l_; (try (have q_ := Aside0.mk (blk_below BX1.out hb); clear BX1; have BX1 := q_; clear q_)); (try (have q_ := Aside0.mk (blk_below BX2.out hb); clear BX2; have BX2 := q_; clear q_)); (try (have q_ := Aside0.mk (blk_below BX3.out hb); clear BX3; have BX3 := q_; clear q_)); (try (have q_ := Aside0.mk (Kd.C_below CP1.out hb); clear CP1; have CP1 := q_; clear q_)); (try (have q_ := Aside0.mk (Kd.C_below CP2.out hb); clear CP2; have CP2 := q_; clear q_)); (try (have q_ := Aside0.mk (Kd.C_below CP3.out hb); clear CP3; have CP3 := q_; clear q_)); (try (have q_ := Aside0.mk (Kd.C_below CX1.out hb); clear CX1; have CX1 := q_; clear q_)); (try (have q_ := Aside0.mk (Kd.C_below CX2.out hb); clear CX2; have CX2 := q_; clear q_)); (try (have q_ := Aside0.mk (Kd.C_below CX3.out hb); clear CX3; have CX3 := q_; clear q_)); (try (have q_ := Aside0.mk (Kd.C_below CS.out hb); clear CS; have CS := q_; clear q_)); have n0_ := Aside0.mk (below_step (show Below w.heap.size w _ from bel) hb); clear HB hb; have HB := n0_; clear n0_) | (go_at_call 27; (with_reducible refine (fountainlaw2_To.calls k Ao co Sm Sm _ ?sM LS.out TO3.out).mono ?_); (case sM => exact CS.out); rintro e w' ⟨v, rfl, ho_, hb⟩; obtain ⟨T3, t3, rfl, l_, C_⟩ := Kd.R_reads (Kd.S_R ho_); have CT3 := Aside0.mk C_; have LT3 := Aside0.mk l_; clear ho_ C_ l_; (try (have q_ := Aside0.mk (blk_below BX1.out hb); clear BX1; have BX1 := q_; clear q_)); (try (have q_ := Aside0.mk (blk_below BX2.out hb); clear BX2; have BX2 := q_; clear q_)); (try (have q_ := Aside0.mk (blk_below BX3.out hb); clear BX3; have BX3 := q_; clear q_)); (try (have q_ := Aside0.mk (Kd.C_below CP1.out hb); clear CP1; have CP1 := q_; clear q_)); (try (have q_ := Aside0.mk (Kd.C_below CP2.out hb); clear CP2; have CP2 := q_; clear q_)); (try (have q_ := Aside0.mk (Kd.C_below CP3.out hb); clear CP3; have CP3 := q_; clear q_)); (try (have q_ := Aside0.mk (Kd.C_below CX1.out hb); clear CX1; have CX1 := q_; clear q_)); (try (have q_ := Aside0.mk (Kd.C_below CX2.out hb); clear CX2; have CX2 := q_; clear q_)); (try (have q_ := Aside0.mk (Kd.C_below CX3.out hb); clear CX3; have CX3 := q_; clear q_)); (try (have q_ := Aside0.mk (Kd.C_below CS.out hb); clear CS; have CS := q_; clear q_)); have n0_ := Aside0.mk (below_step (show Below w.heap.size w _ from bel) hb); clear HB hb; have HB := n0_; clear n0_) | (go_at_call 47; (with_reducible refine (new.calls k (z : Int) T1 t1 L _ _ CT1.out LT1.out N1.out).mono ?_); rintro e w' ⟨rfl, hb⟩; clear CT1; (try (have q_ := Aside0.mk (blk_below BX1.out hb); clear BX1; have BX1 := q_; clear q_)); (try (have q_ := Aside0.mk (blk_below BX2.out hb); clear BX2; have BX2 := q_; clear q_)); (try (have q_ := Aside0.mk (blk_below BX3.out hb); clear BX3; have BX3 := q_; clear q_)); (try (have q_ := Aside0.mk (Kd.C_below CP1.out hb); clear CP1; have CP1 := q_; clear q_)); (try (have q_ := Aside0.mk (Kd.C_below CP2.out hb); clear CP2; have CP2 := q_; clear q_)); (try (have q_ := Aside0.mk (Kd.C_below CP3.out hb); clear CP3; have CP3 := q_; clear q_)); (try (have q_ := Aside0.mk (Kd.C_below CX1.out hb); clear CX1; have CX1 := q_; clear q_)); (try (have q_ := Aside0.mk (Kd.C_below CX2.out hb); clear CX2; have CX2 := q_; clear q_)); (try (have q_ := Aside0.mk (Kd.C_below CX3.out hb); clear CX3; have CX3 := q_; clear q_)); (try (have q_ := Aside0.mk (Kd.C_below CS.out hb); clear CS; have CS := q_; clear q_)); have n0_ := Aside0.mk (below_step (show Below w.heap.size w _ from bel) hb); clear HB hb; have HB := n0_; clear n0_) | (go_at_call 47; (with_reducible refine (new.calls k (z : Int) T2 t2 C _ _ CT2.out LT2.out N2.out).mono ?_); rintro e w' ⟨rfl, hb⟩; clear CT2; (try (have q_ := Aside0.mk (blk_below BX1.out hb); clear BX1; have BX1 := q_; clear q_)); (try (have q_ := Aside0.mk (blk_below BX2.out hb); clear BX2; have BX2 := q_; clear q_)); (try (have q_ := Aside0.mk (blk_below BX3.out hb); clear BX3; have BX3 := q_; clear q_)); (try (have q_ := Aside0.mk (Kd.C_below CP1.out hb); clear CP1; have CP1 := q_; clear q_)); (try (have q_ := Aside0.mk (Kd.C_below CP2.out hb); clear CP2; have CP2 := q_; clear q_)); (try (have q_ := Aside0.mk (Kd.C_below CP3.out hb); clear CP3; have CP3 := q_; clear q_)); (try (have q_ := Aside0.mk (Kd.C_below CX1.out hb); clear CX1; have CX1 := q_; clear q_)); (try (have q_ := Aside0.mk (Kd.C_below CX2.out hb); clear CX2; have CX2 := q_; clear q_)); (try (have q_ := Aside0.mk (Kd.C_below CX3.out hb); clear CX3; have CX3 := q_; clear q_)); (try (have q_ := Aside0.mk (Kd.C_below CS.out hb); clear CS; have CS := q_; clear q_)); have n0_ := Aside0.mk (below_step (show Below w.heap.size w _ from bel) hb); clear HB hb; have HB := n0_; clear n0_) | (go_at_call 47; (with_reducible refine (new.calls k (z : Int) T3 t3 Sm _ _ CT3.out LT3.out N3.out).mono ?_); rintro e w' ⟨rfl, hb⟩; clear CT3; (try (have q_ := Aside0.mk (blk_below BX1.out hb); clear BX1; have BX1 := q_; clear q_)); (try (have q_ := Aside0.mk (blk_below BX2.out hb); clear BX2; have BX2 := q_; clear q_)); (try (have q_ := Aside0.mk (blk_below BX3.out hb); clear BX3; have BX3 := q_; clear q_)); (try (have q_ := Aside0.mk (Kd.C_below CP1.out hb); clear CP1; have CP1 := q_; clear q_)); (try (have q_ := Aside0.mk (Kd.C_below CP2.out hb); clear CP2; have CP2 := q_; clear q_)); (try (have q_ := Aside0.mk (Kd.C_below CP3.out hb); clear CP3; have CP3 := q_; clear q_)); (try (have q_ := Aside0.mk (Kd.C_below CX1.out hb); clear CX1; have CX1 := q_; clear q_)); (try (have q_ := Aside0.mk (Kd.C_below CX2.out hb); clear CX2; have CX2 := q_; clear q_)); (try (have q_ := Aside0.mk (Kd.C_below CX3.out hb); clear CX3; have CX3 := q_; clear q_)); (try (have q_ := Aside0.mk (Kd.C_below CS.out hb); clear CS; have CS := q_; clear q_)); have n0_ := Aside0.mk (below_step (show Below w.heap.size w _ from bel) hb); clear HB hb; have HB := n0_; clear n0_) | (go_at_call 49; (with_reducible refine (fountainlaw10_num.calls 5 5 _ rfl).mono ?_); rintro e w' ⟨rfl, ⟨nd, rfl⟩⟩))
    go_ret
    exact ⟨rfl, bel⟩
   ·have N1 := Aside0.mk n1
    have N2 := Aside0.mk n2
    have N3 := Aside0.mk n3
    have Y1 := Aside0.mk y1
    have Y2 := Aside0.mk y2
    have Y3 := Aside0.mk y3
    have SM := Aside0.mk sm
    have hsz : ((s.length : Int) == (z : Int)) = true := beq_iff_eq.2 (by omega)
    clear n1 n2 n3 y1 y2 y3 sm sz
    go_upto_region 15 with (first | (go_at_call 27; (with_reducible refine (fountainlaw2_To.calls k (some ad) c1 L L _ ?sM LC.out TO1.out).mono ?_); (case sM => exact Kd.C_below HL.out bel); rintro e w' ⟨v, rfl, ho_, hb⟩; obtain ⟨T1, t1, rfl, l_, C_⟩ := Kd.R_reads (Kd.S_R ho_); have CT1 := Aside0.mk C_; have LT1 := Aside0.mk l_; clear ho_ C_ l_; (try (have q_ := Aside0.mk (blk_below BX1.out hb); clear BX1; have BX1 := q_; clear q_)); (try (have q_ := Aside0.mk (blk_below BX2.out hb); clear BX2; have BX2 := q_; clear q_)); (try (have q_ := Aside0.mk (blk_below BX3.out hb); clear BX3; have BX3 := q_; clear q_)); (try (have q_ := Aside0.mk (Kd.C_below CP1.out hb); clear CP1; have CP1 := q_; clear q_)); (try (have q_ := Aside0.mk (Kd.C_below CP2.out hb); clear CP2; have CP2 := q_; clear q_)); (try (have q_ := Aside0.mk (Kd.C_below CP3.out hb); clear CP3; have CP3 := q_; clear q_)); (try (have q_ := Aside0.mk (Kd.C_below CX1.out hb); clear CX1; have CX1 := q_; clear q_)); (try (have q_ := Aside0.mk (Kd.C_below CX2.out hb); clear CX2; have CX2 := q_; clear q_)); (try (have q_ := Aside0.mk (Kd.C_below CX3.out hb); clear CX3; have CX3 := q_; clear q_)); (try (have q_ := Aside0.mk (Kd.C_below CS.out hb); clear CS; have CS := q_; clear q_)); have n0_ := Aside0.mk (below_step (show Below w.heap.size w _ from bel) hb); clear HB hb; have HB := n0_; clear n0_) | (go_at_call 27; (with_reducible refine (fountainlaw2_To.calls k A2 c2 C C _ ?sM LM.out TO2.out).mono ?_); (case sM => exact Kd.C_below HM.out bel); rintro e w' ⟨v, rfl, ho_, hb⟩; obtain ⟨T2, t2, rfl, l_, C_⟩ := Kd.R_reads (Kd.S_R ho_); have CT2 := Aside0.mk C_; have LT2 := Aside0.mk l_; clear ho_ C_ l_; (try (have q_ := Aside0.mk (blk_below BX1.out hb); clear BX1; have BX1 := q_; clear q_)); (try (have q_ := Aside0.mk (blk_below BX2.out hb); clear BX2; have BX2 := q_; clear q_)); (try (have q_ := Aside0.mk (blk_below BX3.out hb); clear BX3; have BX3 := q_; clear q_)); (try (have q_ := Aside0.mk (Kd.C_below CP1.out hb); clear CP1; have CP1 := q_; clear q_)); (try (have q_ := Aside0.mk (Kd.C_below CP2.out hb); clear CP2; have CP2 := q_; clear q_)); (try (have q_ := Aside0.mk (Kd.C_below CP3.out hb); clear CP3; have CP3 := q_; clear q_)); (try (have q_ := Aside0.mk (Kd.C_below CX1.out hb); clear CX1; have CX1 := q_; clear q_)); (try (have q_ := Aside0.mk (Kd.C_below CX2.out hb); clear CX2; have CX2 := q_; clear q_)); (try (have q_ := Aside0.mk (Kd.C_below CX3.out hb); clear CX3; have CX3 := q_; clear q_)); (try (have q_ := Aside0.mk (Kd.C_below CS.out hb); clear CS; have CS := q_; clear q_)); have n0_ := Aside0.mk (below_step (show Below w.heap.size w _ from bel) hb); clear HB hb; have HB := n0_; clear n0_) | (go_at_call 27; (with_reducible refine (fountainlaw2_To.calls k Ao co Sm Sm _ ?sM LS.out TO3.out).mono ?_); (case sM => exact CS.out); rintro e w' ⟨v, rfl, ho_, hb⟩; obtain ⟨T3, t3, rfl, l_, C_⟩ := Kd.R_reads (Kd.S_R ho_); have CT3 := Aside0.mk C_; have LT3 := Aside0.mk l_; clear ho_ C_ l_; (try (have q_ := Aside0.mk (blk_below BX1.out hb); clear BX1; have BX1 := q_; clear q_)); (try (have q_ := Aside0.mk (blk_below BX2.out hb); clear BX2; have BX2 := q_; clear q_)); (try (have q_ := Aside0.mk (blk_below BX3.out hb); clear BX3; have BX3 := q_; clear q_)); (try (have q_ := Aside0.mk (Kd.C_below CP1.out hb); clear CP1; have CP1 := q_; clear q_)); (try (have q_ := Aside0.mk (Kd.C_below CP2.out hb); clear CP2; have CP2 := q_; clear q_)); (try (have q_ := Aside0.mk (Kd.C_below CP3.out hb); clear CP3; have CP3 := q_; clear q_)); (try (have q_ := Aside0.mk (Kd.C_below CX1.out hb); clear CX1; have CX1 := q_; clear q_)); (try (have q_ := Aside0.mk (Kd.C_below CX2.out hb); clear CX2; have CX2 := q_; clear q_)); (try (have q_ := Aside0.mk (Kd.C_below CX3.out hb); clear CX3; have CX3 := q_; clear q_)); (try (have q_ := Aside0.mk (Kd.C_below CS.out hb); clear CS; have CS := q_; clear q_)); have n0_ := Aside0.mk (below_step (show Below w.heap.size w _ from bel) hb); clear HB hb; have HB := n0_; clear n0_) | (go_at_call 47; (with_reducible refine (new.calls k (z : Int) T1 t1 L _ _ CT1.out LT1.out N1.out).mono ?_); rintro e w' ⟨g1, P1_, d1, rfl, _, b_, C_, l_, hb⟩; (try (have q_ := Aside0.mk (blk_below BX1.out hb); clear BX1; have BX1 := q_; clear q_)); (try (have q_ := Aside0.mk (blk_below BX2.out hb); clear BX2; have BX2 := q_; clear q_)); (try (have q_ := Aside0.mk (blk_below BX3.out hb); clear BX3; have BX3 := q_; clear q_)); (try (have q_ := Aside0.mk (Kd.C_below CP1.out hb); clear CP1; have CP1 := q_; clear q_)); (try (have q_ := Aside0.mk (Kd.C_below CP2.out hb); clear CP2; have CP2 := q_; clear q_)); (try (have q_ := Aside0.mk (Kd.C_below CP3.out hb); clear CP3; have CP3 := q_; clear q_)); (try (have q_ := Aside0.mk (Kd.C_below CX1.out hb); clear CX1; have CX1 := q_; clear q_)); (try (have q_ := Aside0.mk (Kd.C_below CX2.out hb); clear CX2; have CX2 := q_; clear q_)); (try (have q_ := Aside0.mk (Kd.C_below CX3.out hb); clear CX3; have CX3 := q_; clear q_)); (try (have q_ := Aside0.mk (Kd.C_below CS.out hb); clear CS; have CS := q_; clear q_)); have BX1 := Aside0.mk b_; have CP1 := Aside0.mk C_; have LP1 := Aside0.mk l_; clear b_ C_ l_ CT1; have n0_ := Aside0.mk (below_step (show Below w.heap.size w _ from bel) hb); clear HB hb; have HB := n0_; clear n0_) | (go_at_call 47; (with_reducible refine (new.calls k (z : Int) T2 t2 C _ _ CT2.out LT2.out N2.out).mono ?_); rintro e w' ⟨g2, P2_, d2, rfl, _, b_, C_, l_, hb⟩; (try (have q_ := Aside0.mk (blk_below BX1.out hb); clear BX1; have BX1 := q_; clear q_)); (try (have q_ := Aside0.mk (blk_below BX2.out hb); clear BX2; have BX2 := q_; clear q_)); (try (have q_ := Aside0.mk (blk_below BX3.out hb); clear BX3; have BX3 := q_; clear q_)); (try (have q_ := Aside0.mk (Kd.C_below CP1.out hb); clear CP1; have CP1 := q_; clear q_)); (try (have q_ := Aside0.mk (Kd.C_below CP2.out hb); clear CP2; have CP2 := q_; clear q_)); (try (have q_ := Aside0.mk (Kd.C_below CP3.out hb); clear CP3; have CP3 := q_; clear q_)); (try (have q_ := Aside0.mk (Kd.C_below CX1.out hb); clear CX1; have CX1 := q_; clear q_)); (try (have q_ := Aside0.mk (Kd.C_below CX2.out hb); clear CX2; have CX2 := q_; clear q_)); (try (have q_ := Aside0.mk (Kd.C_below CX3.out hb); clear CX3; have CX3 := q_; clear q_)); (try (have q_ := Aside0.mk (Kd.C_below CS.out hb); clear CS; have CS := q_; clear q_)); have BX2 := Aside0.mk b_; have CP2 := Aside0.mk C_; have LP2 := Aside0.mk l_; clear b_ C_ l_ CT2; have n0_ := Aside0.mk (below_step (show Below w.heap.size w _ from bel) hb); clear HB hb; have HB := n0_; clear n0_) | (go_at_call 47; (with_reducible refine (new.calls k (z : Int) T3 t3 Sm _ _ CT3.out LT3.out N3.out).mono ?_); rintro e w' ⟨g3, P3_, d3, rfl, _, b_, C_, l_, hb⟩; (try (have q_ := Aside0.mk (blk_below BX1.out hb); clear BX1; have BX1 := q_; clear q_)); (try (have q_ := Aside0.mk (blk_below BX2.out hb); clear BX2; have BX2 := q_; clear q_)); (try (have q_ := Aside0.mk (blk_below BX3.out hb); clear BX3; have BX3 := q_; clear q_)); (try (have q_ := Aside0.mk (Kd.C_below CP1.out hb); clear CP1; have CP1 := q_; clear q_)); (try (have q_ := Aside0.mk (Kd.C_below CP2.out hb); clear CP2; have CP2 := q_; clear q_)); (try (have q_ := Aside0.mk (Kd.C_below CP3.out hb); clear CP3; have CP3 := q_; clear q_)); (try (have q_ := Aside0.mk (Kd.C_below CX1.out hb); clear CX1; have CX1 := q_; clear q_)); (try (have q_ := Aside0.mk (Kd.C_below CX2.out hb); clear CX2; have CX2 := q_; clear q_)); (try (have q_ := Aside0.mk (Kd.C_below CX3.out hb); clear CX3; have CX3 := q_; clear q_)); (try (have q_ := Aside0.mk (Kd.C_below CS.out hb); clear CS; have CS := q_; clear q_)); have BX3 := Aside0.mk b_; have CP3 := Aside0.mk C_; have LP3 := Aside0.mk l_; clear b_ C_ l_ CT3; have n0_ := Aside0.mk (below_step (show Below w.heap.size w _ from bel) hb); clear HB hb; have HB := n0_; clear n0_))
    go_upto_region 19 with (go_at_call 49; (with_reducible refine (fountainlaw10_num.calls 0 0 _ rfl).mono ?_); rintro e w80 hq_; obtain ⟨rfl, hd_⟩ := hq_; obtain ⟨nd, hd_⟩ := hd_; have hb : Below w'.heap.size w' w80 := (by rw [hd_]; exact pw_below_drewN (Below.refl _ _) nd); clear hd_; (try (have q_ := Aside0.mk (blk_below BX1.out hb); clear BX1; have BX1 := q_; clear q_)); (try (have q_ := Aside0.mk (blk_below BX2.out hb); clear BX2; have BX2 := q_; clear q_)); (try (have q_ := Aside0.mk (blk_below BX3.out hb); clear BX3; have BX3 := q_; clear q_)); (try (have q_ := Aside0.mk (Kd.C_below CP1.out hb); clear CP1; have CP1 := q_; clear q_)); (try (have q_ := Aside0.mk (Kd.C_below CP2.out hb); clear CP2; have CP2 := q_; clear q_)); (try (have q_ := Aside0.mk (Kd.C_below CP3.out hb); clear CP3; have CP3 := q_; clear q_)); (try (have q_ := Aside0.mk (Kd.C_below CX1.out hb); clear CX1; have CX1 := q_; clear q_)); (try (have q_ := Aside0.mk (Kd.C_below CX2.out hb); clear CX2; have CX2 := q_; clear q_)); (try (have q_ := Aside0.mk (Kd.C_below CX3.out hb); clear CX3; have CX3 := q_; clear q_)); (try (have q_ := Aside0.mk (Kd.C_below CS.out hb); clear CS; have CS := q_; clear q_)); have n0_ := Aside0.mk (below_step (show Below w.heap.size w _ from bel) hb); clear HB hb; have HB := n0_; clear n0_)
    go_upto_region 22 with (first | (go_at_call 50; (with_reducible refine (sym.calls k g1 K0 S H j (z : Int) P1_ d1 P1 esi _ _ BX1.out CP1.out LP1.out Y1.out).mono ?_); rintro e w91 ⟨X1, x1, rfl, l_, C_, hb⟩; (try (have q_ := Aside0.mk (blk_below BX1.out hb); clear BX1; have BX1 := q_; clear q_)); (try (have q_ := Aside0.mk (blk_below BX2.out hb); clear BX2; have BX2 := q_; clear q_)); (try (have q_ := Aside0.mk (blk_below BX3.out hb); clear BX3; have BX3 := q_; clear q_)); (try (have q_ := Aside0.mk (Kd.C_below CP1.out hb); clear CP1; have CP1 := q_; clear q_)); (try (have q_ := Aside0.mk (Kd.C_below CP2.out hb); clear CP2; have CP2 := q_; clear q_)); (try (have q_ := Aside0.mk (Kd.C_below CP3.out hb); clear CP3; have CP3 := q_; clear q_)); (try (have q_ := Aside0.mk (Kd.C_below CX1.out hb); clear CX1; have CX1 := q_; clear q_)); (try (have q_ := Aside0.mk (Kd.C_below CX2.out hb); clear CX2; have CX2 := q_; clear q_)); (try (have q_ := Aside0.mk (Kd.C_below CX3.out hb); clear CX3; have CX3 := q_; clear q_)); (try (have q_ := Aside0.mk (Kd.C_below CS.out hb); clear CS; have CS := q_; clear q_)); have CX1 := Aside0.mk C_; have LX1 := Aside0.mk l_; clear C_ l_; have n0_ := Aside0.mk (below_step (show Below w.heap.size w _ from bel) hb); clear HB hb; have HB := n0_; clear n0_) | (go_at_call 50; (with_reducible refine (sym.calls k g2 K0 S H j (z : Int) P2_ d2 P2 esi _ _ BX2.out CP2.out LP2.out Y2.out).mono ?_); rintro e w92 ⟨X2, x2, rfl, l_, C_, hb⟩; (try (have q_ := Aside0.mk (blk_below BX1.out hb); clear BX1; have BX1 := q_; clear q_)); (try (have q_ := Aside0.mk (blk_below BX2.out hb); clear BX2; have BX2 := q_; clear q_)); (try (have q_ := Aside0.mk (blk_below BX3.out hb); clear BX3; have BX3 := q_; clear q_)); (try (have q_ := Aside0.mk (Kd.C_below CP1.out hb); clear CP1; have CP1 := q_; clear q_)); (try (have q_ := Aside0.mk (Kd.C_below CP2.out hb); clear CP2; have CP2 := q_; clear q_)); (try (have q_ := Aside0.mk (Kd.C_below CP3.out hb); clear CP3; have CP3 := q_; clear q_)); (try (have q_ := Aside0.mk (Kd.C_below CX1.out hb); clear CX1; have CX1 := q_; clear q_)); (try (have q_ := Aside0.mk (Kd.C_below CX2.out hb); clear CX2; have CX2 := q_; clear q_)); (try (have q_ := Aside0.mk (Kd.C_below CX3.out hb); clear CX3; have CX3 := q_; clear q_)); (try (have q_ := Aside0.mk (Kd.C_below CS.out hb); clear CS; have CS := q_; clear q_)); have CX2 := Aside0.mk C_; have LX2 := Aside0.mk l_; clear C_ l_; have n0_ := Aside0.mk (below_step (show Below w.heap.size w _ from bel) hb); clear HB hb; have HB := n0_; clear n0_) | (go_at_call 50; (with_reducible refine (sym.calls k g3 K0 S H j (z : Int) P3_ d3 P3 esi _ _ BX3.out CP3.out LP3.out Y3.out).mono ?_); rintro e w93 ⟨X3, x3, rfl, l_, C_, hb⟩; (try (have q_ := Aside0.mk (blk_below BX1.out hb); clear BX1; have BX1 := q_; clear q_)); (try (have q_ := Aside0.mk (blk_below BX2.out hb); clear BX2; have BX2 := q_; clear q_)); (try (have q_ := Aside0.mk (blk_below BX3.out hb); clear BX3; have BX3 := q_; clear q_)); (try (have q_ := Aside0.mk (Kd.C_below CP1.out hb); clear CP1; have CP1 := q_; clear q_)); (try (have q_ := Aside0.mk (Kd.C_below CP2.out hb); clear CP2; have CP2 := q_; clear q_)); (try (have q_ := Aside0.mk (Kd.C_below CP3.out hb); clear CP3; have CP3 := q_; clear q_)); (try (have q_ := Aside0.mk (Kd.C_below CX1.out hb); clear CX1; have CX1 := q_; clear q_)); (try (have q_ := Aside0.mk (Kd.C_below CX2.out hb); clear CX2; have CX2 := q_; clear q_)); (try (have q_ := Aside0.mk (Kd.C_below CX3.out hb); clear CX3; have CX3 := q_; clear q_)); (try (have q_ := Aside0.mk (Kd.C_below CS.out hb); clear CS; have CS := q_; clear q_)); have CX3 := Aside0.mk C_; have LX3 := Aside0.mk l_; clear C_ l_; have n0_ := Aside0.mk (below_step (show Below w.heap.size w _ from bel) hb); clear HB hb; have HB := n0_; clear n0_))
    refine start_ (n := 21) (S := fun w' => Below w93.heap.size w93 w') (ds := []) (ms 21 0) (by kernel_rfl) rfl rfl (Below.refl _ _).drew (fun hHeld => ?_); refine with_tabW tab22 bits22 (fun HT_ HW_ => ?_)
    have HW := Aside0.mk (show Below w93.heap.size w93 w93.drew from (Below.refl _ _).drew)
    generalize w93.drew = w94 at hHeld HW ⊢
    refine run_ [(0, false, some 166)] (n := 1) (ms 21 1) rfl HT_.out HW_.out (by kernel_rfl) (fun _ _ _ _ h => h) hHeld ?_
    repeat (refine Run.p (v := ?_) (a' := ?_) rfl rfl (Or.inl ⟨by rfl, ?_⟩) ?_ ?_; rotate_left; (focus intro w'; go_simp; with_reducible rfl); rotate_left; (focus simp only [Act.put, List.setIfInBounds_toArray, List.set_cons_zero, List.set_cons_succ, i64_w, i32_w]; rfl))
    refine Run.nil ?_
    refine one_ (i := 1) (N := some 167) (ms 21 3) rfl rfl (one_of HT_.out (by kernel_rfl)) (by decide) (fun K hK => ?_)
    refine goes_ Try.func49 (by kernel_rfl) rfl #[.int .i64 0] (by rfl) rfl rfl agl ?_
    with_reducible refine (fountainlaw10_num.calls 0 0 _ rfl).mono ?_
    rintro e w' ⟨rfl, ⟨nd, rfl⟩⟩
    refine ⟨_, rfl, ?_⟩
    have n0_ := Aside0.mk (pw_below_drewN HW.out nd)
    clear HW
    have HW := n0_
    clear n0_
    refine hK.out _ _ HW.out (fun hHeld => ?_)
    clear hK
    refine norm_ (a' := ?_) ?_ ?_
    rotate_left
    ·show Act.put _ (some 167) _ = _
     simp only [Act.put, List.setIfInBounds_toArray, List.set_cons_zero, List.set_cons_succ, i64_w, i32_w]
     rfl
    generalize w94.drewN nd = w95 at hHeld HW ⊢
    refine run_ [(2, false, some 168), (3, false, some 169), (4, false, some 170), (5, false, some 171), (6, false, some 172), (7, false, some 173), (8, false, some 174), (9, false, some 175), (10, false, some 176), (11, true, some 177), (12, false, some 178), (13, false, some 179), (14, false, some 180)] (n := 13) (ms 21 32767) rfl HT_.out HW_.out (by kernel_rfl) (fun _ _ _ _ h => h) hHeld ?_
    repeat (first | (refine Run.p (v := ?_) (a' := ?_) rfl rfl (Or.inl ⟨by rfl, ?_⟩) ?_ ?_; rotate_left; (focus intro w'; go_simp; with_reducible rfl); rotate_left; (focus simp only [Act.put, List.setIfInBounds_toArray, List.set_cons_zero, List.set_cons_succ, i64_w, i32_w]; rfl)) | (refine Run.t (v := ?_) (a' := ?_) rfl rfl (Or.inl ⟨by rfl, ?_⟩) ?_ ?_; rotate_left; (focus intro w' hS; have hcvx := Kd.C_string (P := Try.prog) (A := X3) (c := x3) Try.underlying31 Try.underlying5 Try.underlying9 (Kd.C_below CX3.out hS); go_simp; with_reducible rfl); rotate_left; (focus simp only [Act.put, List.setIfInBounds_toArray, List.set_cons_zero, List.set_cons_succ, i64_w, i32_w]; rfl)))
    refine Run.nil ?_
    refine one_ (i := 15) (N := some 181) (ms 21 65535) rfl rfl (one_of HT_.out (by kernel_rfl)) (by decide) (fun K hK => ?_)
    refine value_ (w1 := ?_) (v := ?_) (by rfl) rfl ?_ ?_
    rotate_left 2
    ·go_simp
     constructor
     ·rfl
     ·rfl
    have CL := Aside0.mk (C_lit2 (w := w95) (Kd.C_below CX1.out HW.out) LX1.out (Kd.C_below CX2.out HW.out) LX2.out)
    have HV := Aside0.mk (below_alloc HW.out (.cells #[.slice X1 x.length x1, .slice X2 y.length x2] 30))
    refine hK.out _ _ HV.out (fun hHeld => ?_)
    clear hK HW
    refine norm_ (a' := ?_) ?_ ?_
    rotate_left
    ·show Act.put _ (some 181) _ = _
     simp only [Act.put, List.setIfInBounds_toArray, List.set_cons_zero, List.set_cons_succ, i64_w, i32_w]
     rfl
    generalize hG_ : (⟨w95.heap.size, 0, none⟩ : Addr) = q_ at CL ⊢
    clear hG_
    generalize w95.alloc (.cells #[.slice X1 x.length x1, .slice X2 y.length x2] 30) = w96 at hHeld HV CL ⊢
    refine one_ (i := 16) (N := some 182) (ms 21 131071) rfl rfl (one_of HT_.out (by kernel_rfl)) (by decide) (fun K hK => ?_)
    refine goes_ Try.func34 (by kernel_rfl) rfl #[.int .i64 (z : Int), .slice (some q_) 2 2] (by rfl) rfl rfl agl ?_
    with_reducible refine (sum2 k (z : Int) CL.out SM.out).mono ?_
    rintro e w97 ⟨v, rfl, ho_, hb_⟩
    refine ⟨_, rfl, ?_⟩
    have HW := Aside0.mk (below_step HV.out hb_)
    obtain ⟨Az, cz, rfl, lz_, Cz_⟩ := Kd.R_reads ho_
    have CZ := Aside0.mk Cz_
    clear ho_ hb_ HV CL lz_ Cz_
    refine hK.out _ _ HW.out (fun hHeld => ?_)
    clear hK
    refine norm_ (a' := ?_) ?_ ?_
    rotate_left
    ·show Act.put _ (some 182) _ = _
     simp only [Act.put, List.setIfInBounds_toArray, List.set_cons_zero, List.set_cons_succ, i64_w, i32_w]
     rfl
    have hcvz := Kd.C_string (P := Try.prog) (A := Az) (c := cz) Try.underlying30 Try.underlying5 Try.underlying9 CZ.out
    refine one_ (i := 17) (N := some 183) (ms 21 262143) rfl rfl (one_of HT_.out (by kernel_rfl)) (by decide) (fun K hK => ?_)
    refine value_ (w1 := ?_) (v := ?_) (by rfl) rfl ?_ ?_
    rotate_left 2
    ·go_simp
     constructor
     ·rfl
     ·rfl
    refine hK.out _ _ HW.out (fun hHeld => ?_)
    clear hK
    refine norm_ (a' := ?_) ?_ ?_
    rotate_left
    ·show Act.put _ (some 183) _ = _
     simp only [Act.put, List.setIfInBounds_toArray, List.set_cons_zero, List.set_cons_succ, i64_w, i32_w]
     rfl
    refine run_ [(18, false, some 184), (19, false, some 185), (20, false, some 6)] (n := 3) (ms 21 2097151) rfl HT_.out HW_.out (by kernel_rfl) (fun _ _ _ _ h => h) hHeld ?_
    repeat (refine Run.p (v := ?_) (a' := ?_) rfl rfl (Or.inl ⟨by rfl, ?_⟩) ?_ ?_; rotate_left; (focus intro w'; go_simp; with_reducible rfl); rotate_left; (focus simp only [Act.put, List.setIfInBounds_toArray, List.set_cons_zero, List.set_cons_succ, i64_w, i32_w]; rfl))
    refine Run.nil ?_
    refine done_ (done_of HT_.out (by kernel_rfl)) ?_
    try go_wp2
    go_ret
    exact ⟨rfl, below_step HB.out HW.out⟩
end Go.Proofs.Ytbfhinfblepidaa.Bm
