/- solve.reduce: what it makes of a matrix and of what stands beside it, in memory. Conditions: those that stand in the theorems. -/
import Derived.Test.YtbfhinfblepidaaMt
import Derived.Test.YtbfhinfblepidaaPSolveTellsx2
import Derived.Test.YtbfhinfblepidaaPq
import Derived.BigQuiet
import Derived.Deep.QuietTactic
import Derived.Deep.LoopGhost
import Derived.WalkKit
import Derived.ProofKit
set_option maxHeartbeats 8000000
set_option maxRecDepth 100000
namespace Go.Proofs.Ytbfhinfblepidaa.RdSolveTells
open Go.RowKit Go.Lib Go.Proofs.Ytbfhinfblepidaa.PSolveTells Go.Proofs.YtbfhinfblepidaaW.PrintWords Go.Proofs.YtbfhinfblepidaaW.PrintLast Go.Proofs.YtbfhinfblepidaaW.PrintMore Go.Proofs.Ytbfhinfblepidaa.Mt
set_option linter.unusedVariables false
set_option linter.unusedSimpArgs false
def T9 : Bool × List (List Nat × List Nat) := (true, [([], []), ([], []), ([], []), ([], []), ([], []), ([3, 4], [3, 4]), ([], []), ([], []), ([], []), ([7, 8], [7, 8]), ([6, 9], [6, 9]), ([10], [10]), ([], []), ([], []), ([12, 13], [12, 13]), ([14], [14]), ([0, 1, 0, 1, 6, 7, 8, 9, 10, 11, 15], [0, 1]), ([16, 11, 0, 1, 6, 7, 8, 9, 10, 11, 15], [11, 16]), ([2, 5, 0, 1, 2, 3, 4, 5, 6, 7, 8, 9, 10, 11, 12, 13, 14, 15, 16, 17], [2, 5]), ([18, 15, 17, 0, 1, 2, 3, 4, 5, 6, 7, 8, 9, 10, 11, 12, 13, 14, 15, 16, 17], [15, 18])])
def B9 : List Nat := [0, 0, 0, 0, 0, 24, 0, 0, 0, 384, 960, 1984, 0, 0, 12288, 28672, 65475, 131011, 262143, 524287]
theorem tab9 : rtab .any (opsOf Try.f65 9) = T9 := by kernel_rfl
theorem bits9 : waitsOk T9.2 B9 = true := by kernel_rfl
def T10 : Bool × List (List Nat × List Nat) := (true, [([], []), ([], []), ([], []), ([], []), ([], []), ([3, 4], [3, 4]), ([], []), ([], []), ([], []), ([7, 8], [7, 8]), ([6, 9], [6, 9]), ([10], [10]), ([], []), ([], []), ([12, 13], [12, 13]), ([14], [14]), ([0, 1, 0, 1, 6, 7, 8, 9, 10, 11, 15], [0, 1]), ([16, 11, 0, 1, 6, 7, 8, 9, 10, 11, 15], [11, 16]), ([2, 5, 0, 1, 2, 3, 4, 5, 6, 7, 8, 9, 10, 11, 12, 13, 14, 15, 16, 17], [2, 5]), ([18, 15, 17, 0, 1, 2, 3, 4, 5, 6, 7, 8, 9, 10, 11, 12, 13, 14, 15, 16, 17], [15, 18])])
def B10 : List Nat := [0, 0, 0, 0, 0, 24, 0, 0, 0, 384, 960, 1984, 0, 0, 12288, 28672, 65475, 131011, 262143, 524287]
theorem tab10 : rtab .any (opsOf Try.f65 10) = T10 := by kernel_rfl
theorem bits10 : waitsOk T10.2 B10 = true := by kernel_rfl
def T11 : Bool × List (List Nat × List Nat) := (true, [([], []), ([], []), ([0, 1], [0, 1]), ([2], [2]), ([], []), ([3, 4], [3, 4]), ([5], [5]), ([6], [6]), ([7, 7, 0, 1, 2, 3, 4, 5, 6, 7], [7])])
def B11 : List Nat := [0, 0, 3, 7, 0, 31, 63, 127, 255]
theorem tab11 : rtab .any (opsOf Try.f65 11) = T11 := by kernel_rfl
theorem bits11 : waitsOk T11.2 B11 = true := by kernel_rfl
def T12 : Bool × List (List Nat × List Nat) := (true, [([], []), ([], []), ([], []), ([], []), ([], []), ([], []), ([], []), ([5, 6], [5, 6]), ([7], [7]), ([4, 8], [4, 8]), ([], []), ([], []), ([], []), ([11, 12], [11, 12]), ([13], [13]), ([10, 14, 9], [10, 14]), ([0, 1, 0, 1, 4, 5, 6, 7, 8, 9, 14, 15], [0, 1]), ([16, 9, 15, 0, 1, 4, 5, 6, 7, 8, 9, 14, 15], [9, 16]), ([2, 3, 0, 1, 2, 3, 4, 5, 6, 7, 8, 9, 10, 11, 12, 13, 14, 15, 16, 17], [2, 3]), ([18, 15, 17, 0, 1, 2, 3, 4, 5, 6, 7, 8, 9, 10, 11, 12, 13, 14, 15, 16, 17], [15, 18])])
def B12 : List Nat := [0, 0, 0, 0, 0, 0, 0, 96, 224, 496, 0, 0, 0, 6144, 14336, 32752, 65523, 131059, 262143, 524287]
theorem tab12 : rtab .any (opsOf Try.f65 12) = T12 := by kernel_rfl
theorem bits12 : waitsOk T12.2 B12 = true := by kernel_rfl
def T16 : Bool × List (List Nat × List Nat) := (true, [([], []), ([], []), ([0, 1], [0, 1]), ([2], [2]), ([], []), ([3, 4], [3, 4]), ([5], [5]), ([6, 0, 1, 2, 3, 4, 5, 6], [6])])
def B16 : List Nat := [0, 0, 3, 7, 0, 31, 63, 127]
theorem tab16 : rtab .any (opsOf Try.f65 16) = T16 := by kernel_rfl
theorem bits16 : waitsOk T16.2 B16 = true := by kernel_rfl
def T18 : Bool × List (List Nat × List Nat) := (true, [([], []), ([], []), ([], []), ([], []), ([], []), ([], []), ([4, 5], [4, 5]), ([6], [6]), ([], []), ([], []), ([], []), ([9, 10], [9, 10]), ([11], [11]), ([7, 8, 12], [7, 8, 12]), ([], []), ([], []), ([14, 15], [14, 15]), ([16], [16]), ([], []), ([], []), ([], []), ([19, 20], [19, 20]), ([21], [21]), ([17, 18, 22, 13], [17, 18, 22]), ([0, 1, 0, 1, 4, 5, 6, 7, 8, 9, 10, 11, 12, 13, 17, 22, 23], [0, 1]), ([24, 13, 23, 0, 1, 4, 5, 6, 7, 8, 9, 10, 11, 12, 13, 17, 22, 23], [13, 24]), ([2, 3, 0, 1, 2, 3, 4, 5, 6, 7, 8, 9, 10, 11, 12, 13, 14, 15, 16, 17, 18, 19, 20, 21, 22, 23, 24, 25], [2, 3]), ([26, 23, 25, 0, 1, 2, 3, 4, 5, 6, 7, 8, 9, 10, 11, 12, 13, 14, 15, 16, 17, 18, 19, 20, 21, 22, 23, 24, 25], [23, 26])])
def B18 : List Nat := [0, 0, 0, 0, 0, 0, 48, 112, 0, 0, 0, 1536, 3584, 8176, 0, 0, 49152, 114688, 0, 0, 0, 1572864, 3670016, 8388592, 16777203, 33554419, 67108863, 134217727]
theorem tab18 : rtab .any (opsOf Try.f65 18) = T18 := by kernel_rfl
theorem bits18 : waitsOk T18.2 B18 = true := by kernel_rfl
def l1 (k c n : Nat) : Nat → Nat → List (List Int) → List (List Int) → Option (List (List Int) × List (List Int))
  | 0, _, M, D => some (M, D)
  | d + 1, i, M, D =>
    if c < (ro M i).length then
      if i = n then l1 k c n d (i + 1) M D
      else if rd (ro M i) (c : Int) = 0 then l1 k c n d (i + 1) M D
      else (solve_without.f k (ro M i) (rd (ro M i) (c : Int)) (ro M n)).bind fun a => (solve_without.f k (ro D i) (rd (ro M i) (c : Int)) (ro D n)).bind fun b =>
        l1 k c n d (i + 1) (M.set i a) (D.set i b)
    else none
def hit (c : Nat) (r : List Int) : Bool := decide (rd r (c : Int) ≠ 0)
def l0 (k : Nat) (all : Bool) : Nat → Nat → Nat → List (List Int) → List (List Int) → Option (Nat × List (List Int) × List (List Int))
  | 0, _, n, M, D => some (n, M, D)
  | f + 1, c, n, M, D =>
    if n < M.length then
      if (M.drop n).all (fun r => decide (c < r.length)) = true then
        if Cf.idx (hit c) (M.drop n) 0 < 0 then (if all = true then l0 k all f (c + 1) n M D else some (n, M, D))
        else
          (field_Inv.f k (rd (ro ((M.set n (ro M (n + (Cf.idx (hit c) (M.drop n) 0).toNat))).set (n + (Cf.idx (hit c) (M.drop n) 0).toNat) (ro M n)) n) (c : Int))).bind fun t =>
          (rows_Scale.f k t (ro ((M.set n (ro M (n + (Cf.idx (hit c) (M.drop n) 0).toNat))).set (n + (Cf.idx (hit c) (M.drop n) 0).toNat) (ro M n)) n)).bind fun a =>
          (rows_Scale.f k t (ro ((D.set n (ro D (n + (Cf.idx (hit c) (M.drop n) 0).toNat))).set (n + (Cf.idx (hit c) (M.drop n) 0).toNat) (ro D n)) n)).bind fun b =>
          (l1 k c n M.length 0 (((M.set n (ro M (n + (Cf.idx (hit c) (M.drop n) 0).toNat))).set (n + (Cf.idx (hit c) (M.drop n) 0).toNat) (ro M n)).set n a) (((D.set n (ro D (n + (Cf.idx (hit c) (M.drop n) 0).toNat))).set (n + (Cf.idx (hit c) (M.drop n) 0).toNat) (ro D n)).set n b)).bind fun P =>
          l0 k all f (c + 1) (n + 1) P.1 P.2
      else none
    else some (n, M, D)
theorem tells (gb c : Nat) (L : List (List Int)) (w : World) (hbox : w.heap[gb]? = some (.cells #[.int .i64 (c : Int)] 3 (0, 0))) (hl : ∀ r ∈ L, c < r.length) (hc : c < 2 ^ 40) :
    Cf.Tells 96 #[.pointer (some ⟨gb, 0, none⟩)] (hit c) L w := by
  intro W j A cc hj hb hC
  have hbox2 : W.heap[gb]? = some (.cells #[.int .i64 (c : Int)] 3 (0, 0)) := blk_below hbox hb
  have hcell : W.cell? ⟨gb, 0, none⟩ = some (.int .i64 (c : Int)) := (blk_cell hbox2 0).trans rfl
  have hlen : c < (Cf.rd_L1 L (j : Int)).length := by
    refine hl _ ?_
    rw [rd_ro]; unfold ro
    rw [List.getD_eq_getElem?_getD, List.getElem?_eq_getElem hj]; exact List.getElem_mem hj
  show Calls Try.prog 96 #[.slice A (Cf.rd_L1 L (j : Int)).length cc, .pointer (some ⟨gb, 0, none⟩)] W fun e w' => e = .returned (.bool (hit c (Cf.rd_L1 L (j : Int)))) ∧ Below w.heap.size w w'
  generalize Cf.rd_L1 L (j : Int) = r at hC hlen
  obtain ⟨ad, rfl, hx⟩ := Kd.at_int hC (c : Int) (by omega) (by omega)
  rw [Int.toNat_natCast] at hx
  have h1 : (c : Int) < (r.length : Int) := by omega
  clear hbox2 hbox hC hl
  unfold hit
  by_cases h : rd r (c : Int) = 0
  · have h2 : (rd r (c : Int) != 0) = false := bne_eq_false_iff_eq.2 h
    have h3 : decide (rd r (c : Int) ≠ 0) = false := decide_eq_false (fun k => k h)
    rw [h3]
    generalize rd r (c : Int) = z at hx h2
    clear h h3
    go_enter Try.func96, Try.ntmps96
    go_wp2
    go_ret
    exact ⟨by simp_all, hb⟩
  · have h2 : (rd r (c : Int) != 0) = true := bne_iff_ne.2 h
    have h3 : decide (rd r (c : Int) ≠ 0) = true := decide_eq_true h
    rw [h3]
    generalize rd r (c : Int) = z at hx h2
    clear h h3
    go_enter Try.func96, Try.ntmps96
    go_wp2
    go_ret
    exact ⟨by simp_all, hb⟩
theorem idx_range (p : List Int → Bool) : ∀ (L : List (List Int)) (i : Int), Cf.idx p L i = -1 ∨ (i ≤ Cf.idx p L i ∧ Cf.idx p L i < i + (L.length : Int)) := by
  intro L
  induction L with
  | nil => intro i; left; rfl
  | cons r L ih =>
    intro i
    unfold Cf.idx
    split
    · right; simp only [List.length_cons]; omega
    · rcases ih (i + 1) with h | h
      · left; exact h
      · right; simp only [List.length_cons]; omega
structure Hd (w0 wr : World) (gm gd gb c : Nat) (M D : List (List Int)) (m : Nat) : Prop where
  box : wr.heap[gb]? = some (.cells #[.int .i64 (c : Int)] 3 (0, 0))
  lo : w0.heap.size ≤ gb
  nm : gb ≠ gm
  nd : gb ≠ gd
  hM : Mat 31 wr gm M
  hD : Mat 31 wr gd D
  lm : M.length = m
  ld : D.length = m
  bel : Below w0.heap.size w0 wr
theorem Hd.grow {w0 wr w2 : World} {gm gd gb c m : Nat} {M D : List (List Int)} (h : Hd w0 wr gm gd gb c M D m) (hb : Below wr.heap.size wr w2) : Hd w0 w2 gm gd gb c M D m :=
  ⟨blk_below h.box hb, h.lo, h.nm, h.nd, h.hM.below hb, h.hD.below hb, h.lm, h.ld, below_step h.bel hb⟩
theorem Hd.fresh {w0 w2 : World} {gm gd c m : Nat} {M D : List (List Int)} (hM : Mat 31 w2 gm M) (hD : Mat 31 w2 gd D) (lm : M.length = m) (ld : D.length = m) (bel : Below w0.heap.size w0 w2) :
    Hd w0 (w2.alloc (.cells #[.int .i64 ((c : Int) + 1)] 3)) gm gd w2.heap.size (c + 1) M D m :=
  ⟨by rw [show ((c + 1 : Nat) : Int) = (c : Int) + 1 from by omega]; exact blk_new w2 _, bel.size, Nat.ne_of_gt hM.lt, Nat.ne_of_gt hD.lt, hM.below ((Below.refl _ _).alloc (Nat.le_refl _) _), hD.below ((Below.refl _ _).alloc (Nat.le_refl _) _), lm, ld, below_alloc bel _⟩
theorem reduce.calls (w0 : World) (k : Nat) (gm gd cm cd : Nat) (width : Nat) (all : Bool) (M D : List (List Int)) (R : Nat × List (List Int) × List (List Int)) (w : World) (hb : Below w0.heap.size w0 w)
    (hgm : w0.heap.size ≤ gm) (hgd : w0.heap.size ≤ gd) (hne : gm ≠ gd) (hM : Mat 31 w gm M) (hD : Mat 31 w gd D) (hl : D.length = M.length) (hcm : M.length ≤ cm) (hcd : M.length ≤ cd) (hbig : M.length < 2 ^ 40) (hw : width ≤ 300)
    (h : l0 k all width 0 0 M D = some R) :
    Calls Try.prog 65 #[.int .i64 (width : Int), .slice (some ⟨gm, 0, none⟩) M.length cm, .slice (some ⟨gd, 0, none⟩) M.length cd, .bool all] w fun e w' => e = .returned (.int .i64 (R.1 : Int)) ∧
      Mat 31 w' gm R.2.1 ∧ Mat 31 w' gd R.2.2 ∧ R.2.1.length = M.length ∧ R.2.2.length = M.length ∧ Below w0.heap.size w0 w' := by
  obtain ⟨m, hm⟩ : ∃ m, M.length = m := ⟨_, rfl⟩
  rw [hm] at hl hcm hcd hbig ⊢
  have HM := zA hM
  have HD := zA hD
  have HB := zA hb
  have HL := zA (And.intro hm hl)
  have HH := zA h
  have HC := zA (And.intro hcm hcd)
  have GM := zA (And.intro hgm (And.intro hgd hne))
  have LT := zA (And.intro hM.lt hD.lt)
  have BIG := zA hbig
  clear hM hD hb hm hl h hcm hcd hgm hgd hne hbig
  go_enter Try.func65, Try.ntmps65
  go_wp2
  go_loopg [9, 10] width (fun gg v9 v10 wr => ∃ (n c gb : Nat) (M1 D1 : List (List Int)), v9 = .int .i64 (n : Int) ∧ v10 = .pointer (some ⟨gb, 0, none⟩) ∧ Aside0 (c + gg = width) ∧ Aside0 (n ≤ m) ∧ Aside0 (l0 k all gg c n M1 D1 = some R) ∧ Aside0 (Hd w0 wr gm gd gb c M1 D1 m))
  case atStart =>
    refine ⟨0, 0, w.heap.size, M, D, by simp, rfl, ⟨Nat.zero_add _⟩, ⟨Nat.zero_le _⟩, HH, ⟨⟨blk_new w _, HB.out.size, Nat.ne_of_gt LT.out.1, Nat.ne_of_gt LT.out.2, HM.out.below ((Below.refl _ _).alloc (Nat.le_refl _) _), HD.out.below ((Below.refl _ _).alloc (Nat.le_refl _) _), HL.out.1, HL.out.2, below_alloc HB.out _⟩⟩⟩
  case round =>
    clear HM HD HB HL HH LT
    obtain ⟨n, c, gb, M1, D1, rfl, rfl, E1, E2, HA, HI⟩ := hrel
    have hbx : wr.cell? ⟨gb, 0, none⟩ = some (.int .i64 (c : Int)) := (blk_cell HI.out.box 0).trans rfl
    have hbf : wr.frozen? ⟨gb, 0, none⟩ = false := blk_frozen HI.out.box 0
    cases gk with
    | zero =>
      have hz : ¬ (c : Int) < (width : Int) := by have := E1.out; omega
      have hr : (n, M1, D1) = R := Option.some.inj HA.out
      subst hr
      go_wp2
      go_ret
      exact ⟨rfl, HI.out.hM, HI.out.hD, HI.out.lm, HI.out.ld, HI.out.bel⟩
    | succ f =>
      have hz : (c : Int) < (width : Int) := by have := E1.out; omega
      have H := HA.out
      clear HA
      unfold l0 at H
      rw [HI.out.lm] at H
      by_cases hn : n < m
      · rw [if_pos hn] at H
        have hnz : (n : Int) < (m : Int) := by omega
        have hnz2 : (n : Int) ≤ (cm : Int) := by have := HC.out.1; omega
        have hnc : ¬ cm = n := by have := HC.out.1; omega
        by_cases hall : (M1.drop n).all (fun r => decide (c < r.length)) = true
        · rw [if_pos hall] at H
          have ALL := zA hall
          have hcon := Cf.index_calls 96 #[.pointer (some ⟨gb, 0, none⟩)] (fun args w => rfl) (hit c) (some ⟨gm, n, none⟩) (cm - n) (M1.drop n) wr (HI.out.hM.drop n (by rw [HI.out.lm]; exact BIG.out)) (tells gb c _ wr HI.out.box (fun r hr => of_decide_eq_true (List.all_eq_true.1 ALL.out r hr)) (by have := E1.out; omega))
          have hrg := idx_range (hit c) (M1.drop n) 0
          rw [List.length_drop, HI.out.lm] at hcon hrg
          generalize Cf.idx (hit c) (M1.drop n) 0 = j at hcon H hrg
          have hcz : (c : Int) ≤ 300 := by omega
          by_cases hj : j < 0
          · rw [if_pos hj] at H
            cases all with
            | true =>
              rw [if_pos rfl] at H
              have H' := zA H
              clear hall H hrg
              go_wp2_with (go_at_call 95; refine hcon.mono ?_; rintro e w2 ⟨rfl, hb2⟩; have hbx2 := (hb2.cell (World.block_lt_of_cell? wr _ hbx)).trans hbx; have HB2 := zA hb2; clear hb2)
              go_roundg f
              case measure => omega
              case rel => exact ⟨n, c + 1, w2.heap.size, M1, D1, rfl, rfl, ⟨by have := E1.out; omega⟩, E2, H', ⟨Hd.fresh (HI.out.hM.below HB2.out) (HI.out.hD.below HB2.out) HI.out.lm HI.out.ld (below_step HI.out.bel HB2.out)⟩⟩
            | false =>
              rw [if_neg (by decide)] at H
              have hr : (n, M1, D1) = R := Option.some.inj H
              clear hall H hrg
              subst hr
              go_wp2_with (go_at_call 95; refine hcon.mono ?_; rintro e w2 ⟨rfl, hb2⟩)
              go_ret
              exact ⟨rfl, HI.out.hM.below hb2, HI.out.hD.below hb2, HI.out.lm, HI.out.ld, below_step HI.out.bel hb2⟩
          · rw [if_neg hj] at H
            obtain ⟨q, rfl⟩ : ∃ q : Nat, j = (q : Int) := ⟨j.toNat, by omega⟩
            rw [Int.toNat_natCast] at H
            have hq : n + q < m := by omega
            have hqz : (n : Int) + (q : Int) < (m : Int) := by omega
            have hqt : ((n : Int) + (q : Int)).toNat = n + q := by omega
            have hqi : IntKind.i64.wrap ((n : Int) + (q : Int)) = (n : Int) + (q : Int) := IntWalk.i64_in _ (by have := BIG.out; omega)
            have hq0 : (0 : Int) ≤ (n : Int) + (q : Int) := by omega
            have H' := zA H
            clear hall H hrg hj
            go_wp2_with (go_at_call 95; refine hcon.mono ?_; rintro e w2 ⟨rfl, hb2⟩; have hbx2 := (hb2.cell (World.block_lt_of_cell? wr _ hbx)).trans hbx; have HB2 := zA hb2; clear hb2)
            clear hcon
            have hM3 : Mat 31 w2.drew gm M1 := (HI.out.hM.below HB2.out).below (Below.refl _ _).drew
            have hD3 : Mat 31 w2.drew gd D1 := (HI.out.hD.below HB2.out).below (Below.refl _ _).drew
            have HB3 := zA (below_step HI.out.bel HB2.out).drew
            have BX3 := zA (show w2.drew.heap[gb]? = some (.cells #[.int .i64 (c : Int)] 3 (0, 0)) from blk_drew (blk_below HI.out.box HB2.out))
            have SZ := zA (And.intro HI.out.lo (And.intro HI.out.nm HI.out.nd))
            have LL := zA (And.intro HI.out.lm HI.out.ld)
            clear HI HB2 hbx2
            refine start_ (n := 20) (S := fun w' => Below w2.drew.heap.size w2.drew w') (ds := [17, 19]) (ms 20 0) (by kernel_rfl) rfl rfl (Below.refl _ _) (fun hHeld => ?_); refine with_tabW tab9 bits9 (fun HT_ HW_ => ?_)
            generalize w2.drew = w3 at hM3 hD3 HB3 BX3 hHeld ⊢
            obtain ⟨An, cn, xn, ln, Cn⟩ := hM3.row n (by rw [LL.out.1]; exact hn)
            obtain ⟨Ap, cp, xp, lp, Cp⟩ := hM3.row (n + q) (by rw [LL.out.1]; exact hq)
            have fn := hM3.frozen n
            refine run_ [(0, false, some 36), (1, false, some 37), (2, false, some 38), (3, false, some 39), (4, false, some 40), (5, false, some 41), (6, false, some 42), (7, false, some 43), (8, false, some 44), (9, false, some 45), (10, false, some 46), (12, false, some 48), (13, false, some 49), (14, false, some 50), (11, true, some 47), (15, true, some 51), (16, false, some 52)] (n := 17) (ms 20 131071) rfl HT_.out HW_.out (by kernel_rfl) (fun _ _ _ _ h => h) hHeld ?_
            repeat (first | (refine Run.p (v := ?_) (a' := ?_) rfl rfl (Or.inl ⟨by rfl, ?_⟩) ?_ ?_; rotate_left; (focus intro w'; go_simp; with_reducible rfl); rotate_left; (focus simp only [Act.put, sx]; rfl)) | (refine Run.t (v := ?_) (a' := ?_) rfl rfl (Or.inl ⟨by rfl, ?_⟩) ?_ ?_; rotate_left; (focus intro w' hS; have s0 := (hS.cell (World.block_lt_of_cell? w3 _ xn)).trans xn; have s1 := (hS.cell (World.block_lt_of_cell? w3 _ xp)).trans xp; go_simp; with_reducible rfl); rotate_left; (focus simp only [Act.put, sx]; rfl)))
            refine Run.nil ?_
            refine last_ (i := 17) (N := none) (ms 20 262143) rfl rfl (one_of HT_.out (by kernel_rfl)) (by decide) (fun K hK => ?_)
            refine skip_ (w1 := ?_) (by rfl) rfl ?_ ?_
            rotate_left
            · go_simp
              rfl
            refine hK.out _ _ ?_
            clear hK K
            have hM4 := hM3.set (i := n) (by rw [LL.out.1]; exact hn) lp Cp
            have hD4 := hD3.far GM.out.2.2 xn (.slice Ap (ro M1 (n + q)).length cp)
            have HB4 := zA (below_set (j := n) (v := .slice Ap (ro M1 (n + q)).length cp) HB3.out GM.out.1)
            have BX4 := zA (blk_far (p := ⟨gm, n, none⟩) BX3.out SZ.out.2.1 (.slice Ap (ro M1 (n + q)).length cp))
            have LN := zA (And.intro ln Cn)
            have CK := zA (rowC_set Cn xn (.slice Ap (ro M1 (n + q)).length cp))
            clear hM3 hD3 HB3 BX3 hHeld xp fn lp Cp Cn
            generalize w3.setCell ⟨gm, n, none⟩ (.slice Ap (ro M1 (n + q)).length cp) = w4 at hM4 hD4 HB4 BX4 CK ⊢
            clear xn
            obtain ⟨Aq, cq, xq, lq, Cq⟩ := hM4.row (n + q) (by rw [List.length_set, LL.out.1]; exact hq)
            have fq := hM4.frozen (n + q)
            refine pure_ (i := 18) (N := some 53) (v := ?_) (a' := ?_) (ms 20 524287) rfl rfl (any_of HT_.out (by kernel_rfl)) (fun _ _ _ h => h) (Or.inl ⟨by rfl, ?_⟩) ?_ ?_
            rotate_left
            · intro w'
              go_simp
              with_reducible rfl
            rotate_left
            · simp only [Act.put, sx]
              rfl
            refine last_ (i := 19) (N := none) (ms 20 1048575) rfl rfl (one_of HT_.out (by kernel_rfl)) (by decide) (fun K hK => ?_)
            refine skip_ (w1 := ?_) (by rfl) rfl ?_ ?_
            rotate_left
            · go_simp
              rfl
            refine hK.out _ _ ?_
            clear hK K
            have hM5 := hM4.set (i := n + q) (by rw [List.length_set, LL.out.1]; exact hq) LN.out.1 CK.out
            have hD5 := hD4.far GM.out.2.2 xq (.slice An (ro M1 n).length cn)
            have HB5 := zA (below_set (j := n + q) (v := .slice An (ro M1 n).length cn) HB4.out GM.out.1)
            have BX5 := zA (blk_far (p := ⟨gm, n + q, none⟩) BX4.out SZ.out.2.1 (.slice An (ro M1 n).length cn))
            clear hM4 hD4 HB4 BX4 CK fq lq Cq LN
            generalize w4.setCell ⟨gm, n + q, none⟩ (.slice An (ro M1 n).length cn) = w5 at hM5 hD5 HB5 BX5 ⊢
            clear xq
            refine done_ (done_of HT_.out (by kernel_rfl)) ?_
            clear HT_ HW_
            have hcl : c < (ro ((M1.set n (ro M1 (n + q))).set (n + q) (ro M1 n)) n).length := by
              have hr : ∀ i, n ≤ i → i < m → c < (ro M1 i).length := fun i h1 h2 => of_decide_eq_true (List.all_eq_true.1 ALL.out _ (ro_mem_drop h1 (by rw [LL.out.1]; exact h2)))
              rw [ro_set _ _ _ _ (by rw [List.length_set, LL.out.1]; exact hq), ro_set _ _ _ _ (by rw [LL.out.1]; exact hn)]
              split
              · exact hr n (Nat.le_refl _) hn
              · rw [if_pos rfl]; exact hr (n + q) (by omega) hq
            have CL := zA hcl
            clear hcl
            obtain ⟨M2, eM2⟩ : ∃ M2, (M1.set n (ro M1 (n + q))).set (n + q) (ro M1 n) = M2 := ⟨_, rfl⟩
            have hL2 : M2.length = m := by rw [← eM2, List.length_set, List.length_set]; exact LL.out.1
            rw [eM2] at hM5
            have hcl := CL.out
            rw [eM2] at hcl
            have CL := zA hcl
            have H2 := H'.out
            rw [eM2] at H2
            have H' := zA H2
            clear H2 hcl
            have LL := zA (And.intro hL2 LL.out.2)
            clear hL2
            try go_wp2
            have hM3 : Mat 31 w5.drew gm M2 := hM5.below (Below.refl _ _).drew
            have hD3 : Mat 31 w5.drew gd D1 := hD5.below (Below.refl _ _).drew
            have HB3 := zA HB5.out.drew
            have BX3 := zA (show w5.drew.heap[gb]? = some (.cells #[.int .i64 (c : Int)] 3 (0, 0)) from blk_drew BX5.out)
            clear hM5 hD5 HB5 BX5
            refine start_ (n := 20) (S := fun w' => Below w5.drew.heap.size w5.drew w') (ds := [17, 19]) (ms 20 0) (by kernel_rfl) rfl rfl (Below.refl _ _) (fun hHeld => ?_); refine with_tabW tab10 bits10 (fun HT_ HW_ => ?_)
            generalize w5.drew = w3 at hM3 hD3 HB3 BX3 hHeld ⊢
            obtain ⟨An, cn, xn, ln, Cn⟩ := hD3.row n (by rw [LL.out.2]; exact hn)
            obtain ⟨Ap, cp, xp, lp, Cp⟩ := hD3.row (n + q) (by rw [LL.out.2]; exact hq)
            have fn := hD3.frozen n
            refine run_ [(0, false, some 54), (1, false, some 55), (2, false, some 56), (3, false, some 57), (4, false, some 58), (5, false, some 59), (6, false, some 60), (7, false, some 61), (8, false, some 62), (9, false, some 63), (10, false, some 64), (12, false, some 66), (13, false, some 67), (14, false, some 68), (11, true, some 65), (15, true, some 69), (16, false, some 70)] (n := 17) (ms 20 131071) rfl HT_.out HW_.out (by kernel_rfl) (fun _ _ _ _ h => h) hHeld ?_
            repeat (first | (refine Run.p (v := ?_) (a' := ?_) rfl rfl (Or.inl ⟨by rfl, ?_⟩) ?_ ?_; rotate_left; (focus intro w'; go_simp; with_reducible rfl); rotate_left; (focus simp only [Act.put, sx]; rfl)) | (refine Run.t (v := ?_) (a' := ?_) rfl rfl (Or.inl ⟨by rfl, ?_⟩) ?_ ?_; rotate_left; (focus intro w' hS; have s0 := (hS.cell (World.block_lt_of_cell? w3 _ xn)).trans xn; have s1 := (hS.cell (World.block_lt_of_cell? w3 _ xp)).trans xp; go_simp; with_reducible rfl); rotate_left; (focus simp only [Act.put, sx]; rfl)))
            refine Run.nil ?_
            refine last_ (i := 17) (N := none) (ms 20 262143) rfl rfl (one_of HT_.out (by kernel_rfl)) (by decide) (fun K hK => ?_)
            refine skip_ (w1 := ?_) (by rfl) rfl ?_ ?_
            rotate_left
            · go_simp
              rfl
            refine hK.out _ _ ?_
            clear hK K
            have hD4 := hD3.set (i := n) (by rw [LL.out.2]; exact hn) lp Cp
            have hM4 := hM3.far (fun k => GM.out.2.2 k.symm) xn (.slice Ap (ro D1 (n + q)).length cp)
            have HB4 := zA (below_set (j := n) (v := .slice Ap (ro D1 (n + q)).length cp) HB3.out GM.out.2.1)
            have BX4 := zA (blk_far (p := ⟨gd, n, none⟩) BX3.out SZ.out.2.2 (.slice Ap (ro D1 (n + q)).length cp))
            have LN := zA (And.intro ln Cn)
            have CK := zA (rowC_set Cn xn (.slice Ap (ro D1 (n + q)).length cp))
            clear hM3 hD3 HB3 BX3 hHeld xp fn lp Cp Cn
            generalize w3.setCell ⟨gd, n, none⟩ (.slice Ap (ro D1 (n + q)).length cp) = w4 at hM4 hD4 HB4 BX4 CK ⊢
            clear xn
            obtain ⟨Aq, cq, xq, lq, Cq⟩ := hD4.row (n + q) (by rw [List.length_set, LL.out.2]; exact hq)
            have fq := hD4.frozen (n + q)
            refine pure_ (i := 18) (N := some 71) (v := ?_) (a' := ?_) (ms 20 524287) rfl rfl (any_of HT_.out (by kernel_rfl)) (fun _ _ _ h => h) (Or.inl ⟨by rfl, ?_⟩) ?_ ?_
            rotate_left
            · intro w'
              go_simp
              with_reducible rfl
            rotate_left
            · simp only [Act.put, sx]
              rfl
            refine last_ (i := 19) (N := none) (ms 20 1048575) rfl rfl (one_of HT_.out (by kernel_rfl)) (by decide) (fun K hK => ?_)
            refine skip_ (w1 := ?_) (by rfl) rfl ?_ ?_
            rotate_left
            · go_simp
              rfl
            refine hK.out _ _ ?_
            clear hK K
            have hD5 := hD4.set (i := n + q) (by rw [List.length_set, LL.out.2]; exact hq) LN.out.1 CK.out
            have hM5 := hM4.far (fun k => GM.out.2.2 k.symm) xq (.slice An (ro D1 n).length cn)
            have HB5 := zA (below_set (j := n + q) (v := .slice An (ro D1 n).length cn) HB4.out GM.out.2.1)
            have BX5 := zA (blk_far (p := ⟨gd, n + q, none⟩) BX4.out SZ.out.2.2 (.slice An (ro D1 n).length cn))
            clear hM4 hD4 HB4 BX4 CK fq lq Cq LN
            generalize w4.setCell ⟨gd, n + q, none⟩ (.slice An (ro D1 n).length cn) = w6 at hM5 hD5 HB5 BX5 ⊢
            clear xq
            refine done_ (done_of HT_.out (by kernel_rfl)) ?_
            clear HT_ HW_
            obtain ⟨D2, eD2⟩ : ∃ D2, (D1.set n (ro D1 (n + q))).set (n + q) (ro D1 n) = D2 := ⟨_, rfl⟩
            have hL2 : D2.length = m := by rw [← eD2, List.length_set, List.length_set]; exact LL.out.2
            rw [eD2] at hD5
            have H := H'.out
            rw [eD2] at H
            clear H'
            have LL := zA (And.intro LL.out.1 hL2)
            clear hL2 hq hqz hqt hqi hq0
            replace H := Option.bind_eq_some_iff.mp H
            obtain ⟨t, A1_, H⟩ := H
            replace H := Option.bind_eq_some_iff.mp H
            obtain ⟨a, A2_, H⟩ := H
            replace H := Option.bind_eq_some_iff.mp H
            obtain ⟨b, A3_, H⟩ := H
            replace H := Option.bind_eq_some_iff.mp H
            obtain ⟨P, A4_, H⟩ := H
            have A1 := zA A1_
            have A2 := zA A2_
            have A3 := zA A3_
            have A4 := zA A4_
            have HN := zA H
            clear A1_ A2_ A3_ A4_ H eD2 eM2
            try go_wp2
            have hbx6 : w6.cell? ⟨gb, 0, none⟩ = some (.int .i64 (c : Int)) := (blk_cell BX5.out 0).trans rfl
            obtain ⟨Ar, cr, xr, lr, Cr⟩ := hM5.row n (by rw [LL.out.1]; exact hn)
            have hclz : (c : Int) < ((ro M2 n).length : Int) := by have := CL.out; omega
            obtain ⟨ad, rfl, hz6⟩ := Kd.at_int Cr (c : Int) (by omega) hclz
            rw [Int.toNat_natCast] at hz6
            have HM6 := zA hM5
            have HD6 := zA hD5
            clear hM5 hD5 lr Cr
            refine start_ (n := 9) (S := fun w' => Below w6.heap.size w6 w') (ds := []) (ms 9 0) (by kernel_rfl) rfl rfl (Below.refl _ _).drew (fun hHeld => ?_); refine with_tabW tab11 bits11 (fun HT_ HW_ => ?_)
            generalize w6.drew = w7 at hHeld ⊢
            refine run_ [(0, false, some 72), (1, false, some 73), (2, false, some 74), (3, true, some 75), (4, true, some 76), (5, false, some 77), (6, true, some 78)] (n := 7) (ms 9 127) rfl HT_.out HW_.out (by kernel_rfl) (fun _ _ _ _ h => h) hHeld ?_
            repeat (first | (refine Run.p (v := ?_) (a' := ?_) rfl rfl (Or.inl ⟨by rfl, ?_⟩) ?_ ?_; rotate_left; (focus intro w'; go_simp; with_reducible rfl); rotate_left; (focus simp only [Act.put, sx]; rfl)) | (refine Run.t (v := ?_) (a' := ?_) rfl rfl (Or.inl ⟨by rfl, ?_⟩) ?_ ?_; rotate_left; (focus intro w' hS; have s0 := (hS.cell (World.block_lt_of_cell? w6 _ xr)).trans xr; have s1 := (hS.cell (World.block_lt_of_cell? w6 _ hbx6)).trans hbx6; have s2 := (hS.cell (World.block_lt_of_cell? w6 _ hz6)).trans hz6; go_simp; with_reducible rfl); rotate_left; (focus simp only [Act.put, sx]; rfl)))
            refine Run.nil ?_
            refine one_ (i := 7) (N := some 79) (ms 9 255) rfl rfl (one_of HT_.out (by kernel_rfl)) (by decide) (fun K hK => ?_)
            refine goes_ Try.func97 (by kernel_rfl) rfl #[.int .u8 (rd (ro M2 n) (c : Int))] (by rfl) rfl rfl (by (try simp only [List.map_toArray, List.map_cons, List.map_nil]); first | done | rfl) ?_
            with_reducible refine (field_Inv.calls k _ t _ A1.out).mono ?_
            rintro e w' ⟨rfl, ⟨nd, rfl⟩⟩
            refine ⟨_, rfl, ?_⟩
            refine hK.out _ _ (pw_below_drewN hHeld nd) (fun hHeld => ?_)
            clear hK K
            generalize w7.drewN nd = w8 at hHeld ⊢
            refine norm_ (a' := ?_) ?_ ?_
            rotate_left
            · show Act.put _ (some 79) _ = _
              simp only [Act.put, sx]
              rfl
            refine pure_ (i := 8) (N := some 12) (v := ?_) (a' := ?_) (ms 9 511) rfl rfl (any_of HT_.out (by kernel_rfl)) (fun _ _ _ h => h) (Or.inl ⟨by rfl, ?_⟩) ?_ ?_
            rotate_left
            · intro w'
              go_simp
              with_reducible rfl
            rotate_left
            · simp only [Act.put, sx]
              rfl
            refine done_ (done_of HT_.out (by kernel_rfl)) ?_
            clear HT_ HW_
            try go_wp2
            have HM8 := zA (HM6.out.below hHeld)
            have HD8 := zA (HD6.out.below hHeld)
            have HB8 := zA (below_step HB5.out hHeld)
            have BX8 := zA (blk_below BX5.out hHeld)
            clear HM6 HD6 HB5 BX5 hHeld xr hbx6 hz6
            obtain ⟨Ar, cr, xr, lr, Cr⟩ := HM8.out.row n (by rw [LL.out.1]; exact hn)
            obtain ⟨As, cs, xs, ls, Cs⟩ := HD8.out.row n (by rw [LL.out.2]; exact hn)
            have LR := zA (And.intro lr (And.intro Cr (And.intro ls Cs)))
            clear lr Cr ls Cs
            refine start_ (n := 20) (S := fun w' => Below w8.heap.size w8 w') (ds := [17, 19]) (ms 20 0) (by kernel_rfl) rfl rfl (Below.refl _ _).drew (fun hHeld => ?_); refine with_tabW tab12 bits12 (fun HT_ HW_ => ?_)
            generalize w8.drew = w9 at hHeld ⊢
            refine run_ [(0, false, some 80), (1, false, some 81), (2, false, some 82), (3, false, some 83), (4, false, some 84), (5, false, some 85), (6, false, some 86), (7, false, some 87), (10, false, some 90), (11, false, some 91), (12, false, some 92), (13, false, some 93), (8, true, some 88), (14, true, some 94)] (n := 14) (ms 20 32255) rfl HT_.out HW_.out (by kernel_rfl) (fun _ _ _ _ h => h) hHeld ?_
            repeat (first | (refine Run.p (v := ?_) (a' := ?_) rfl rfl (Or.inl ⟨by rfl, ?_⟩) ?_ ?_; rotate_left; (focus intro w'; go_simp; with_reducible rfl); rotate_left; (focus simp only [Act.put, sx]; rfl)) | (refine Run.t (v := ?_) (a' := ?_) rfl rfl (Or.inl ⟨by rfl, ?_⟩) ?_ ?_; rotate_left; (focus intro w' hS; have s0 := (hS.cell (World.block_lt_of_cell? w8 _ xr)).trans xr; have s1 := (hS.cell (World.block_lt_of_cell? w8 _ xs)).trans xs; go_simp; with_reducible rfl); rotate_left; (focus simp only [Act.put, sx]; rfl)))
            refine Run.nil ?_
            refine one_ (i := 9) (N := some 89) (ms 20 32767) rfl rfl (one_of HT_.out (by kernel_rfl)) (by decide) (fun K hK => ?_)
            refine goes_ Try.func98 (by kernel_rfl) rfl #[.int .u8 t, .slice Ar (ro M2 n).length cr] (by rfl) rfl rfl (by (try simp only [List.map_toArray, List.map_cons, List.map_nil]); first | done | rfl) ?_
            with_reducible refine (rows_Scale.calls k t Ar cr (ro M2 n) a _ (Kd.C_below LR.out.2.1 hHeld) LR.out.1 A2.out).mono ?_
            rintro e w10 ⟨va, rfl, ho_, hb_⟩
            refine ⟨_, rfl, ?_⟩
            obtain ⟨Ava, cva, rfl, lva, Cva⟩ := Kd.R_reads ho_
            clear ho_
            refine hK.out _ _ (below_step hHeld hb_) (fun hHeld => ?_)
            clear hK K
            refine norm_ (a' := ?_) ?_ ?_
            rotate_left
            · show Act.put _ (some 89) _ = _
              simp only [Act.put, sx]
              rfl
            have Ca2 := zA Cva
            have LA := zA lva
            clear hb_ Cva lva
            refine one_ (i := 15) (N := some 95) (ms 20 65535) rfl rfl (one_of HT_.out (by kernel_rfl)) (by decide) (fun K hK => ?_)
            refine goes_ Try.func98 (by kernel_rfl) rfl #[.int .u8 t, .slice As (ro D2 n).length cs] (by rfl) rfl rfl (by (try simp only [List.map_toArray, List.map_cons, List.map_nil]); first | done | rfl) ?_
            with_reducible refine (rows_Scale.calls k t As cs (ro D2 n) b _ (Kd.C_below LR.out.2.2.2 hHeld) LR.out.2.2.1 A3.out).mono ?_
            rintro e w11 ⟨vb, rfl, ho_, hb_⟩
            refine ⟨_, rfl, ?_⟩
            obtain ⟨Avb, cvb, rfl, lvb, Cvb⟩ := Kd.R_reads ho_
            clear ho_
            refine hK.out _ _ (below_step hHeld hb_) (fun hHeld => ?_)
            clear hK K
            refine norm_ (a' := ?_) ?_ ?_
            rotate_left
            · show Act.put _ (some 95) _ = _
              simp only [Act.put, sx]
              rfl
            have Ca := Kd.C_below Ca2.out hb_
            have Cb := Cvb
            have LB := zA lvb
            clear hb_ Cvb lvb Ca2
            have hM := HM8.out.below hHeld
            have hD := HD8.out.below hHeld
            have HB := zA (below_step HB8.out hHeld)
            have BX := zA (blk_below BX8.out hHeld)
            clear HM8 HD8 HB8 BX8 hHeld xr xs LR
            obtain ⟨A0_, c0_, x0_, l0_, C0_⟩ := hM.row (n) (by rw [LL.out.1]; exact hn)
            have f0_ := hM.frozen (n)
            clear l0_ C0_
            refine pure_ (i := 16) (N := some 96) (v := ?_) (a' := ?_) (ms 20 131071) rfl rfl (any_of HT_.out (by kernel_rfl)) (fun _ _ _ h => h) (Or.inl ⟨by rfl, ?_⟩) ?_ ?_
            rotate_left
            · intro w'
              go_simp
              with_reducible rfl
            rotate_left
            · simp only [Act.put, sx]
              rfl
            refine last_ (i := 17) (N := none) (ms 20 262143) rfl rfl (one_of HT_.out (by kernel_rfl)) (by decide) (fun K hK => ?_)
            refine skip_ (w1 := ?_) (by rfl) rfl ?_ ?_
            rotate_left
            · go_simp
              rfl
            refine hK.out _ _ ?_
            clear hK K
            have hS_ := hM.set (i := n) (by rw [LL.out.1]; exact hn) LA.out Ca
            have hO_ := hD.far GM.out.2.2 x0_ (.slice Ava a.length cva)
            have q0_ := rowC_set Cb x0_ (.slice Ava a.length cva)
            have HB_ := zA (below_set (j := n) (v := .slice Ava a.length cva) HB.out GM.out.1)
            have BX_ := zA (blk_far (p := ⟨gm, n, none⟩) BX.out SZ.out.2.1 (.slice Ava a.length cva))
            clear hM hD HB BX f0_ Cb
            generalize w11.setCell ⟨gm, n, none⟩ (.slice Ava a.length cva) = w12 at hS_ hO_ HB_ BX_ q0_ ⊢
            clear x0_
            have hM := hS_
            have hD := hO_
            have HB := HB_
            have BX := BX_
            clear hS_ hO_ HB_ BX_
            have Cb := q0_
            clear q0_
            have hLM : (M2.set n a).length = m := by rw [List.length_set]; exact LL.out.1
            obtain ⟨A0_, c0_, x0_, l0_, C0_⟩ := hD.row (n) (by rw [LL.out.2]; exact hn)
            have f0_ := hD.frozen (n)
            clear l0_ C0_
            refine pure_ (i := 18) (N := some 97) (v := ?_) (a' := ?_) (ms 20 524287) rfl rfl (any_of HT_.out (by kernel_rfl)) (fun _ _ _ h => h) (Or.inl ⟨by rfl, ?_⟩) ?_ ?_
            rotate_left
            · intro w'
              go_simp
              with_reducible rfl
            rotate_left
            · simp only [Act.put, sx]
              rfl
            refine last_ (i := 19) (N := none) (ms 20 1048575) rfl rfl (one_of HT_.out (by kernel_rfl)) (by decide) (fun K hK => ?_)
            refine skip_ (w1 := ?_) (by rfl) rfl ?_ ?_
            rotate_left
            · go_simp
              rfl
            refine hK.out _ _ ?_
            clear hK K
            have hS_ := hD.set (i := n) (by rw [LL.out.2]; exact hn) LB.out Cb
            have hO_ := hM.far (fun k => GM.out.2.2 k.symm) x0_ (.slice Avb b.length cvb)
            have HB_ := zA (below_set (j := n) (v := .slice Avb b.length cvb) HB.out GM.out.2.1)
            have BX_ := zA (blk_far (p := ⟨gd, n, none⟩) BX.out SZ.out.2.2 (.slice Avb b.length cvb))
            clear hM hD HB BX f0_
            generalize w12.setCell ⟨gd, n, none⟩ (.slice Avb b.length cvb) = w13 at hS_ hO_ HB_ BX_  ⊢
            clear x0_
            have hD := hS_
            have hM := hO_
            have HB := HB_
            have BX := BX_
            clear hS_ hO_ HB_ BX_
            have hLD : (D2.set n b).length = m := by rw [List.length_set]; exact LL.out.2
            refine done_ (done_of HT_.out (by kernel_rfl)) ?_
            clear HT_ HW_ LA LB A1 A2 A3 CL LL
            obtain ⟨M3, eM3⟩ : ∃ M3, M2.set n a = M3 := ⟨_, rfl⟩
            obtain ⟨D3, eD3⟩ : ∃ D3, D2.set n b = D3 := ⟨_, rfl⟩
            have H4 := A4.out
            rw [eM3, eD3] at H4
            rw [eM3] at hM hLM
            rw [eD3] at hD hLD
            have HM := zA hM
            have HD := zA hD
            have A4 := zA H4
            have LL := zA (And.intro hLM hLD)
            clear hM hD H4 hLM hLD eM3 eD3
            try go_wp2
            go_loopg [100] m (fun gg v100 wq => ∃ (i : Nat) (M4 D4 : List (List Int)), v100 = .int .i64 (i : Int) ∧ Aside0 (i + gg = m) ∧ Aside0 (l1 k c n gg i M4 D4 = some P) ∧ Aside0 (Hd w0 wq gm gd gb c M4 D4 m))
            case atStart => exact ⟨0, M3, D3, by simp, ⟨Nat.zero_add _⟩, A4, ⟨⟨BX.out, SZ.out.1, SZ.out.2.1, SZ.out.2.2, HM.out, HD.out, LL.out.1, LL.out.2, HB.out⟩⟩⟩
            case round =>
              clear HM HD HB BX LL A4
              obtain ⟨i, M4, D4, rfl, F1, HA2, HI2⟩ := hrel
              have hbq : wr.cell? ⟨gb, 0, none⟩ = some (.int .i64 (c : Int)) := (blk_cell HI2.out.box 0).trans rfl
              have hfq : wr.frozen? ⟨gb, 0, none⟩ = false := blk_frozen HI2.out.box 0
              cases gk with
              | zero =>
                have hi : ¬ (i : Int) < (m : Int) := by have := F1.out; omega
                have hP : (M4, D4) = P := Option.some.inj HA2.out
                subst hP
                have hnb : (n : Int) < 1099511627776 := by have := BIG.out; omega
                go_wp2
                go_roundg f
                case measure => omega
                case rel => exact ⟨n + 1, c + 1, wr.heap.size, M4, D4, by go_num, rfl, ⟨by have := E1.out; omega⟩, ⟨by omega⟩, HN, ⟨Hd.fresh HI2.out.hM HI2.out.hD HI2.out.lm HI2.out.ld HI2.out.bel⟩⟩
              | succ d =>
                have hi : i < m := by have := F1.out; omega
                have hiz : (i : Int) < (m : Int) := by omega
                have hib : (i : Int) < 1099511627776 := by have := BIG.out; omega
                have H := HA2.out
                clear HA2
                unfold l1 at H
                by_cases hc2 : c < (ro M4 i).length
                · rw [if_pos hc2] at H
                  have hclz : (c : Int) < ((ro M4 i).length : Int) := by omega
                  obtain ⟨Ar, cr, xr, lr, Cr⟩ := HI2.out.hM.row i (by rw [HI2.out.lm]; exact hi)
                  obtain ⟨ad, eAr, hz6⟩ := Kd.at_int Cr (c : Int) (by omega) hclz
                  rw [Int.toNat_natCast] at hz6
                  obtain ⟨z, hz⟩ : ∃ z, rd (ro M4 i) (c : Int) = z := ⟨_, rfl⟩
                  rw [hz] at hz6 H
                  have HR := zA Cr
                  have H' := zA H
                  clear H hz lr Cr hc2
                  subst eAr
                  go_wp2
                  refine start_ (n := 8) (S := fun w' => Below wr.heap.size wr w') (ds := []) (ms 8 0) (by kernel_rfl) rfl rfl (Below.refl _ _).drew (fun hHeld => ?_); refine with_tabW tab16 bits16 (fun HT_ HW_ => ?_)
                  generalize wr.drew = w14 at hHeld ⊢
                  refine run_ [(0, false, some 103), (1, false, some 104), (2, false, some 105), (3, true, some 106), (4, true, some 107), (5, false, some 108), (6, true, some 109), (7, false, some 14)] (n := 8) (ms 8 255) rfl HT_.out HW_.out (by kernel_rfl) (fun _ _ _ _ h => h) hHeld ?_
                  repeat (first | (refine Run.p (v := ?_) (a' := ?_) rfl rfl (Or.inl ⟨by rfl, ?_⟩) ?_ ?_; rotate_left; (focus intro w'; go_simp; with_reducible rfl); rotate_left; (focus simp only [Act.put, sx]; rfl)) | (refine Run.t (v := ?_) (a' := ?_) rfl rfl (Or.inl ⟨by rfl, ?_⟩) ?_ ?_; rotate_left; (focus intro w' hS; have s0 := (hS.cell (World.block_lt_of_cell? wr _ xr)).trans xr; have s1 := (hS.cell (World.block_lt_of_cell? wr _ hbq)).trans hbq; have s2 := (hS.cell (World.block_lt_of_cell? wr _ hz6)).trans hz6; go_simp; with_reducible rfl); rotate_left; (focus simp only [Act.put, sx]; rfl)))
                  refine Run.nil ?_
                  refine done_ (done_of HT_.out (by kernel_rfl)) ?_
                  clear HT_ HW_
                  have HI3 := zA (HI2.out.grow hHeld)
                  have hR3 : RowC w14 (some ad) (ro M4 i) := Kd.C_below HR.out hHeld
                  have HR3 := zA hR3
                  clear HI2 HR hHeld xr hz6 hbq hfq hR3
                  by_cases hin : i = n
                  · have h1 : ((i : Int) != (n : Int)) = false := bne_eq_false_iff_eq.2 (by omega)
                    have h2 : ((i : Int) == (n : Int)) = true := beq_iff_eq.2 (by omega)
                    have H := H'.out
                    rw [if_pos hin] at H
                    have H' := zA H
                    clear H hin
                    go_wp2
                    go_roundg d
                    case measure => omega
                    case rel => exact ⟨i + 1, M4, D4, by go_num, ⟨by have := F1.out; omega⟩, H', HI3⟩
                  · have h1 : ((i : Int) != (n : Int)) = true := bne_iff_ne.2 (by omega)
                    have h2 : ((i : Int) == (n : Int)) = false := beq_eq_false_iff_ne.2 (by omega)
                    have H := H'.out
                    rw [if_neg hin] at H
                    clear hin H'
                    by_cases hz : z = 0
                    · have h3 : (z != 0) = false := bne_eq_false_iff_eq.2 hz
                      have h4 : (z == 0) = true := beq_iff_eq.2 hz
                      rw [if_pos hz] at H
                      have H' := zA H
                      clear H hz
                      go_wp2
                      go_roundg d
                      case measure => omega
                      case rel => exact ⟨i + 1, M4, D4, by go_num, ⟨by have := F1.out; omega⟩, H', HI3⟩
                    · have h3 : (z != 0) = true := bne_iff_ne.2 hz
                      have h4 : (z == 0) = false := beq_eq_false_iff_ne.2 hz
                      rw [if_neg hz] at H
                      have H' := zA H
                      clear H hz
                      go_wp2
                      replace H' := Option.bind_eq_some_iff.mp H'.out
                      obtain ⟨a2, A5_, H⟩ := H'
                      replace H := Option.bind_eq_some_iff.mp H
                      obtain ⟨b2, A6_, H⟩ := H
                      have A5 := zA A5_
                      have A6 := zA A6_
                      have HN2 := zA H
                      clear A5_ A6_ H HR3 h1 h2 h3 h4
                      obtain ⟨Ai, ci, xi, li, Ci⟩ := HI3.out.hM.row i (by rw [HI3.out.lm]; exact hi)
                      obtain ⟨An, cn, xn, ln, Cn⟩ := HI3.out.hM.row n (by rw [HI3.out.lm]; exact hn)
                      obtain ⟨Ei, ei, yi, ki, Di⟩ := HI3.out.hD.row i (by rw [HI3.out.ld]; exact hi)
                      obtain ⟨En, en, yn, kn, Dn⟩ := HI3.out.hD.row n (by rw [HI3.out.ld]; exact hn)
                      have LR := zA (And.intro (And.intro li Ci) (And.intro (And.intro ln Cn) (And.intro (And.intro ki Di) (And.intro kn Dn))))
                      clear li Ci ln Cn ki Di kn Dn
                      refine start_ (n := 28) (S := fun w' => Below w14.heap.size w14 w') (ds := [25, 27]) (ms 28 0) (by kernel_rfl) rfl rfl (Below.refl _ _).drew (fun hHeld => ?_); refine with_tabW tab18 bits18 (fun HT_ HW_ => ?_)
                      generalize w14.drew = w15 at hHeld ⊢
                      refine run_ [(0, false, some 117), (1, false, some 118), (2, false, some 119), (3, false, some 120), (4, false, some 121), (5, false, some 122), (6, false, some 123), (8, false, some 125), (9, false, some 126), (10, false, some 127), (11, false, some 128), (14, false, some 131), (15, false, some 132), (16, false, some 133), (18, false, some 135), (19, false, some 136), (20, false, some 137), (21, false, some 138), (7, true, some 124), (12, true, some 129), (17, true, some 134), (22, true, some 139)] (n := 22) (ms 28 8380415) rfl HT_.out HW_.out (by kernel_rfl) (fun _ _ _ _ h => h) hHeld ?_
                      repeat (first | (refine Run.p (v := ?_) (a' := ?_) rfl rfl (Or.inl ⟨by rfl, ?_⟩) ?_ ?_; rotate_left; (focus intro w'; go_simp; with_reducible rfl); rotate_left; (focus simp only [Act.put, sx]; rfl)) | (refine Run.t (v := ?_) (a' := ?_) rfl rfl (Or.inl ⟨by rfl, ?_⟩) ?_ ?_; rotate_left; (focus intro w' hS; have s0 := (hS.cell (World.block_lt_of_cell? w14 _ xi)).trans xi; have s1 := (hS.cell (World.block_lt_of_cell? w14 _ xn)).trans xn; have s2 := (hS.cell (World.block_lt_of_cell? w14 _ yi)).trans yi; have s3 := (hS.cell (World.block_lt_of_cell? w14 _ yn)).trans yn; go_simp; with_reducible rfl); rotate_left; (focus simp only [Act.put, sx]; rfl)))
                      refine Run.nil ?_
                      refine one_ (i := 13) (N := some 130) (ms 28 8388607) rfl rfl (one_of HT_.out (by kernel_rfl)) (by decide) (fun K hK => ?_)
                      refine goes_ Try.func99 (by kernel_rfl) rfl #[.slice Ai (ro M4 i).length ci, .int .u8 z, .slice An (ro M4 n).length cn] (by rfl) rfl rfl (by (try simp only [List.map_toArray, List.map_cons, List.map_nil]); first | done | rfl) ?_
                      with_reducible refine (solve_without.calls k (fun _ => True) Ai ci (ro M4 i) z An cn (ro M4 n) a2 _ (rowV (Kd.C_below LR.out.1.2 hHeld) LR.out.1.1) (Kd.C_below LR.out.2.1.2 hHeld) LR.out.2.1.1 A5.out).mono ?_
                      rintro e w16 ⟨va, rfl, ho_, hb_⟩
                      refine ⟨_, rfl, ?_⟩
                      obtain ⟨Ava, cva, rfl, lva, Cva⟩ := Kd.R_reads ho_
                      clear ho_
                      refine hK.out _ _ (below_step hHeld hb_) (fun hHeld => ?_)
                      clear hK K
                      refine norm_ (a' := ?_) ?_ ?_
                      rotate_left
                      · show Act.put _ (some 130) _ = _
                        simp only [Act.put, sx]
                        rfl
                      have Ca2 := zA Cva
                      have LA := zA lva
                      clear hb_ Cva lva
                      refine one_ (i := 23) (N := some 140) (ms 28 16777215) rfl rfl (one_of HT_.out (by kernel_rfl)) (by decide) (fun K hK => ?_)
                      refine goes_ Try.func99 (by kernel_rfl) rfl #[.slice Ei (ro D4 i).length ei, .int .u8 z, .slice En (ro D4 n).length en] (by rfl) rfl rfl (by (try simp only [List.map_toArray, List.map_cons, List.map_nil]); first | done | rfl) ?_
                      with_reducible refine (solve_without.calls k (fun _ => True) Ei ei (ro D4 i) z En en (ro D4 n) b2 _ (rowV (Kd.C_below LR.out.2.2.1.2 hHeld) LR.out.2.2.1.1) (Kd.C_below LR.out.2.2.2.2 hHeld) LR.out.2.2.2.1 A6.out).mono ?_
                      rintro e w17 ⟨vb, rfl, ho_, hb_⟩
                      refine ⟨_, rfl, ?_⟩
                      obtain ⟨Avb, cvb, rfl, lvb, Cvb⟩ := Kd.R_reads ho_
                      clear ho_
                      refine hK.out _ _ (below_step hHeld hb_) (fun hHeld => ?_)
                      clear hK K
                      refine norm_ (a' := ?_) ?_ ?_
                      rotate_left
                      · show Act.put _ (some 140) _ = _
                        simp only [Act.put, sx]
                        rfl
                      have Ca := Kd.C_below Ca2.out hb_
                      have Cb := Cvb
                      have LB := zA lvb
                      clear hb_ Cvb lvb Ca2
                      have hM := HI3.out.hM.below hHeld
                      have hD := HI3.out.hD.below hHeld
                      have HB := zA (below_step HI3.out.bel hHeld)
                      have BX := zA (blk_below HI3.out.box hHeld)
                      have LL := zA (And.intro HI3.out.lm HI3.out.ld)
                      clear HI3 hHeld xi xn yi yn LR
                      obtain ⟨A0_, c0_, x0_, l0_, C0_⟩ := hM.row (i) (by rw [LL.out.1]; exact hi)
                      have f0_ := hM.frozen (i)
                      clear l0_ C0_
                      refine pure_ (i := 24) (N := some 141) (v := ?_) (a' := ?_) (ms 28 33554431) rfl rfl (any_of HT_.out (by kernel_rfl)) (fun _ _ _ h => h) (Or.inl ⟨by rfl, ?_⟩) ?_ ?_
                      rotate_left
                      · intro w'
                        go_simp
                        with_reducible rfl
                      rotate_left
                      · simp only [Act.put, sx]
                        rfl
                      refine last_ (i := 25) (N := none) (ms 28 67108863) rfl rfl (one_of HT_.out (by kernel_rfl)) (by decide) (fun K hK => ?_)
                      refine skip_ (w1 := ?_) (by rfl) rfl ?_ ?_
                      rotate_left
                      · go_simp
                        rfl
                      refine hK.out _ _ ?_
                      clear hK K
                      have hS_ := hM.set (i := i) (by rw [LL.out.1]; exact hi) LA.out Ca
                      have hO_ := hD.far GM.out.2.2 x0_ (.slice Ava a2.length cva)
                      have q0_ := rowC_set Cb x0_ (.slice Ava a2.length cva)
                      have HB_ := zA (below_set (j := i) (v := .slice Ava a2.length cva) HB.out GM.out.1)
                      have BX_ := zA (blk_far (p := ⟨gm, i, none⟩) BX.out SZ.out.2.1 (.slice Ava a2.length cva))
                      clear hM hD HB BX f0_ Cb
                      generalize w17.setCell ⟨gm, i, none⟩ (.slice Ava a2.length cva) = w18 at hS_ hO_ HB_ BX_ q0_ ⊢
                      clear x0_
                      have hM := hS_
                      have hD := hO_
                      have HB := HB_
                      have BX := BX_
                      clear hS_ hO_ HB_ BX_
                      have Cb := q0_
                      clear q0_
                      obtain ⟨A0_, c0_, x0_, l0_, C0_⟩ := hD.row (i) (by rw [LL.out.2]; exact hi)
                      have f0_ := hD.frozen (i)
                      clear l0_ C0_
                      refine pure_ (i := 26) (N := some 142) (v := ?_) (a' := ?_) (ms 28 134217727) rfl rfl (any_of HT_.out (by kernel_rfl)) (fun _ _ _ h => h) (Or.inl ⟨by rfl, ?_⟩) ?_ ?_
                      rotate_left
                      · intro w'
                        go_simp
                        with_reducible rfl
                      rotate_left
                      · simp only [Act.put, sx]
                        rfl
                      refine last_ (i := 27) (N := none) (ms 28 268435455) rfl rfl (one_of HT_.out (by kernel_rfl)) (by decide) (fun K hK => ?_)
                      refine skip_ (w1 := ?_) (by rfl) rfl ?_ ?_
                      rotate_left
                      · go_simp
                        rfl
                      refine hK.out _ _ ?_
                      clear hK K
                      have hS_ := hD.set (i := i) (by rw [LL.out.2]; exact hi) LB.out Cb
                      have hO_ := hM.far (fun k => GM.out.2.2 k.symm) x0_ (.slice Avb b2.length cvb)
                      have HB_ := zA (below_set (j := i) (v := .slice Avb b2.length cvb) HB.out GM.out.2.1)
                      have BX_ := zA (blk_far (p := ⟨gd, i, none⟩) BX.out SZ.out.2.2 (.slice Avb b2.length cvb))
                      clear hM hD HB BX f0_
                      generalize w18.setCell ⟨gd, i, none⟩ (.slice Avb b2.length cvb) = w19 at hS_ hO_ HB_ BX_  ⊢
                      clear x0_
                      have hD := hS_
                      have hM := hO_
                      have HB := HB_
                      have BX := BX_
                      clear hS_ hO_ HB_ BX_
                      refine done_ (done_of HT_.out (by kernel_rfl)) ?_
                      clear HT_ HW_ LA LB A5 A6
                      have HI5 := zA (show Hd w0 w19 gm gd gb c (M4.set i a2) (D4.set i b2) m from ⟨BX.out, SZ.out.1, SZ.out.2.1, SZ.out.2.2, hM, hD, by rw [List.length_set]; exact LL.out.1, by rw [List.length_set]; exact LL.out.2, HB.out⟩)
                      clear hM hD HB BX LL
                      go_wp2
                      go_roundg d
                      case measure => omega
                      case rel => exact ⟨i + 1, M4.set i a2, D4.set i b2, by go_num, ⟨by have := F1.out; omega⟩, HN2, HI5⟩
                · rw [if_neg hc2] at H
                  cases H
        · rw [if_neg hall] at H
          cases H
      · rw [if_neg hn] at H
        have hnz : ¬ (n : Int) < (m : Int) := by omega
        have hr : (n, M1, D1) = R := Option.some.inj H
        clear H
        subst hr
        go_wp2
        go_ret
        exact ⟨rfl, HI.out.hM, HI.out.hD, HI.out.lm, HI.out.ld, HI.out.bel⟩
end Go.Proofs.Ytbfhinfblepidaa.RdSolveTells
