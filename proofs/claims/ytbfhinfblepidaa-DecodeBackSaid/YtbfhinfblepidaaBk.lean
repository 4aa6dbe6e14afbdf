/- fountainlaw11.DecodeBack: it answers true, if what it calls comes to what is said. Conditions: those that stand in the theorems. -/
import Derived.Test.YtbfhinfblepidaaBr
import Derived.Test.YtbfhinfblepidaaDz
import Derived.Test.YtbfhinfblepidaaPDecodeTellsx10
import Derived.Laws.BitsLemmas
namespace Go.Proofs.Ytbfhinfblepidaa.Bk
open Go.RowKit Go.Lib Go.Proofs.Ytbfhinfblepidaa.PSolveTells Go.Proofs.Ytbfhinfblepidaa.PSeedTells Go.Proofs.Ytbfhinfblepidaa.PBlockTells Go.Proofs.Ytbfhinfblepidaa.PDecodeTells Go.Proofs.YtbfhinfblepidaaW.PrintWords Go.Proofs.YtbfhinfblepidaaW.PrintLast Go.Proofs.YtbfhinfblepidaaW.PrintMore Go.Proofs.Ytbfhinfblepidaa.Mt Go.Proofs.Ytbfhinfblepidaa.Bs Go.Proofs.Ytbfhinfblepidaa.Bn Go.Proofs.Ytbfhinfblepidaa.Br Go.Proofs.Ytbfhinfblepidaa.Dm
set_option linter.unusedVariables false
set_option linter.unusedSimpArgs false
set_option maxHeartbeats 8000000
set_option maxRecDepth 100000
theorem rsymR.calls (k g : Nat) (K0 j size : Int) (A : Option Addr) (c : Nat) (P : List (List Int)) (esi : Int) (x : List Int) (w : World) (hbox : RBlk w g K0 j size A c P.length)
    (hP : (Kd.slice 5 (Kd.int .u8)).C w A P.length P) (hc : P.length ≤ c) (h0 : 0 ≤ esi ∧ esi < 16777216) (h : fountainref1_Drop.f k K0 j size P esi = some x) :
    Calls Try.prog 51 #[.pointer (some ⟨g, 0, none⟩), .int .i64 esi] w fun e w' => ∃ v : Value, e = .returned (.tuple #[v, .int .i64 0]) ∧ Kd.R (Kd.int .u8) 5 w' w.heap.size (fun _ => True) v x ∧ Below w.heap.size w w' := by
  have BX := zA hbox
  have DR := zA h
  have HP := zA hP
  have LC := zA hc
  have h1 : ¬ esi < 0 := by omega
  have h2 : ¬ 16777216 ≤ esi := by omega
  clear h hP hc hbox h0
  go_enter Try.func51, Try.ntmps51
  go_wp2
  refine start_ (n := 20) (S := fun w' => Below w.heap.size w w') (ds := []) (ms 20 0) (by kernel_rfl) rfl rfl (Below.refl _ _).drew (fun hHeld => ?_); refine with_tabW tab4 bits4 (fun HT_ HW_ => ?_)
  have CW := zA (Kd.C_drew HP.out)
  have HB := zA (show Below w.heap.size w w.drew from (Below.refl _ _).drew)
  clear HP
  generalize w.drew = w1 at hHeld CW HB ⊢
  refine run_ [(0, false, some 12), (1, false, some 13), (2, false, some 14), (3, true, some 15), (4, false, some 16), (5, false, some 17), (6, false, some 18), (7, true, some 19), (8, false, some 20), (9, false, some 21), (10, false, some 22), (11, true, some 23), (12, false, some 24), (13, false, some 25), (14, false, some 26), (15, true, some 27), (16, false, some 28)] (n := 17) (ms 20 131071) rfl HT_.out HW_.out (by kernel_rfl) (fun _ _ _ _ h => h) hHeld ?_
  repeat (first | (refine Run.p (v := ?_) (a' := ?_) rfl rfl (Or.inl ⟨by rfl, ?_⟩) ?_ ?_; rotate_left; (focus intro w'; go_simp; with_reducible rfl); rotate_left; (focus simp only [Act.put, sx]; rfl)) | (refine Run.t (v := ?_) (a' := ?_) rfl rfl (Or.inl ⟨by rfl, ?_⟩) ?_ ?_; rotate_left; (focus intro w' hS; have b_ := blk_below BX.out hS; have s0 : w'.cell? ⟨g, 0, none⟩ = some (.int .i64 K0) := (blk_cell b_ 0).trans rfl; have s1 : w'.cell? ⟨g, 1, none⟩ = some (.int .i64 j) := (blk_cell b_ 1).trans rfl; have s2 : w'.cell? ⟨g, 2, none⟩ = some (.int .i64 size) := (blk_cell b_ 2).trans rfl; have s3 : w'.cell? ⟨g, 3, none⟩ = some (.slice A P.length c) := (blk_cell b_ 3).trans rfl; go_simp; with_reducible rfl); rotate_left; (focus simp only [Act.put, sx]; rfl)))
  refine Run.nil ?_
  refine one_ (i := 17) (N := some 29) (ms 20 262143) rfl rfl (one_of HT_.out (by kernel_rfl)) (by decide) (fun K hK => ?_)
  refine goes_ Try.func85 (by kernel_rfl) rfl #[.int .i64 K0, .int .i64 j, .int .i64 size, .slice A P.length c, .int .i64 esi] (by rfl) rfl rfl agl ?_
  with_reducible refine (fountainref1_Drop.calls k K0 j size (fun _ => True) A c P esi x _ (Bs.VofC CW.out LC.out _) DR.out).mono ?_
  rintro e w2 ⟨v, rfl, ho_, hb_⟩
  refine ⟨_, rfl, ?_⟩
  obtain ⟨Ar, cr, rfl, _, _⟩ := Kd.R_reads ho_
  have H2 := zA (Kd.R_mono (ok' := fun _ => True) (Kd.R_lower ho_ HB.out.size) (fun _ _ => trivial))
  have B2 := zA (below_step HB.out hb_)
  clear ho_ hb_
  refine hK.out _ _ B2.out (fun hHeld => ?_)
  clear hK
  refine norm_ (a' := ?_) ?_ ?_
  rotate_left
  · show Act.put _ (some 29) _ = _
    simp only [Act.put, sx]
    rfl
  refine pure_ (i := 18) (N := some 4) (v := ?_) (a' := ?_) (ms 20 524287) rfl rfl (any_of HT_.out (by kernel_rfl)) (fun _ _ _ h => h) (Or.inl ⟨by rfl, ?_⟩) ?_ ?_
  rotate_left
  · intro w'
    go_simp
    with_reducible rfl
  rotate_left
  · simp only [Act.put, sx]
    rfl
  refine pure_ (i := 19) (N := some 5) (v := ?_) (a' := ?_) (ms 20 1048575) rfl rfl (any_of HT_.out (by kernel_rfl)) (fun _ _ _ h => h) (Or.inl ⟨by rfl, ?_⟩) ?_ ?_
  rotate_left
  · intro w'
    go_simp
    with_reducible rfl
  rotate_left
  · simp only [Act.put, sx]
    rfl
  refine done_ (done_of HT_.out (by kernel_rfl)) ?_
  try go_wp2
  go_ret2
  exact ⟨_, rfl, H2.out, B2.out⟩
def msk (e : Int) : Int := if 0 < bits .and .i64 (e / 16777216) 3 then bits .and .i64 (bits .and .i64 e 16777215) 15 else bits .and .i64 e 16777215
theorem and_mod (n : Int) (i : Nat) (hi : i ≤ 60) : bits .and .i64 n (2 ^ i - 1) = n % 2 ^ i := by
  have hpos : 0 < 2 ^ i := Nat.two_pow_pos i
  have hle : 2 ^ i ≤ 2 ^ 60 := Nat.pow_le_pow_right (by decide) hi
  have hc : ((2 : Int) ^ i - 1) = ((2 ^ i - 1 : Nat) : Int) := by rw [Int.natCast_sub hpos]; simp
  have hm : (BitVec.ofInt 64 ((2 : Int) ^ i - 1)).toNat = 2 ^ i - 1 := by
    rw [hc, BitVec.ofInt_natCast, BitVec.toNat_ofNat, Nat.mod_eq_of_lt (by omega)]
  have key : (BitVec.ofInt 64 n &&& BitVec.ofInt 64 ((2 : Int) ^ i - 1)).toNat = (n % ((2 ^ 64 : Nat) : Int)).toNat % 2 ^ i := by
    rw [BitVec.toNat_and, BitVec.toNat_ofInt, hm, Nat.and_two_pow_sub_one_eq_mod]
  show IntKind.i64.wrap ((BitVec.ofInt 64 n &&& BitVec.ofInt 64 ((2 : Int) ^ i - 1)).toNat : Nat) = n % 2 ^ i
  have hlt : (n % ((2 ^ 64 : Nat) : Int)).toNat % 2 ^ i < 2 ^ 60 := Nat.lt_of_lt_of_le (Nat.mod_lt _ hpos) hle
  rw [key, IntKind.wrap_i64]
  have h1 : (((n % ((2 ^ 64 : Nat) : Int)).toNat % 2 ^ i : Nat) : Int) = n % 2 ^ i := by
    have hn : 0 ≤ n % ((2 ^ 64 : Nat) : Int) := Int.emod_nonneg _ (by decide)
    rw [Int.natCast_emod, Int.toNat_of_nonneg hn]
    have hd : ((2 ^ i : Nat) : Int) ∣ ((2 ^ 64 : Nat) : Int) := by exact_mod_cast Nat.pow_dvd_pow 2 (show i ≤ 64 by omega)
    rw [Int.emod_emod_of_dvd _ hd]; simp
  omega
theorem msk_in (e : Int) : 0 ≤ msk e ∧ msk e < 16777216 := by
  unfold msk
  rw [show (16777215 : Int) = 2 ^ 24 - 1 from rfl, show (15 : Int) = 2 ^ 4 - 1 from rfl, and_mod _ 24 (by decide), and_mod _ 4 (by decide)]
  split <;> omega
def ToldB (k : Nat) (L : List (List Int)) (es : List Int) (z : Nat) : Prop :=
  (∃ e : Int, e ≠ 0 ∧ rnew.f k (z : Int) L = some (none, e)) ∨
  (∃ (K0 j : Int) (P Ds : List (List Int)) (Z : List S111) (x : List (List Int)) (f : Int) (en : Bool), rnew.f k (z : Int) L = some (some (K0, j, P), 0) ∧ Ds.length = es.length ∧ (∀ i : Nat, i < es.length → fountainref1_Drop.f k K0 j (z : Int) P (msk (rd es (i : Int))) = some (ro Ds i)) ∧
    fountainlaw11_drops.f k (es.map msk) Ds = some Z ∧ Pd.dblock.f (L.length : Int) (z : Int) Z = some (x, f) ∧ Pd.denough.f (L.length : Int) (es.map msk) = some en ∧
    ((en = false ∧ f = 4 ∧ x = []) ∨ (en = true ∧ f = 0 ∧ ∃ y, fountainlaw2_From.f k x = some y ∧ fountainref1_SameRows.f k y L = some true)))
def Hyp (k : Nat) (L : List (List Int)) (es : List Int) : Prop :=
  (L.length : Int) < 1 ∨ 10 < (L.length : Int) ∨ fountainlaw2_Few.f k L = some false ∨ (fountainlaw2_Few.f k L = some true ∧ (((ro L 0).length : Int) < 1 ∨ 64 < ((ro L 0).length : Int) ∨ 30 < (es.length : Int) ∨ ToldB k L es (ro L 0).length))
noncomputable def fountainlaw11_DecodeBack.f (k : Nat) (L : List (List Int)) (es : List Int) : Option Bool := @ite _ (Hyp k L es) (Classical.propDecidable _) (some true) none
theorem take_s {α : Type} {l : List α} {i : Nat} {x : α} (h : l[i]? = some x) : l.take (i + 1) = l.take i ++ [x] := by rw [List.take_add_one, h]; rfl
theorem ro_at {L : List (List Int)} {i : Nat} (h : i < L.length) : L[i]? = some (ro L i) := by unfold ro; rw [List.getD_eq_getElem?_getD, List.getElem?_eq_getElem h]; rfl
theorem msk_at {es : List Int} {i : Nat} (h : i < es.length) : (es.map msk)[i]? = some (msk (rd es (i : Int))) := by
  rw [List.getElem?_map, List.getElem?_eq_getElem h]; unfold rd; rw [Int.toNat_natCast, List.getD_eq_getElem?_getD, List.getElem?_eq_getElem h]; rfl
theorem fountainlaw11_DecodeBack.calls (k : Nat) (A1 : Option Addr) (c1 : Nat) (L : List (List Int)) (A2 : Option Addr) (c2 : Nat) (es : List Int) (r : Bool) (w : World) (hL : (Kd.slice 5 (Kd.int .u8)).C w A1 L.length L) (hcL : L.length ≤ c1)
    (hE : (Kd.int .i64).C w A2 es.length es) (hcE : es.length ≤ c2) (h : fountainlaw11_DecodeBack.f k L es = some r) :
    Calls Try.prog 15 #[.slice A1 L.length c1, .slice A2 es.length c2] w fun e w' => e = .returned (.bool r) ∧ Below w.heap.size w w' := by
  unfold fountainlaw11_DecodeBack.f at h
  by_cases hy : Hyp k L es
  rotate_left
  · rw [if_neg hy] at h; cases h
  rw [if_pos hy] at h
  obtain rfl : true = r := Option.some.inj h
  unfold Hyp at hy
  have HL := zA hL
  have LC := zA hcL
  have HE := zA hE
  have LE := zA hcE
  have HB := zA (Below.refl w.heap.size w)
  clear h hL hcL hE hcE
  by_cases q1 : (L.length : Int) < 1
  · clear hy
    go_enter Try.func15, Try.ntmps15
    go_wp2_with (go_at_call 54; (with_reducible refine (Pd.alive11.calls true _ rfl).mono ?_); rintro e w1 ⟨rfl, hb⟩; have n0_ := zA (below_step HB.out hb); clear HB hb; have HB := n0_; clear n0_)
    go_ret
    exact ⟨rfl, HB.out⟩
  by_cases q2 : 10 < (L.length : Int)
  · clear hy
    go_enter Try.func15, Try.ntmps15
    go_wp2_with (go_at_call 54; (with_reducible refine (Pd.alive11.calls true _ rfl).mono ?_); rintro e w1 ⟨rfl, hb⟩; have n0_ := zA (below_step HB.out hb); clear HB hb; have HB := n0_; clear n0_)
    go_ret
    exact ⟨rfl, HB.out⟩
  rcases hy with hy | hy | hy | ⟨f1, hy⟩
  · exact absurd hy q1
  · exact absurd hy q2
  · have FW := zA hy
    clear hy
    go_enter Try.func15, Try.ntmps15
    go_wp2_with (first | (go_at_call 54; (with_reducible refine (Pd.alive11.calls true _ rfl).mono ?_); rintro e w1 ⟨rfl, hb⟩; have n0_ := zA (below_step HB.out hb); clear HB hb; have HB := n0_; clear n0_) | (go_at_call 25; (with_reducible refine (fountainlaw2_Few.calls k A1 c1 L _ _ ?sM LC.out FW.out).mono ?_); (case sM => exact Kd.C_below HL.out bel); rintro e w' ⟨rfl, ⟨nd, rfl⟩⟩))
    go_ret
    exact ⟨rfl, bel⟩
  have FW := zA f1
  clear f1
  obtain ⟨ad, A0, c0, e, x0_, l0_, C0_⟩ := Cf.at_L1 HL.out 0 (by omega) (by omega)
  cases e
  have X0 := zA (show w.cell? ad = some (.slice A0 (ro L 0).length c0) from by have := x0_; rwa [AlSolveTells.add0] at this)
  clear x0_ l0_ C0_
  obtain ⟨z, hz⟩ : ∃ z : Nat, (ro L 0).length = z := ⟨_, rfl⟩
  rw [hz] at hy X0
  by_cases q3 : (z : Int) < 1
  · clear hy
    go_enter Try.func15, Try.ntmps15
    go_wp2_with (first | (go_at_call 54; (with_reducible refine (Pd.alive11.calls true _ rfl).mono ?_); rintro e w1 ⟨rfl, hb⟩; have n0_ := zA (below_step HB.out hb); clear HB hb; have HB := n0_; clear n0_; have x1_ : w1.cell? ad = some (.slice A0 z c0) := (HB.out.cell (World.block_lt_of_cell? w _ X0.out)).trans X0.out) | (go_at_call 25; (with_reducible refine (fountainlaw2_Few.calls k (some ad) c1 L _ _ ?sM LC.out FW.out).mono ?_); (case sM => exact Kd.C_below HL.out bel); rintro e w' ⟨rfl, ⟨nd, rfl⟩⟩))
    go_ret
    exact ⟨rfl, bel⟩
  by_cases q4 : 64 < (z : Int)
  · clear hy
    go_enter Try.func15, Try.ntmps15
    go_wp2_with (first | (go_at_call 54; (with_reducible refine (Pd.alive11.calls true _ rfl).mono ?_); rintro e w1 ⟨rfl, hb⟩; have n0_ := zA (below_step HB.out hb); clear HB hb; have HB := n0_; clear n0_; have x1_ : w1.cell? ad = some (.slice A0 z c0) := (HB.out.cell (World.block_lt_of_cell? w _ X0.out)).trans X0.out) | (go_at_call 25; (with_reducible refine (fountainlaw2_Few.calls k (some ad) c1 L _ _ ?sM LC.out FW.out).mono ?_); (case sM => exact Kd.C_below HL.out bel); rintro e w' ⟨rfl, ⟨nd, rfl⟩⟩))
    go_ret
    exact ⟨rfl, bel⟩
  by_cases q5 : 30 < (es.length : Int)
  · clear hy
    go_enter Try.func15, Try.ntmps15
    go_wp2_with (first | (go_at_call 54; (with_reducible refine (Pd.alive11.calls true _ rfl).mono ?_); rintro e w1 ⟨rfl, hb⟩; have n0_ := zA (below_step HB.out hb); clear HB hb; have HB := n0_; clear n0_; have x1_ : w1.cell? ad = some (.slice A0 z c0) := (HB.out.cell (World.block_lt_of_cell? w _ X0.out)).trans X0.out) | (go_at_call 25; (with_reducible refine (fountainlaw2_Few.calls k (some ad) c1 L _ _ ?sM LC.out FW.out).mono ?_); (case sM => exact Kd.C_below HL.out bel); rintro e w' ⟨rfl, ⟨nd, rfl⟩⟩))
    go_ret
    exact ⟨rfl, bel⟩
  rcases hy with hy | hy | hy | hy
  · exact absurd hy q3
  · exact absurd hy q4
  · exact absurd hy q5
  rcases hy with ⟨er, ne, y1⟩ | ⟨K0, j, P, Ds, Z, x, f, en, y1, y2, y3, y4, y5, y6, y7⟩
  · have N1 := zA y1
    have q6 : (er != 0) = true := bne_iff_ne.2 ne
    clear y1 ne
    go_enter Try.func15, Try.ntmps15
    go_wp2_with (first | (go_at_call 54; (with_reducible refine (Pd.alive11.calls true _ rfl).mono ?_); rintro e w1 ⟨rfl, hb⟩; have n0_ := zA (below_step HB.out hb); clear HB hb; have HB := n0_; clear n0_; have x1_ : w1.cell? ad = some (.slice A0 z c0) := (HB.out.cell (World.block_lt_of_cell? w _ X0.out)).trans X0.out) | (go_at_call 25; (with_reducible refine (fountainlaw2_Few.calls k (some ad) c1 L _ _ ?sM LC.out FW.out).mono ?_); (case sM => exact Kd.C_below HL.out bel); rintro e w' ⟨rfl, ⟨nd, rfl⟩⟩) | (go_at_call 48; (with_reducible refine (rnew.calls k (z : Int) (some ad) c1 L _ _ ?sM LC.out N1.out).mono ?_); (case sM => exact Kd.C_below HL.out bel); rintro e w3 ⟨rfl, hb⟩; have n0_ := zA (belt hb); clear HB hb; have HB := n0_; clear n0_))
    go_ret
    exact ⟨rfl, bel⟩
  have N1 := zA y1
  have LD := zA y2
  have DR := zA y3
  obtain ⟨ms, hms⟩ : ∃ ms, es.map msk = ms := ⟨_, rfl⟩
  rw [hms] at y4 y6
  have MS := zA hms
  clear hms
  have YZ := zA y4
  have YB := zA y5
  have YE := zA y6
  have YF := zA y7
  clear y1 y2 y3 y4 y5 y6 y7
  go_enter Try.func15, Try.ntmps15
  go_wp2_with (first | (go_at_call 54; (with_reducible refine (Pd.alive11.calls true _ rfl).mono ?_); rintro e w1 ⟨rfl, hb⟩; have n0_ := zA (below_step HB.out hb); clear HB hb; have HB := n0_; clear n0_; have x1_ : w1.cell? ad = some (.slice A0 z c0) := (HB.out.cell (World.block_lt_of_cell? w _ X0.out)).trans X0.out) | (go_at_call 25; (with_reducible refine (fountainlaw2_Few.calls k (some ad) c1 L _ _ ?sM LC.out FW.out).mono ?_); (case sM => exact Kd.C_below HL.out bel); rintro e w' ⟨rfl, ⟨nd, rfl⟩⟩) | (go_at_call 48; (with_reducible refine (rnew.calls k (z : Int) (some ad) c1 L _ _ ?sM LC.out N1.out).mono ?_); (case sM => exact Kd.C_below HL.out bel); rintro e w3 ⟨g, Ap, cp, rfl, _, bx_, C_, lc_, hb⟩; have n0_ := zA (belt hb); have BX := zA bx_; have CP := zA C_; have LP := zA lc_; clear HB hb bx_ C_ lc_ x1_; have HB := n0_; clear n0_))
  go_loopg [9, 10, 11] es.length (fun gg v9 v10 v11 wr => ∃ i : Nat, v11 = .int .i64 (i : Int) ∧ Aside0 (i + gg = es.length) ∧ Aside0 (Kd.R (Kd.int .i64) 3 wr w3.heap.size (fun _ => True) v9 ((es.map msk).take i)) ∧ Aside0 (Kd.S (Kd.slice 5 (Kd.int .u8)) 30 wr w3.heap.size (fun _ => True) v10 (Ds.take i)) ∧ Aside0 (Below w3.heap.size w3 wr))
  case atStart => exact ⟨0, by simp, ⟨Nat.zero_add _⟩, ⟨Kd.R_nil _ _ _ _ _⟩, ⟨Kd.S_nil _ _ _ _ _⟩, ⟨Below.refl _ _⟩⟩
  case round =>
    obtain ⟨i, rfl, E1, HI, HR, HW⟩ := hrel
    cases gk with
    | succ d =>
      have hz' : (i : Int) < (es.length : Int) := by have := E1.out; omega
      obtain ⟨ae, e, x0⟩ := Kd.at_int (Kd.C_below HE.out (below_step HB.out HW.out)) (i : Int) (by omega) (by omega)
      cases e
      rw [Int.toNat_natCast] at x0
      have T1 := zA (take_s (msk_at (es := es) (i := i) (by omega)))
      have T2 := zA (take_s (ro_at (L := Ds) (i := i) (by have := LD.out; omega)))
      have DX := zA (DR.out i (by omega))
      obtain ⟨xr, hxr⟩ : ∃ xr, ro Ds i = xr := ⟨_, rfl⟩
      rw [hxr] at T2 DX
      obtain ⟨e, he⟩ : ∃ e, rd es (i : Int) = e := ⟨_, rfl⟩
      rw [he] at x0 T1 DX
      have MI := zA (msk_in e)
      clear he hxr
      obtain ⟨q, hq⟩ : ∃ q, msk e = q := ⟨_, rfl⟩
      rw [hq] at MI DX T1
      unfold msk at hq
      by_cases p1 : 0 < bits .and .i64 (e / 16777216) 3
      · rw [if_pos p1] at hq
        go_wp2_with (first | (go_at_call 51; (with_reducible refine (rsymR.calls k g K0 j (z : Int) Ap cp P q xr _ ?s1 ?s2 LP.out MI.out DX.out).mono ?_); (case s1 => exact blk_below BX.out bel); (case s2 => exact Kd.C_below CP.out bel); rintro e w5 ⟨v13, rfl, ho_, hb_⟩; obtain ⟨A3, c3, rfl, _, _⟩ := Kd.R_reads ho_; have HX := zA (Kd.R_lower ho_ (bels (w := w3))); replace HR := zA (Kd.S_elder' (S_g HR.out) (Kd.R_base ho_) hb_); replace HI := zA (Kd.R_below (R_g HI.out) hb_); replace HW := zA (belt (w := w3) hb_); clear ho_ hb_) | ((with_reducible refine gate_builtin (b := .append) (xs := #[.tmp 93, .tmp 95]) rfl ?_); at_builtin; refine Kd.R_append (Kd.int .i64) (w0 := w3) w3.heap.size rfl (.tmp 93) (.tmp 95) 51 3 (.int .i64 0) 8 rfl Try.underlying51 info3 rfl (by decide) (by omega) u9 ((es.map msk).take i) q [.int .i64 q] (fun _ => True) (fun _ => False) rfl rfl ?aP (fun _ hk => hk.elim) ?aF ?aO ?aB ?aS ?aL ?_; (case aP => exact rfl); (case aB => exact bel); (case aF => exact (fun _ _ => trivial)); (case aO => exact (R_g HI.out)); (case aS => exact bels); (case aL => rw [List.length_take, List.length_map]; omega); intro v9' w6 ho hb hg hat; replace HR := zA (Kd.S_over' (S_g HR.out) (Kd.R_typed (R_g HI.out)) (by decide) hg); replace HX := zA (Kd.R_over' (R_g HX.out) (Kd.R_typed (R_g HI.out)) (by decide) hg); replace HI := zA ho; replace HW := zA hb; clear ho hb hg hat) | ((with_reducible refine gate_builtin (b := .append) (xs := #[.tmp 97, .tmp 99]) rfl ?_); at_builtin; refine Kd.S_append (Kd.slice 5 (Kd.int .u8)) (w0 := w3) w3.heap.size rfl (.tmp 97) (.tmp 99) 34 30 (.slice none 0 0) 24 rfl Try.underlying34 info30 rfl (by decide) (by omega) u10 (Ds.take i) xr [.slice A3 xr.length c3] (fun _ => True) (fun k_ => some k_ = (.slice A3 xr.length c3 : Value).ownBlock) rfl rfl ?aP (fun k_ hk_ => (Kd.R_mono (ok' := fun k_ => ((fun _ => True)) k_ ∧ some k_ ≠ (u10 : Value).ownBlock) (Kd.R_apart' (R_g HX.out) (Kd.S_typed (S_g HR.out)) (by decide)) (fun k_ hk => ⟨trivial, hk.2⟩)).1 k_ hk_.symm) ?aF ?aO ?aB ?aS ?aL ?_; (case aP => exact Kd.M_row (Kd.R_mono (Kd.R_tight rfl (Kd.R_mono (ok' := fun k_ => ((fun _ => True)) k_ ∧ some k_ ≠ (u10 : Value).ownBlock) (Kd.R_apart' (R_g HX.out) (Kd.S_typed (S_g HR.out)) (by decide)) (fun k_ hk => ⟨trivial, hk.2⟩))) (fun _ h_ => h_))); (case aB => exact bel); (case aF => exact (fun _ _ => trivial)); (case aO => exact (S_g (Kd.S_mono HR.out (fun k_ hk => ⟨trivial, fun e_ => hk.2 e_⟩)))); (case aS => exact bels); (case aL => rw [List.length_take]; omega); intro v10' w7 ho hb hg hat; replace HI := zA (Kd.R_over' (R_g HI.out) (Kd.S_typed (S_g HR.out)) (by decide) hg); replace HR := zA ho; replace HW := zA hb; clear ho hb hg hat HX))
        go_roundg d
        case measure => omega
        case rel => exact ⟨i + 1, by go_num, ⟨by have := E1.out; omega⟩, ⟨by rw [T1.out]; exact HI.out⟩, ⟨by rw [T2.out]; exact HR.out⟩, ⟨HW.out⟩⟩
      · rw [if_neg p1] at hq
        go_wp2_with (first | (go_at_call 51; (with_reducible refine (rsymR.calls k g K0 j (z : Int) Ap cp P q xr _ ?s1 ?s2 LP.out MI.out DX.out).mono ?_); (case s1 => exact blk_below BX.out bel); (case s2 => exact Kd.C_below CP.out bel); rintro e w5 ⟨v13, rfl, ho_, hb_⟩; obtain ⟨A3, c3, rfl, _, _⟩ := Kd.R_reads ho_; have HX := zA (Kd.R_lower ho_ (bels (w := w3))); replace HR := zA (Kd.S_elder' (S_g HR.out) (Kd.R_base ho_) hb_); replace HI := zA (Kd.R_below (R_g HI.out) hb_); replace HW := zA (belt (w := w3) hb_); clear ho_ hb_) | ((with_reducible refine gate_builtin (b := .append) (xs := #[.tmp 93, .tmp 95]) rfl ?_); at_builtin; refine Kd.R_append (Kd.int .i64) (w0 := w3) w3.heap.size rfl (.tmp 93) (.tmp 95) 51 3 (.int .i64 0) 8 rfl Try.underlying51 info3 rfl (by decide) (by omega) u9 ((es.map msk).take i) q [.int .i64 q] (fun _ => True) (fun _ => False) rfl rfl ?aP (fun _ hk => hk.elim) ?aF ?aO ?aB ?aS ?aL ?_; (case aP => exact rfl); (case aB => exact bel); (case aF => exact (fun _ _ => trivial)); (case aO => exact (R_g HI.out)); (case aS => exact bels); (case aL => rw [List.length_take, List.length_map]; omega); intro v9' w6 ho hb hg hat; replace HR := zA (Kd.S_over' (S_g HR.out) (Kd.R_typed (R_g HI.out)) (by decide) hg); replace HX := zA (Kd.R_over' (R_g HX.out) (Kd.R_typed (R_g HI.out)) (by decide) hg); replace HI := zA ho; replace HW := zA hb; clear ho hb hg hat) | ((with_reducible refine gate_builtin (b := .append) (xs := #[.tmp 97, .tmp 99]) rfl ?_); at_builtin; refine Kd.S_append (Kd.slice 5 (Kd.int .u8)) (w0 := w3) w3.heap.size rfl (.tmp 97) (.tmp 99) 34 30 (.slice none 0 0) 24 rfl Try.underlying34 info30 rfl (by decide) (by omega) u10 (Ds.take i) xr [.slice A3 xr.length c3] (fun _ => True) (fun k_ => some k_ = (.slice A3 xr.length c3 : Value).ownBlock) rfl rfl ?aP (fun k_ hk_ => (Kd.R_mono (ok' := fun k_ => ((fun _ => True)) k_ ∧ some k_ ≠ (u10 : Value).ownBlock) (Kd.R_apart' (R_g HX.out) (Kd.S_typed (S_g HR.out)) (by decide)) (fun k_ hk => ⟨trivial, hk.2⟩)).1 k_ hk_.symm) ?aF ?aO ?aB ?aS ?aL ?_; (case aP => exact Kd.M_row (Kd.R_mono (Kd.R_tight rfl (Kd.R_mono (ok' := fun k_ => ((fun _ => True)) k_ ∧ some k_ ≠ (u10 : Value).ownBlock) (Kd.R_apart' (R_g HX.out) (Kd.S_typed (S_g HR.out)) (by decide)) (fun k_ hk => ⟨trivial, hk.2⟩))) (fun _ h_ => h_))); (case aB => exact bel); (case aF => exact (fun _ _ => trivial)); (case aO => exact (S_g (Kd.S_mono HR.out (fun k_ hk => ⟨trivial, fun e_ => hk.2 e_⟩)))); (case aS => exact bels); (case aL => rw [List.length_take]; omega); intro v10' w7 ho hb hg hat; replace HI := zA (Kd.R_over' (R_g HI.out) (Kd.S_typed (S_g HR.out)) (by decide) hg); replace HR := zA ho; replace HW := zA hb; clear ho hb hg hat HX))
        go_roundg d
        case measure => omega
        case rel => exact ⟨i + 1, by go_num, ⟨by have := E1.out; omega⟩, ⟨by rw [T1.out]; exact HI.out⟩, ⟨by rw [T2.out]; exact HR.out⟩, ⟨HW.out⟩⟩
    | zero =>
      have hz' : ¬ (i : Int) < (es.length : Int) := by have := E1.out; omega
      have hi : i = es.length := by have := E1.out; omega
      have hI := HI.out
      have hR := HR.out
      rw [List.take_of_length_le (by rw [List.length_map]; omega), MS.out] at hI
      rw [List.take_of_length_le (by have := LD.out; omega)] at hR
      obtain ⟨Ai, ci, rfl, li_, Ci_⟩ := Kd.R_reads hI
      obtain ⟨Ad, cd, rfl, ld_, Cd_⟩ := Kd.S_reads hR
      have LI := zA li_
      have CI := zA Ci_
      have LDD := zA ld_
      have CD := zA Cd_
      have n0_ := zA (below_step HB.out HW.out)
      clear HB HW HI HR hI hR hi li_ Ci_ ld_ Cd_ E1
      have HB := n0_
      clear n0_
      rcases YF.out with ⟨rfl, rfl, rfl⟩ | ⟨rfl, rfl, y, fr_, sm_⟩
      · go_wp2_with (first | (go_at_call 56; go_loud (with_reducible refine (fountainlaw11_drops.calls k Ai ci ms Ad cd Ds Z _ ?s1 ?s2 ?s3 ?s4 YZ.out).mono ?_); (case s1 => exact CI.out); (case s2 => exact LI.out); (case s3 => exact CD.out); (case s4 => exact LDD.out); rintro e w5 ⟨v, rfl, ho_, hb_⟩; obtain ⟨Az, cz, rfl, lz_, Cz_⟩ := Kd.S_reads ho_; have LZ := zA lz_; have CZ := zA Cz_; replace CI := zA (Kd.C_below CI.out hb_); replace HB := zA (belt hb_); clear lz_ Cz_ ho_ hb_) | (go_at_call 55; go_loud (with_reducible refine (Pd.dblock.calls (L.length : Int) (z : Int) Az cz Z _ _ _ ?s1 ?s2 YB.out).mono ?_); (case s1 => exact CZ.out); (case s2 => exact LZ.out); rintro e w6 ⟨v, rfl, ho_, hb_⟩; obtain ⟨Ax, cx, rfl, lx_, Cx_⟩ := Kd.S_reads ho_; have LX := zA lx_; have CX := zA Cx_; replace CI := zA (Kd.C_below CI.out hb_); replace HB := zA (belt hb_); clear lx_ Cx_ ho_ hb_) | (go_at_call 59; go_loud (with_reducible refine (Pd.denough.calls (L.length : Int) Ai ci ms _ _ ?s1 ?s2 YE.out).mono ?_); (case s1 => exact CI.out); (case s2 => exact LI.out); rintro e w7 ⟨rfl, hb_⟩; replace CX := zA (Kd.C_below CX.out hb_); replace HB := zA (belt hb_); clear hb_) | (go_at_call 58; (with_reducible refine (fountainlaw11_num.calls _ _ _ rfl).mono ?_); rintro e w' ⟨rfl, ⟨nd, rfl⟩⟩))
        go_ret
        exact ⟨rfl, bel⟩
      · have FR := zA fr_
        have SM := zA sm_
        clear fr_ sm_
        go_wp2_with (first | (go_at_call 56; go_loud (with_reducible refine (fountainlaw11_drops.calls k Ai ci ms Ad cd Ds Z _ ?s1 ?s2 ?s3 ?s4 YZ.out).mono ?_); (case s1 => exact CI.out); (case s2 => exact LI.out); (case s3 => exact CD.out); (case s4 => exact LDD.out); rintro e w5 ⟨v, rfl, ho_, hb_⟩; obtain ⟨Az, cz, rfl, lz_, Cz_⟩ := Kd.S_reads ho_; have LZ := zA lz_; have CZ := zA Cz_; replace CI := zA (Kd.C_below CI.out hb_); replace HB := zA (belt hb_); clear lz_ Cz_ ho_ hb_) | (go_at_call 55; go_loud (with_reducible refine (Pd.dblock.calls (L.length : Int) (z : Int) Az cz Z _ _ _ ?s1 ?s2 YB.out).mono ?_); (case s1 => exact CZ.out); (case s2 => exact LZ.out); rintro e w6 ⟨v, rfl, ho_, hb_⟩; obtain ⟨Ax, cx, rfl, lx_, Cx_⟩ := Kd.S_reads ho_; have LX := zA lx_; have CX := zA Cx_; replace CI := zA (Kd.C_below CI.out hb_); replace HB := zA (belt hb_); clear lx_ Cx_ ho_ hb_) | (go_at_call 59; go_loud (with_reducible refine (Pd.denough.calls (L.length : Int) Ai ci ms _ _ ?s1 ?s2 YE.out).mono ?_); (case s1 => exact CI.out); (case s2 => exact LI.out); rintro e w7 ⟨rfl, hb_⟩; replace CX := zA (Kd.C_below CX.out hb_); replace HB := zA (belt hb_); clear hb_) | (go_at_call 58; (with_reducible refine (fountainlaw11_num.calls _ _ _ rfl).mono ?_); rintro e w' ⟨rfl, ⟨nd, rfl⟩⟩) | (go_at_call 32; (with_reducible refine (fountainlaw2_From.calls k (fun _ => True) Ax cx x y _ ?s1 FR.out).mono ?_); (case s1 => exact Bs.VofC (Kd.C_drewN CX.out _) LX.out _); rintro e w8 ⟨v, rfl, ho_, hb_⟩; obtain ⟨Ay, cy, rfl, ly_, Cy_⟩ := Kd.N_reads ho_; have LY := zA ly_; have CY := zA Cy_; replace HB := zA (belt hb_); clear ly_ Cy_ ho_ hb_) | (go_at_call 31; (with_reducible refine (fountainref1_SameRows.calls k Ay cy y (some ad) c1 L true _ ?s1 ?s2 ?s3 LC.out SM.out).mono ?_); (case s1 => exact CY.out); (case s2 => exact LY.out); (case s3 => exact Kd.C_below HL.out bel); rintro e w' ⟨rfl, ⟨nd, rfl⟩⟩))
        go_ret
        exact ⟨rfl, bel⟩
end Go.Proofs.Ytbfhinfblepidaa.Bk
