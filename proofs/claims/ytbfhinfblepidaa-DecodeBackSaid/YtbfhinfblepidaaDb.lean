/- The program's decode.Block. Conditions: those that stand in the theorems. -/
import Derived.Test.YtbfhinfblepidaaDm
import Derived.Test.YtbfhinfblepidaaPDecodeTellsx10
set_option maxHeartbeats 8000000
set_option maxRecDepth 100000
namespace Go.Proofs.Ytbfhinfblepidaa.Db
open Go.RowKit Go.Lib Go.Proofs.Ytbfhinfblepidaa.PSolveTells Go.Proofs.Ytbfhinfblepidaa.PSeedTells Go.Proofs.Ytbfhinfblepidaa.PBlockTells Go.Proofs.Ytbfhinfblepidaa.PDecodeTells Go.Proofs.YtbfhinfblepidaaW.PrintWords Go.Proofs.YtbfhinfblepidaaW.PrintLast Go.Proofs.YtbfhinfblepidaaW.PrintMore Go.Proofs.Ytbfhinfblepidaa.Mt Go.Proofs.Ytbfhinfblepidaa.Dm
set_option linter.unusedVariables false
set_option linter.unusedSimpArgs false
def bads (D : List S111) : Bool := D.any fun x => Cd.bad x.f0
def odds (z : Int) (D : List S111) : Bool := D.any (Cd.odd z)
noncomputable def dblock.f (k : Nat) (K z : Int) (D : List S111) : Option (List (List Int) × Int) :=
  if 1000000 < D.length then none else (params_Of.f K).bind fun p =>
  if p.2.2.2 ≠ 0 ∨ z < 1 ∨ 64 < z ∨ bads D = true then some ([], 1) else if odds z D = true then some ([], 10) else
  (seed_Find.f k K).bind fun s => if s.2 ≠ 0 then some ([], s.2) else
  (block_Parts.f k p.1 p.2.1 p.2.2.1 s.1 z ((firsts D).map (·.f0)) ((firsts D).map (·.f1))).bind fun q => if q.2 ≠ 0 then some ([], q.2) else
  (seed_Sources.f k K).bind fun es => (drops_Drops.f k p.1 p.2.1 p.2.2.1 s.1 z q.1 es).bind fun o => some (o, 0)
def T17 : Bool × List (List Nat × List Nat) := (true, [([], []), ([], []), ([1], [1]), ([2], [2]), ([0, 3], [0, 3]), ([], []), ([], []), ([6], [6]), ([7], [7]), ([5, 8, 4], [5, 8]), ([4, 9, 0, 1, 2, 3, 4], [0, 4]), ([9, 10, 0, 1, 2, 3, 4, 5, 6, 7, 8, 9, 10], [5, 9])])
def B17 : List Nat := [0, 0, 2, 6, 15, 0, 0, 64, 192, 511, 1023, 2047]
theorem tab17 : rtab .any (opsOf Try.f55 17) = T17 := by kernel_rfl
theorem bits17 : waitsOk T17.2 B17 = true := by kernel_rfl
def T22 : Bool × List (List Nat × List Nat) := (true, [([], []), ([], []), ([], []), ([], []), ([], []), ([4], [4]), ([0, 1, 2, 3, 5, 5], [0, 1, 2, 3, 5]), ([6, 6, 0, 1, 2, 3, 4, 5, 6], [6]), ([7, 0, 1, 2, 3, 4, 5, 6, 7], [])])
def B22 : List Nat := [0, 0, 0, 0, 0, 16, 63, 127, 255]
theorem tab22 : rtab .any (opsOf Try.f55 22) = T22 := by kernel_rfl
theorem bits22 : waitsOk T22.2 B22 = true := by kernel_rfl
theorem dblock.calls (k : Nat) (K0 z : Int) (A1 : Option Addr) (c1 : Nat) (D : List S111) (r : List (List Int) × Int) (w : World) (hL : k111.C w A1 D.length D) (hcL : D.length ≤ c1) (h : dblock.f k K0 z D = some r) :
    Calls Try.prog 55 #[.int .i64 K0, .int .i64 z, .slice A1 D.length c1] w fun e w' => ∃ v0_ : Value, e = .returned (.tuple #[v0_, .int .i64 r.2]) ∧ Kd.S (Kd.slice 5 (Kd.int .u8)) 31 w' w.heap.size (fun _ => True) v0_ r.1 ∧ Below w.heap.size w w' := by
  have hu24 := Try.underlying24
  have hu111 := Try.underlying111
  have hmm := @run_makeMap Try.prog
  unfold dblock.f at h
  by_cases q0 : 1000000 < D.length
  · rw [if_pos q0] at h; cases h
  rw [if_neg q0] at h
  obtain ⟨⟨p0, p1, p2, p3⟩, OF_, h⟩ := Option.bind_eq_some_iff.mp h
  have HH := zA h
  have DL := zA (Nat.not_lt.1 q0)
  have OF := zA OF_
  have HL := zA hL
  have LC := zA hcL
  have HB := zA (Below.refl w.heap.size w)
  clear h OF_ hL hcL q0
  go_enter Try.func55, Try.ntmps55
  go_upto_region 1 with (first | ((with_reducible refine gate_dst (N := 4) rfl ?_); refine box_event ?hg (N := 4) ?hd (cs := #[.int .i64 z]) (t := 3) ?hr ?_; (case hd => rfl); (case hg => rfl); (case hr => first | (go_simp; done) | (go_simp; rfl)); intro gb hg w5 hbox hb; have n0_ := zA (belt hb); have GE := zA ((by rw [hg]; exact bels : w.heap.size ≤ gb)); have B0 := zA hbox; clear HB; have HB := n0_; clear n0_ hg hb hbox))
  go_upto_region 2 with (first | (go_at_call 19; (with_reducible refine (params_Of.calls K0 p0 p1 p2 p3 _ OF.out).mono ?_); rintro e w6 ⟨rfl, hb⟩; have n0_ := zA (belt hb); have n1_ := zA (blk_below B0.out hb); clear HB B0; have HB := n0_; have B0 := n1_; clear n0_ n1_ hb) | ((with_reducible refine gate_dst (N := 8) rfl ?_); refine box_event ?hg (N := 8) ?hd (cs := #[.int .i64 0, .int .i64 0, .int .i64 0]) (t := 24) ?hr ?_; (case hd => rfl); (case hg => rfl); (case hr => first | (go_simp; done) | (go_simp; rfl)); intro gp hg w7 hbox hb; have NE := zA ((by rw [hg]; have := blk_lt B0.out; omega : gb ≠ gp)); have GP := zA ((by rw [hg]; exact bels : w.heap.size ≤ gp)); have n0_ := zA (belt hb); have n1_ := zA (blk_below B0.out hb); have BP := zA hbox; clear HB B0; have HB := n0_; have B0 := n1_; clear n0_ n1_ hb hbox hg; have hcz6_0 : w7.cell? ⟨gp, 0, none⟩ = some (.int .i64 0) := (blk_cell BP.out 0).trans rfl; have hcz6_1 : w7.cell? ⟨gp, 1, none⟩ = some (.int .i64 0) := (blk_cell BP.out 1).trans rfl; have hcz6_2 : w7.cell? ⟨gp, 2, none⟩ = some (.int .i64 0) := (blk_cell BP.out 2).trans rfl; have hfz6_0 := blk_frozen BP.out 0; have hfz6_1 := blk_frozen BP.out 1; have hfz6_2 := blk_frozen BP.out 2))
  have BP_ := zA (blk_put (cs := #[.int .i64 p0, .int .i64 p1, .int .i64 0]) (blk_put (cs := #[.int .i64 p0, .int .i64 0, .int .i64 0]) (blk_put (cs := #[.int .i64 0, .int .i64 0, .int .i64 0]) BP.out 0 (.int .i64 p0) rfl) 1 (.int .i64 p1) rfl) 2 (.int .i64 p2) rfl)
  have B0_ := zA (blk_far (p := ⟨gp, 2, none⟩) (blk_far (p := ⟨gp, 1, none⟩) (blk_far (p := ⟨gp, 0, none⟩) B0.out NE.out (.int .i64 p0)) NE.out (.int .i64 p1)) NE.out (.int .i64 p2))
  have HB_ := zA (below_set (j := 2) (v := .int .i64 p2) (below_set (j := 1) (v := .int .i64 p1) (below_set (j := 0) (v := .int .i64 p0) HB.out GP.out) GP.out) GP.out)
  clear BP B0 HB hcz6_0 hcz6_1 hcz6_2 hfz6_0 hfz6_1 hfz6_2
  generalize ((w7.setCell ⟨gp, 0, none⟩ (.int .i64 p0)).setCell ⟨gp, 1, none⟩ (.int .i64 p1)).setCell ⟨gp, 2, none⟩ (.int .i64 p2) = w8 at BP_ B0_ HB_ ⊢
  have BP := BP_
  have B0 := B0_
  have HB := HB_
  clear BP_ B0_ HB_ NE GP GE OF
  have s0 : w8.cell? ⟨gb, 0, none⟩ = some (.int .i64 z) := (blk_cell B0.out 0).trans rfl
  have h := HH.out
  clear HH
  have CON := zA (Cd.contains_calls 87 #[] (fun args w => rfl) (fun x => Cd.bad x.f0) A1 c1 D w8 (Kd.C_below HL.out HB.out) (Cd.tells_bad D w8))
  rw [idx_sign D 0 (by decide), show (D.any fun x => Cd.bad x.f0) = bads D from rfl] at CON
  by_cases q1 : p3 ≠ 0 ∨ z < 1 ∨ 64 < z ∨ bads D = true
  · rw [if_pos q1] at h
    obtain rfl := Option.some.inj h
    clear h
    by_cases q4 : p3 ≠ 0
    · have q5 : (p3 != 0) = true := bne_iff_ne.2 q4
      clear q1 q4
      go_wp2
      go_ret2
      exact ⟨_, rfl, Kd.S_nil _ _ _ _ _, HB.out⟩
    obtain rfl : p3 = 0 := Decidable.not_not.1 q4
    clear q4
    by_cases q2 : z < 1
    · clear q1
      go_wp2
      go_ret2
      exact ⟨_, rfl, Kd.S_nil _ _ _ _ _, HB.out⟩
    by_cases q3 : 64 < z
    · clear q1
      go_wp2
      go_ret2
      exact ⟨_, rfl, Kd.S_nil _ _ _ _ _, HB.out⟩
    have q4 : bads D = true := by rcases q1 with h | h | h | h; · exact absurd rfl h
                                  · exact absurd h q2
                                  · exact absurd h q3
                                  · exact h
    rw [q4] at CON
    clear q1 q4
    go_wp2_with (go_at_call 86; (try (refine gate_guard (by rfl) ?_; dsimp only)); (with_reducible refine CON.out.mono ?_); rintro e w9 ⟨rfl, hb⟩; have n0_ := zA (below_step HB.out hb); clear HB hb; have HB := n0_; clear n0_)
    go_ret2
    exact ⟨_, rfl, Kd.S_nil _ _ _ _ _, HB.out⟩
  rw [if_neg q1] at h
  obtain rfl : p3 = 0 := by omega
  have q2 : ¬ z < 1 := fun h => q1 (.inr (.inl h))
  have q3 : ¬ 64 < z := fun h => q1 (.inr (.inr (.inl h)))
  have q4 : bads D = false := by cases hb : bads D; · rfl
                                 · exact absurd (.inr (.inr (.inr hb))) q1
  rw [q4] at CON
  have BAD := zA q4
  have HH := zA h
  clear q1 q4 h
  go_upto_region 4 with (go_at_call 86; (try (refine gate_guard (by rfl) ?_; dsimp only)); (with_reducible refine CON.out.mono ?_); rintro e w9 ⟨rfl, hb⟩; have n0_ := zA (below_step HB.out hb); have n1_ := zA (blk_below B0.out hb); have n2_ := zA (blk_below BP.out hb); clear HB B0 BP hb s0; have HB := n0_; have B0 := n1_; have BP := n2_; clear n0_ n1_ n2_)
  clear CON
  have CON := zA (Cd.contains_calls 89 #[.pointer (some ⟨gb, 0, none⟩)] (fun args w => rfl) (Cd.odd z) A1 c1 D w9 (Kd.C_below HL.out HB.out) (Cd.tells_odd gb z D w9 B0.out))
  rw [idx_sign D 0 (by decide), show D.any (Cd.odd z) = odds z D from rfl] at CON
  obtain ⟨od, hod⟩ : ∃ od, odds z D = od := ⟨_, rfl⟩
  rw [hod] at CON
  have h := HH.out
  rw [hod] at h
  have HH := zA h
  clear hod h
  cases od with
  | true =>
    have h := HH.out
    rw [if_pos rfl] at h
    obtain rfl := Option.some.inj h
    clear h HH
    go_wp2_with (go_at_call 86; (with_reducible refine CON.out.mono ?_); rintro e w10 ⟨rfl, hb⟩; have n0_ := zA (below_step HB.out hb); clear HB hb; have HB := n0_; clear n0_)
    go_ret2
    exact ⟨_, rfl, Kd.S_nil _ _ _ _ _, HB.out⟩
  | false =>
    have h := HH.out
    rw [if_neg (by decide)] at h
    clear HH
    obtain ⟨⟨s1, s2⟩, FI_, h⟩ := Option.bind_eq_some_iff.mp h
    have FI := zA FI_
    have HH := zA h
    clear FI_ h
    go_upto_region 7 with (first | (go_at_call 86; (with_reducible refine CON.out.mono ?_); rintro e w9a ⟨rfl, hb⟩; have n0_ := zA (below_step HB.out hb); have n1_ := zA (blk_below B0.out hb); have n2_ := zA (blk_below BP.out hb); clear HB B0 BP hb; have HB := n0_; have B0 := n1_; have BP := n2_; clear n0_ n1_ n2_) | (go_at_call 42; (with_reducible refine (seed_Find.calls k K0 s1 s2 _ FI.out).mono ?_); rintro e w10 ⟨rfl, hb⟩; have n0_ := zA (below_step HB.out hb); have n1_ := zA (blk_below B0.out hb); have n2_ := zA (blk_below BP.out hb); clear HB B0 BP hb; have HB := n0_; have B0 := n1_; have BP := n2_; clear n0_ n1_ n2_))
    clear FI CON
    have h := HH.out
    clear HH
    by_cases q4 : s2 ≠ 0
    · rw [if_pos q4] at h
      obtain rfl := Option.some.inj h
      have q5 : (s2 != 0) = true := bne_iff_ne.2 q4
      clear h q4
      go_wp2
      go_ret2
      exact ⟨_, rfl, Kd.S_nil _ _ _ _ _, HB.out⟩
    rw [if_neg q4] at h
    obtain rfl : s2 = 0 := Decidable.not_not.1 q4
    have HH := zA h
    clear q4 h
    go_upto_region 9 with (fail)
    go_wp2
    go_loopg [11, 12, 50] D.length (fun gg v11 v12 v50 wr => ∃ (i : Nat) (acc : List S111) (us : List Value), v50 = .int .i64 (i : Int) ∧ Aside0 (i + gg = D.length) ∧ Aside0 (firsts (D.take i) = acc) ∧ Aside0 (Us w us acc) ∧ Aside0 (∃ n, n ≤ i ∧ RS w10.heap.size w10 wr v11 v12 (acc.map fun x => .int .i64 x.f0) us acc n))
    case atStart => exact ⟨0, [], [], by simp, ⟨Nat.zero_add _⟩, ⟨rfl⟩, ⟨Us.nil _⟩, ⟨0, Nat.le_refl _, RS.made w10⟩⟩
    case round =>
      obtain ⟨i, acc, us, rfl, E1, FA, US, RX⟩ := hrel
      cases gk with
      | succ d =>
        have hz : (i : Int) < (D.length : Int) := by have := E1.out; omega
        obtain ⟨n, hn, hR⟩ := RX.out
        have HBw := zA (below_step HB.out hR.b)
        have RR := zA hR
        have NI := zA hn
        clear RX hR hn
        have hbig : D.length ≤ 1000000 := DL.out
        obtain ⟨x, hx⟩ : ∃ x, rd_T111 D (i : Int) = x := ⟨_, rfl⟩
        have XR := zA (show 0 ≤ x.f0 ∧ x.f0 < 16777216 by
          have hb := BAD.out
          unfold bads at hb
          rw [List.any_eq_false] at hb
          have hm : x ∈ D := by rw [← hx]; unfold rd_T111; rw [Int.toNat_natCast, List.getD_eq_getElem?_getD, List.getElem?_eq_getElem (by omega)]; exact List.getElem_mem _
          have := hb x hm
          unfold Cd.bad at this
          simp only [Bool.or_eq_true, decide_eq_true_eq] at this
          omega)
        obtain ⟨ad, Ax, cx, e, y0, y1, lx, Cx⟩ := at_T111 HL.out (i : Int) (by omega) (by omega)
        cases e
        rw [hx] at y0 y1 lx Cx
        rw [Int.toNat_natCast] at y0 y1
        have x0 := (HBw.out.cell (World.block_lt_of_cell? w _ y0)).trans y0
        have x1 := (HBw.out.cell (World.block_lt_of_cell? w _ y1)).trans y1
        clear y0 y1
        have FX := zA (show firsts (D.take (i + 1)) = pick acc x by rw [firsts_succ (by omega), FA.out, hx])
        have LX := zA lx
        have CX := zA Cx
        have AL := zA (show acc.length ≤ 1000000 by rw [← FA.out]; have := firsts_le D i (by omega); have := DL.out; omega)
        clear hx lx Cx
        go_upto_region 15 with ((with_reducible refine gate_dst (N := 15) rfl ?_); refine box_event ?hg (N := 15) ?hd (cs := #[.int .i64 0, .slice none 0 0]) (t := 111) ?hr ?_; (case hd => rfl); (case hg => rfl); (case hr => first | (go_simp; done) | (go_simp; rfl)); intro gx hg w7 hbox hb; have GX := zA ((by rw [hg]; exact Nat.le_of_lt RR.out.sz : w10.heap.size ≤ gx)); have n0_ := zA (RR.out.kept hb); have BX := zA hbox; clear RR; have RR := n0_; clear n0_ hb hbox hg; have hcz6_0 : w7.cell? ⟨gx, 0, none⟩ = some (.int .i64 0) := (blk_cell BX.out 0).trans rfl; have hcz6_1 : w7.cell? ⟨gx, 1, none⟩ = some (.slice none 0 0) := (blk_cell BX.out 1).trans rfl; have hfz6_0 := blk_frozen BX.out 0; have hfz6_1 := blk_frozen BX.out 1)
        have R_ := zA ((RR.out.set BX.out GX.out (by decide) (by decide) 0 (.int .i64 x.f0)).set (blk_put (cs := #[.int .i64 0, .slice none 0 0]) BX.out 0 (.int .i64 x.f0) rfl) GX.out (by decide) (by decide) 1 (.slice Ax x.f1.length cx))
        have BX_ := zA (show _ = some (Obj.cells #[.int .i64 x.f0, .slice Ax x.f1.length cx] 111 (0, 0)) from blk_put (cs := #[.int .i64 x.f0, .slice none 0 0]) (blk_put (cs := #[.int .i64 0, .slice none 0 0]) BX.out 0 (.int .i64 x.f0) rfl) 1 (.slice Ax x.f1.length cx) rfl)
        clear RR BX hcz6_0 hcz6_1 hfz6_0 hfz6_1 HBw
        generalize (w7.setCell ⟨gx, 0, none⟩ (.int .i64 x.f0)).setCell ⟨gx, 1, none⟩ (.slice Ax x.f1.length cx) = w8 at R_ BX_ ⊢
        have RR := R_
        have BX := BX_
        clear R_ BX_ x0 x1
        have s0 : w8.cell? ⟨gx, 0, none⟩ = some (.int .i64 x.f0) := (blk_cell BX.out 0).trans rfl
        by_cases hs : among acc x.f0 = true
        · have SV := zA hs
          have PA := zA (show pick acc x = acc from if_pos hs)
          clear hs
          go_wp2_with (at_lookup; refine askAt RR.out rfl _ _ rfl rfl x.f0 rfl XR.out ?_; rw [SV.out])
          go_roundg d
          case measure => omega
          case rel => exact ⟨i + 1, acc, us, by go_num, ⟨by have := E1.out; omega⟩, ⟨FX.out.trans PA.out⟩, US, ⟨n, by have := NI.out; omega, RR.out⟩⟩
        · have hsf : among acc x.f0 = false := by simpa using hs
          have SV := zA hsf
          have PA := zA (show pick acc x = acc ++ [x] from if_neg hs)
          clear hs hsf
          go_upto_region 17 with (first | (at_lookup; refine askAt RR.out rfl _ _ rfl rfl x.f0 rfl XR.out ?_; rw [SV.out]) | (at_mapUpdate; refine layAt RR.out rfl _ _ _ rfl rfl x rfl rfl XR.out (by have := NI.out; have := E1.out; have := DL.out; omega) ?_; intro w9b hR_ hk_; have n1_ := zA (hk_ _ _ BX.out ⟨_, _, rfl⟩); clear RR BX; have RR := zA hR_; have BX := n1_; clear n1_ hk_ hR_ s0))
          have LN := AL
          refine start_ (n := 12) (S := fun w' => w'.heap[gx]? = some (Obj.cells #[.int .i64 x.f0, .slice Ax x.f1.length cx] 111 (0, 0))) (ds := []) (ms 12 0) (by kernel_rfl) rfl rfl BX.out (fun hHeld => ?_); refine with_tabW tab17 bits17 (fun HT_ HW_ => ?_)
          have n1_ := zA RR.out.drew
          have n2_ := zA (show w9b.drew.heap[gx]? = _ from BX.out)
          clear RR BX
          have RR := n1_
          have BX := n2_
          clear n1_ n2_
          generalize w9b.drew = w11 at RR BX hHeld ⊢
          refine run_ [(0, false, some 62), (1, false, some 63), (2, true, some 64), (5, false, some 67), (6, false, some 68), (7, true, some 69)] (n := 6) (ms 12 231) rfl HT_.out HW_.out (by kernel_rfl) (fun _ _ _ _ h => h) hHeld ?_
          repeat (first | (refine Run.p (v := ?_) (a' := ?_) rfl rfl (Or.inl ⟨by rfl, ?_⟩) ?_ ?_; rotate_left; (focus intro w'; go_simp; with_reducible rfl); rotate_left; (focus simp only [Act.put, sx]; rfl)) | (refine Run.t (v := ?_) (a' := ?_) rfl rfl (Or.inl ⟨by rfl, ?_⟩) ?_ ?_; rotate_left; (focus intro w' hS; have s0 : w'.cell? ⟨gx, 0, none⟩ = some (.int .i64 x.f0) := (blk_cell hS 0).trans rfl; have s1 : w'.cell? ⟨gx, 1, none⟩ = some (.slice Ax x.f1.length cx) := (blk_cell hS 1).trans rfl; go_simp; with_reducible rfl); rotate_left; (focus simp only [Act.put, sx]; rfl)))
          refine Run.nil ?_
          refine join_ (σ := Nat × Nat × Value) 3 (ms 12 511) (fun s => [(65, .slice (some ⟨s.1, 0, none⟩) 1 1), (70, .slice (some ⟨s.2.1, 0, none⟩) 1 1), (66, s.2.2)]) (fun s w' => Aside0 (RS w10.heap.size w10 w' s.2.2 u12 ((acc.map fun x => .int .i64 x.f0) ++ [.int .i64 x.f0]) us (acc ++ [x]) (n + 1)) ∧ Aside0 (w'.heap[gx]? = some (Obj.cells #[.int .i64 x.f0, .slice Ax x.f1.length cx] 111 (0, 0))) ∧ Aside0 (w'.heap[s.2.1]? = some (Obj.cells #[.slice Ax x.f1.length cx] 31 (0, 0)))) ?_ ?_
          · clear hHeld RR BX
            rintro ⟨g3, g8, v1⟩ w12 ⟨RR, BX, L8⟩
            refine norm_ (a' := ?_) ?_ ?_
            rotate_left
            · show putAll _ [_, _, _] = _
              simp only [putAll, Act.put, sx]
              rfl
            refine one_ (i := 9) (N := some 71) (ms 12 1023) rfl rfl (one_of HT_.out (by kernel_rfl)) (by decide) (fun K hK => ?_)
            obtain ⟨v2, w13, hr_, R2_, hk_⟩ := RR.out.app2 L8.out rfl (by rw [US.out.1]; exact LN.out)
            refine app_step (by rfl) (.tmp 67) (.tmp 70) 28 rfl rfl rfl hr_ ?_
            refine hK.out _ _ (hk_ _ _ BX.out (by intro c e; cases e)) (fun hHeld => ?_)
            clear RR hK K hr_ hk_
            have RR := zA R2_
            clear R2_
            refine norm_ (a' := ?_) ?_ ?_
            rotate_left
            · show Act.put _ (some 71) _ = _
              simp only [Act.put, sx]
              rfl
            refine run_ [(10, false, some 11), (11, false, some 12)] (n := 2) (ms 12 4095) rfl HT_.out HW_.out (by kernel_rfl) (fun _ _ _ _ h => h) hHeld ?_
            repeat (refine Run.p (v := ?_) (a' := ?_) rfl rfl (Or.inl ⟨by rfl, ?_⟩) ?_ ?_; rotate_left; (focus intro w'; go_simp; with_reducible rfl); rotate_left; (focus simp only [Act.put, sx]; rfl))
            refine Run.nil ?_
            refine done_ (done_of HT_.out (by kernel_rfl)) ?_
            clear HT_ HW_ hHeld
            go_wp2
            go_roundg d
            case measure => omega
            case rel => exact ⟨i + 1, acc ++ [x], us ++ [.slice Ax x.f1.length cx], by go_num, ⟨by have := E1.out; omega⟩, ⟨FX.out.trans PA.out⟩, ⟨US.out.snoc LX.out CX.out⟩, ⟨n + 1, by have := NI.out; omega, by rw [List.map_append]; exact RR.out⟩⟩
          · intro hj
            have HJ := zA hj
            clear hj hHeld
            refine two_ (i := 3) (j := 8) (Ni := some 65) (Nj := some 70) (ms 12 239) (ms 12 487) rfl rfl rfl rfl (two_of HT_.out (by kernel_rfl)) (by decide) (by decide) (fun K hK => ?_) (fun K hK => ?_)
            · refine value_ (w1 := ?_) (v := ?_) (by rfl) rfl ?_ ?_
              rotate_left 2
              · go_simp
                constructor
                · rfl
                · rfl
              have L3 := zA (heap_alloc_new w11 (.cells #[.int .i64 x.f0] 3))
              have n_ := zA (blk_below BX.out (below_alloc (Below.refl _ _) (.cells #[.int .i64 x.f0] 3)))
              clear BX
              have BX := n_
              clear n_
              have n_ := zA (RR.out.alloc (.cells #[.int .i64 x.f0] 3))
              clear RR
              have RR := n_
              clear n_
              refine hK.out _ _ BX.out (fun hHeld => ?_)
              clear hK K
              refine norm_ (a' := ?_) ?_ ?_
              rotate_left
              · show Act.put _ (some 65) _ = _
                simp only [Act.put, sx]
                rfl
              generalize hG_ : w11.heap.size = g3 at L3 ⊢
              clear hG_
              generalize hG_ : w11.alloc (.cells #[.int .i64 x.f0] 3) = w12 at RR BX L3 ⊢
              clear hG_ hHeld
              refine two_ (i := 4) (j := 8) (Ni := some 66) (Nj := some 70) (ms 12 255) (ms 12 495) rfl rfl rfl rfl (two_of HT_.out (by kernel_rfl)) (by decide) (by decide) (fun K hK => ?_) (fun K hK => ?_)
              · obtain ⟨v1, w13, hr_, R2_, hk_⟩ := RR.out.app1 L3.out rfl (by rw [List.length_map]; exact LN.out)
                refine app_step (by rfl) (.tmp 62) (.tmp 65) 51 rfl rfl rfl hr_ ?_
                clear RR
                have RR := zA R2_
                have n_ := zA (hk_ _ _ BX.out (by intro c e; cases e))
                clear BX
                have BX := n_
                clear n_
                refine hK.out _ _ BX.out (fun hHeld => ?_)
                clear hK K hr_ R2_ hk_ hHeld L3
                refine norm_ (a' := ?_) ?_ ?_
                rotate_left
                · show Act.put _ (some 66) _ = _
                  simp only [Act.put, sx]
                  rfl
                refine one_ (i := 8) (N := some 70) (ms 12 511) rfl rfl (one_of HT_.out (by kernel_rfl)) (by decide) (fun K hK => ?_)
                refine value_ (w1 := ?_) (v := ?_) (by rfl) rfl ?_ ?_
                rotate_left 2
                · go_simp
                  constructor
                  · rfl
                  · rfl
                have L8 := zA (heap_alloc_new w13 (.cells #[.slice Ax x.f1.length cx] 31))
                have n_ := zA (blk_below BX.out (below_alloc (Below.refl _ _) (.cells #[.slice Ax x.f1.length cx] 31)))
                clear BX
                have BX := n_
                clear n_
                have n_ := zA (RR.out.alloc (.cells #[.slice Ax x.f1.length cx] 31))
                clear RR
                have RR := n_
                clear n_
                refine hK.out _ _ BX.out (fun hHeld => ?_)
                clear hK K
                refine norm_ (a' := ?_) ?_ ?_
                rotate_left
                · show Act.put _ (some 70) _ = _
                  simp only [Act.put, sx]
                  rfl
                generalize hG_ : w13.heap.size = g8 at L8 ⊢
                clear hG_
                generalize hG_ : w13.alloc (.cells #[.slice Ax x.f1.length cx] 31) = w14 at RR BX L8 ⊢
                clear hG_ hHeld
                have hj_ := HJ.out (g3, g8, v1) _ ⟨RR, BX, L8⟩
                simp only [putAll, Act.put, sx] at hj_
                exact hj_
              · refine value_ (w1 := ?_) (v := ?_) (by rfl) rfl ?_ ?_
                rotate_left 2
                · go_simp
                  constructor
                  · rfl
                  · rfl
                have L8 := zA (heap_alloc_new w12 (.cells #[.slice Ax x.f1.length cx] 31))
                have n_ := zA (blk_below BX.out (below_alloc (Below.refl _ _) (.cells #[.slice Ax x.f1.length cx] 31)))
                clear BX
                have BX := n_
                clear n_
                have n_ := zA (blk_below L3.out (below_alloc (Below.refl _ _) (.cells #[.slice Ax x.f1.length cx] 31)))
                clear L3
                have L3 := n_
                clear n_
                have n_ := zA (RR.out.alloc (.cells #[.slice Ax x.f1.length cx] 31))
                clear RR
                have RR := n_
                clear n_
                refine hK.out _ _ BX.out (fun hHeld => ?_)
                clear hK K
                refine norm_ (a' := ?_) ?_ ?_
                rotate_left
                · show Act.put _ (some 70) _ = _
                  simp only [Act.put, sx]
                  rfl
                generalize hG_ : w12.heap.size = g8 at L8 ⊢
                clear hG_
                generalize hG_ : w12.alloc (.cells #[.slice Ax x.f1.length cx] 31) = w13 at RR BX L3 L8 ⊢
                clear hG_ hHeld
                refine one_ (i := 4) (N := some 66) (ms 12 511) rfl rfl (one_of HT_.out (by kernel_rfl)) (by decide) (fun K hK => ?_)
                obtain ⟨v1, w14, hr_, R2_, hk_⟩ := RR.out.app1 L3.out rfl (by rw [List.length_map]; exact LN.out)
                refine app_step (by rfl) (.tmp 62) (.tmp 65) 51 rfl rfl rfl hr_ ?_
                clear RR
                have RR := zA R2_
                have n_ := zA (hk_ _ _ BX.out (by intro c e; cases e))
                clear BX
                have BX := n_
                clear n_
                have n_ := zA (hk_ _ _ L8.out (by intro c e; cases e))
                clear L8
                have L8 := n_
                clear n_
                refine hK.out _ _ BX.out (fun hHeld => ?_)
                clear hK K hr_ R2_ hk_ hHeld L3
                refine norm_ (a' := ?_) ?_ ?_
                rotate_left
                · show Act.put _ (some 66) _ = _
                  simp only [Act.put, sx]
                  rfl
                have hj_ := HJ.out (g3, g8, v1) _ ⟨RR, BX, L8⟩
                simp only [putAll, Act.put, sx] at hj_
                exact hj_
            · refine value_ (w1 := ?_) (v := ?_) (by rfl) rfl ?_ ?_
              rotate_left 2
              · go_simp
                constructor
                · rfl
                · rfl
              have L8 := zA (heap_alloc_new w11 (.cells #[.slice Ax x.f1.length cx] 31))
              have n_ := zA (blk_below BX.out (below_alloc (Below.refl _ _) (.cells #[.slice Ax x.f1.length cx] 31)))
              clear BX
              have BX := n_
              clear n_
              have n_ := zA (RR.out.alloc (.cells #[.slice Ax x.f1.length cx] 31))
              clear RR
              have RR := n_
              clear n_
              refine hK.out _ _ BX.out (fun hHeld => ?_)
              clear hK K
              refine norm_ (a' := ?_) ?_ ?_
              rotate_left
              · show Act.put _ (some 70) _ = _
                simp only [Act.put, sx]
                rfl
              generalize hG_ : w11.heap.size = g8 at L8 ⊢
              clear hG_
              generalize hG_ : w11.alloc (.cells #[.slice Ax x.f1.length cx] 31) = w12 at RR BX L8 ⊢
              clear hG_ hHeld
              refine one_ (i := 3) (N := some 65) (ms 12 495) rfl rfl (one_of HT_.out (by kernel_rfl)) (by decide) (fun K hK => ?_)
              refine value_ (w1 := ?_) (v := ?_) (by rfl) rfl ?_ ?_
              rotate_left 2
              · go_simp
                constructor
                · rfl
                · rfl
              have L3 := zA (heap_alloc_new w12 (.cells #[.int .i64 x.f0] 3))
              have n_ := zA (blk_below BX.out (below_alloc (Below.refl _ _) (.cells #[.int .i64 x.f0] 3)))
              clear BX
              have BX := n_
              clear n_
              have n_ := zA (blk_below L8.out (below_alloc (Below.refl _ _) (.cells #[.int .i64 x.f0] 3)))
              clear L8
              have L8 := n_
              clear n_
              have n_ := zA (RR.out.alloc (.cells #[.int .i64 x.f0] 3))
              clear RR
              have RR := n_
              clear n_
              refine hK.out _ _ BX.out (fun hHeld => ?_)
              clear hK K
              refine norm_ (a' := ?_) ?_ ?_
              rotate_left
              · show Act.put _ (some 65) _ = _
                simp only [Act.put, sx]
                rfl
              generalize hG_ : w12.heap.size = g3 at L3 ⊢
              clear hG_
              generalize hG_ : w12.alloc (.cells #[.int .i64 x.f0] 3) = w13 at RR BX L8 L3 ⊢
              clear hG_ hHeld
              refine one_ (i := 4) (N := some 66) (ms 12 511) rfl rfl (one_of HT_.out (by kernel_rfl)) (by decide) (fun K hK => ?_)
              obtain ⟨v1, w14, hr_, R2_, hk_⟩ := RR.out.app1 L3.out rfl (by rw [List.length_map]; exact LN.out)
              refine app_step (by rfl) (.tmp 62) (.tmp 65) 51 rfl rfl rfl hr_ ?_
              clear RR
              have RR := zA R2_
              have n_ := zA (hk_ _ _ BX.out (by intro c e; cases e))
              clear BX
              have BX := n_
              clear n_
              have n_ := zA (hk_ _ _ L8.out (by intro c e; cases e))
              clear L8
              have L8 := n_
              clear n_
              refine hK.out _ _ BX.out (fun hHeld => ?_)
              clear hK K hr_ R2_ hk_ hHeld L3
              refine norm_ (a' := ?_) ?_ ?_
              rotate_left
              · show Act.put _ (some 66) _ = _
                simp only [Act.put, sx]
                rfl
              have hj_ := HJ.out (g3, g8, v1) _ ⟨RR, BX, L8⟩
              simp only [putAll, Act.put, sx] at hj_
              exact hj_
      | zero =>
        have hz : ¬ (i : Int) < (D.length : Int) := by have := E1.out; omega
        obtain ⟨n, hn, hR⟩ := RX.out
        have hbig : D.length ≤ 1000000 := DL.out
        have hfa : firsts D = acc := by have := FA.out; rwa [List.take_of_length_le (by have := E1.out; omega)] at this
        have hal : acc.length ≤ 1000000 := by rw [← FA.out]; have := firsts_le D i (by have := E1.out; omega); have := E1.out; omega
        have HBw := zA (below_step HB.out hR.b)
        obtain ⟨Ae, ce, rfl, le_, Ce_⟩ := hR.nums hal
        obtain ⟨Ad, cd, rfl, ld_, Cd_⟩ := hR.rows US.out HBw.out hal
        have n0_ := zA (blk_below B0.out hR.b)
        have n1_ := zA (blk_below BP.out hR.b)
        have h := HH.out
        rw [hfa] at h
        clear HH FA US RX HB B0 BP hR hn hal hbig E1 BAD hfa DL
        have HB := HBw
        have B0 := n0_
        have BP := n1_
        clear HBw n0_ n1_
        generalize acc.map (·.f0) = es at le_ Ce_ h ⊢
        generalize acc.map (·.f1) = ds at ld_ Cd_ h ⊢
        obtain ⟨⟨t1, t2⟩, PA_, h⟩ := Option.bind_eq_some_iff.mp h
        have PA := zA PA_
        have HH := zA h
        have LE := zA le_
        have CE := zA Ce_
        have LD := zA ld_
        have CD := zA Cd_
        clear PA_ h le_ Ce_ ld_ Cd_
        have s0 : wr.cell? ⟨gp, 0, none⟩ = some (.int .i64 p0) := (blk_cell BP.out 0).trans rfl
        have s1_ : wr.cell? ⟨gp, 1, none⟩ = some (.int .i64 p1) := (blk_cell BP.out 1).trans rfl
        have s2 : wr.cell? ⟨gp, 2, none⟩ = some (.int .i64 p2) := (blk_cell BP.out 2).trans rfl
        have s3 : wr.cell? ⟨gb, 0, none⟩ = some (.int .i64 z) := (blk_cell B0.out 0).trans rfl
        go_upto_region 20 with (go_at_call 82; (with_reducible refine (block_Parts.calls k p0 p1 p2 s1 z Ae ce es (fun _ => True) Ad cd ds t1 t2 _ CE.out LE.out (VofC CD.out LD.out _) PA.out).mono ?_); rintro e w13 ⟨v, rfl, ho_, hb⟩; obtain ⟨At, ct, rfl, lt_, Ft_⟩ := ho_; have LT := zA lt_; have CT := zA (show (Kd.slice 5 (Kd.int .u8)).C w13 At t1.length t1 from Kd.F_now Ft_); have n0_ := zA (below_step HB.out hb); have n1_ := zA (blk_below B0.out hb); have n2_ := zA (blk_below BP.out hb); clear lt_ Ft_ hb HB B0 BP s0 s1_ s2 s3; have HB := n0_; have B0 := n1_; have BP := n2_; clear n0_ n1_ n2_)
        have h := HH.out
        clear HH
        by_cases q4 : t2 ≠ 0
        · rw [if_pos q4] at h
          obtain rfl := Option.some.inj h
          have q5 : (t2 != 0) = true := bne_iff_ne.2 q4
          clear h q4
          go_wp2
          go_ret2
          exact ⟨_, rfl, Kd.S_nil _ _ _ _ _, HB.out⟩
        rw [if_neg q4] at h
        obtain rfl : t2 = 0 := Decidable.not_not.1 q4
        obtain ⟨so, SO_, h⟩ := Option.bind_eq_some_iff.mp h
        obtain ⟨o, DR_, h⟩ := Option.bind_eq_some_iff.mp h
        obtain rfl := Option.some.inj h
        have SO := zA SO_
        have DR := zA DR_
        clear q4 h SO_ DR_
        go_upto_region 22 with (fail)
        refine start_ (n := 9) (S := fun w' => Below w13.heap.size w13 w') (ds := []) (ms 9 0) (by kernel_rfl) rfl rfl (Below.refl _ _).drew (fun hHeld => ?_); refine with_tabW tab22 bits22 (fun HT_ HW_ => ?_)
        have HW := zA (show Below w13.heap.size w13 w13.drew from (Below.refl _ _).drew)
        generalize w13.drew = w14 at hHeld HW ⊢
        refine run_ [(0, true, some 85), (1, false, some 86), (2, true, some 87), (3, false, some 88), (4, false, some 89)] (n := 5) (ms 9 31) rfl HT_.out HW_.out (by kernel_rfl) (fun _ _ _ _ h => h) hHeld ?_
        repeat (first | (refine Run.p (v := ?_) (a' := ?_) rfl rfl (Or.inl ⟨by rfl, ?_⟩) ?_ ?_; rotate_left; (focus intro w'; go_simp; with_reducible rfl); rotate_left; (focus simp only [Act.put, sx]; rfl)) | (refine Run.t (v := ?_) (a' := ?_) rfl rfl (Or.inl ⟨by rfl, ?_⟩) ?_ ?_; rotate_left; (focus intro w' hS; have b_ := blk_below BP.out hS; have b0_ := blk_below B0.out hS; have s0 : w'.cell? ⟨gp, 0, none⟩ = some (.int .i64 p0) := (blk_cell b_ 0).trans rfl; have s1 : w'.cell? ⟨gp, 1, none⟩ = some (.int .i64 p1) := (blk_cell b_ 1).trans rfl; have s2 : w'.cell? ⟨gp, 2, none⟩ = some (.int .i64 p2) := (blk_cell b_ 2).trans rfl; have s3 : w'.cell? ⟨gb, 0, none⟩ = some (.int .i64 z) := (blk_cell b0_ 0).trans rfl; go_simp; with_reducible rfl); rotate_left; (focus simp only [Act.put, sx]; rfl)))
        refine Run.nil ?_
        refine one_ (i := 5) (N := some 90) (ms 9 63) rfl rfl (one_of HT_.out (by kernel_rfl)) (by decide) (fun K hK => ?_)
        refine goes_ Try.func78 (by kernel_rfl) rfl #[.int .i64 K0] (by rfl) rfl rfl agl ?_
        with_reducible refine (seed_Sources.calls k K0 so _ SO.out).mono ?_
        rintro e w15 ⟨v, rfl, ho_, hb_⟩
        refine ⟨_, rfl, ?_⟩
        obtain ⟨As, cs, rfl, ls_, Cs_⟩ := Kd.R_reads ho_
        have n0_ := zA (below_step HW.out hb_)
        have LS := zA ls_
        have CS := zA Cs_
        clear ho_ ls_ Cs_ hb_ HW
        have HW := n0_
        clear n0_
        refine hK.out _ _ HW.out (fun hHeld => ?_)
        clear hK
        refine norm_ (a' := ?_) ?_ ?_
        rotate_left
        · show Act.put _ (some 90) _ = _
          simp only [Act.put, sx]
          rfl
        refine one_ (i := 6) (N := some 91) (ms 9 127) rfl rfl (one_of HT_.out (by kernel_rfl)) (by decide) (fun K hK => ?_)
        refine goes_ Try.func90 (by kernel_rfl) rfl #[.agg #[.int .i64 p0, .int .i64 p1, .int .i64 p2], .int .i64 s1, .int .i64 z, .slice At t1.length ct, .slice As so.length cs] (by rfl) rfl rfl agl ?_
        with_reducible refine (drops_Drops.calls k p0 p1 p2 s1 z At ct t1 As cs so o _ (Kd.C_below CT.out HW.out) LT.out CS.out LS.out DR.out).mono ?_
        rintro e w16 ⟨v, rfl, ho_, hb_⟩
        refine ⟨_, rfl, ?_⟩
        have HO := zA (Kd.S_lower ho_ (below_step HB.out HW.out).size)
        have n0_ := zA (below_step HW.out hb_)
        clear ho_ hb_ HW
        have HW := n0_
        clear n0_
        refine hK.out _ _ HW.out (fun hHeld => ?_)
        clear hK
        refine norm_ (a' := ?_) ?_ ?_
        rotate_left
        · show Act.put _ (some 91) _ = _
          simp only [Act.put, sx]
          rfl
        refine run_ [(7, false, some 6), (8, false, some 7)] (n := 2) (ms 9 511) rfl HT_.out HW_.out (by kernel_rfl) (fun _ _ _ _ h => h) hHeld ?_
        repeat (refine Run.p (v := ?_) (a' := ?_) rfl rfl (Or.inl ⟨by rfl, ?_⟩) ?_ ?_; rotate_left; (focus intro w'; go_simp; with_reducible rfl); rotate_left; (focus simp only [Act.put, sx]; rfl))
        refine Run.nil ?_
        refine done_ (done_of HT_.out (by kernel_rfl)) ?_
        clear HT_ HW_ hHeld
        have n3_ := zA (below_step HB.out HW.out)
        clear HB B0 BP HW SO PA CE LE CD LD
        have HB := n3_
        go_wp2
        go_ret2
        exact ⟨v, rfl, HO.out, HB.out⟩
end Go.Proofs.Ytbfhinfblepidaa.Db
