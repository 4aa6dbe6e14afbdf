/- slices.ContainsFunc over numbers with decode.wrong; and decode.Enough. Conditions: those that stand in the theorems. -/
import Derived.Test.YtbfhinfblepidaaDr
import Derived.Test.YtbfhinfblepidaaPa
set_option maxHeartbeats 8000000
set_option maxRecDepth 100000
namespace Go.Proofs.Ytbfhinfblepidaa.De
open Go.RowKit Go.Lib Go.Proofs.Ytbfhinfblepidaa.PSolveTells Go.Proofs.Ytbfhinfblepidaa.PSeedTells Go.Proofs.Ytbfhinfblepidaa.PBlockTells Go.Proofs.Ytbfhinfblepidaa.PDecodeTells Go.Proofs.YtbfhinfblepidaaW.PrintWords Go.Proofs.YtbfhinfblepidaaW.PrintLast Go.Proofs.YtbfhinfblepidaaW.PrintMore Go.Proofs.Ytbfhinfblepidaa.Mt Go.Proofs.Ytbfhinfblepidaa.Dr
set_option linter.unusedVariables false
set_option linter.unusedSimpArgs false
def idx (p : Int → Bool) : List Int → Int → Int
  | [], _ => -1
  | r :: L, i => if p r = true then i else idx p L (i + 1)
theorem idx_sign {p : Int → Bool} : ∀ (L : List Int) (i : Int), 0 ≤ i → decide (0 ≤ idx p L i) = L.any p
  | [], _, _ => rfl
  | r :: L, i, h => by
    unfold idx
    by_cases e : p r = true
    · rw [if_pos e, List.any_cons, e, decide_eq_true h]; rfl
    · rw [if_neg e, List.any_cons, idx_sign L (i + 1) (by omega)]
      rw [show p r = false from by simpa using e]; rfl
theorem idx_hit {p : Int → Bool} {L : List Int} : ∀ (k : Nat) (i : Int), k < L.length → p (rd L (k : Int)) = true → (∀ j : Nat, j < k → p (rd L (j : Int)) = false) → idx p L i = i + k := by
  induction L with
  | nil => intro k i h; simp at h
  | cons r L ih =>
    intro k i hk hp hj
    cases k with
    | zero => simp only [idx]; rw [if_pos (by simpa [rd] using hp)]; simp
    | succ k =>
      have h0 := hj 0 (by omega)
      simp only [idx]
      rw [if_neg (by have : p r = false := by simpa [rd] using h0
                     rw [this]; decide)]
      have hs : ∀ m : Nat, rd (r :: L) ((m + 1 : Nat) : Int) = rd L (m : Int) := fun m => by unfold rd; rw [Int.toNat_natCast, Int.toNat_natCast]; rfl
      rw [ih k (i + 1) (by simpa using hk) (by rw [← hs]; exact hp) (fun j h => by rw [← hs]; exact hj (j + 1) (by omega))]
      omega
theorem idx_miss {p : Int → Bool} {L : List Int} (h : L.any p = false) : ∀ i : Int, idx p L i = -1 := by
  induction L with
  | nil => intro i; rfl
  | cons r L ih =>
    intro i
    rw [List.any_cons, Bool.or_eq_false_iff] at h
    simp only [idx]
    rw [if_neg (by rw [h.1]; decide), ih h.2]
theorem index_calls (A : Option Addr) (c : Nat) (L : List Int) (w : World) (hC : (Kd.int .i64).C w A L.length L) :
    Calls Try.prog 108 #[.slice A L.length c, .func (.func 88) #[] #[]] w fun e w' => e = .returned (.int .i64 (idx Cd.bad L 0)) ∧ Below w.heap.size w w' := by
  have hbig : L.length ≤ 9223372036854775807 := hC.2.1
  go_enter Try.func108, Try.ntmps108
  go_wp2
  go_loopg [5, 8] L.length (fun gg _ s8 wr => ∃ kk : Nat, kk ≤ L.length ∧ L.length - kk ≤ gg ∧ s8 = .int .i64 kk ∧ Below w.heap.size w wr ∧ Aside (∀ j : Nat, j < kk → Cd.bad (rd L (j : Int)) = false))
  case atStart => exact ⟨0, Nat.zero_le _, by omega, rfl, Below.refl _ _, fun j hj => absurd hj (Nat.not_lt_zero _)⟩
  case round =>
    obtain ⟨kk, hkk, hg, rfl, hb, A0⟩ := hrel
    by_cases hlt : kk < L.length
    · have hltz : (kk : Int) < (L.length : Int) := by omega
      obtain ⟨ad, rfl, hcell⟩ := Kd.at_int (Kd.C_below hC hb) (kk : Int) (by omega) hltz
      have hcall := Cd.wrong.calls (rd L (kk : Int)) wr
      generalize hy : Cd.bad (rd L (kk : Int)) = q at hcall
      rw [Int.toNat_natCast] at hcell
      cases q with
      | true =>
        go_wp2_with (go_at_call 88; refine hcall.mono ?_; rintro e w' ⟨rfl, hb'⟩)
        go_ret
        refine ⟨?_, below_step hb hb'⟩
        rw [idx_hit kk 0 hlt hy A0.out]
        simp
      | false =>
        go_wp2_with (go_at_call 88; refine hcall.mono ?_; rintro e w' ⟨rfl, hb'⟩)
        go_roundg (L.length - (kk + 1))
        case measure => omega
        case rel =>
          refine ⟨kk + 1, by omega, by omega, by go_num, below_step hb hb', (show Aside _ from fun j hj => ?_)⟩
          by_cases e : j = kk
          · subst e; exact hy
          · exact A0.out j (by omega)
    · have hltz : ¬ (kk : Int) < (L.length : Int) := by omega
      go_wp2
      go_ret
      refine ⟨?_, hb⟩
      rw [idx_miss (not_any_rd (fun j h => A0.out j (by omega)))]
      rfl
theorem contains_calls (A : Option Addr) (c : Nat) (L : List Int) (w : World) (hC : (Kd.int .i64).C w A L.length L) :
    Calls Try.prog 91 #[.slice A L.length c, .func (.func 88) #[] #[]] w fun e w' => e = .returned (.bool (L.any Cd.bad)) ∧ Below w.heap.size w w' := by
  have hcon := index_calls A c L w hC
  rw [← idx_sign L 0 (by decide)]
  generalize idx Cd.bad L 0 = r at hcon ⊢
  go_enter Try.func91, Try.ntmps91
  go_wp2_with (go_at_call 108; refine hcon.mono ?_; rintro e w' ⟨rfl, hb'⟩)
  go_ret
  exact ⟨rfl, hb'⟩
noncomputable def denough.f (k : Nat) (K : Int) (es : List Int) : Option Bool :=
  (params_Of.f K).bind fun p => (seed_Find.f k K).bind fun s => if s.2 ≠ 0 then some false else if es.any Cd.bad = true then some false else
  (params_Params_L.f p.1 p.2.1 p.2.2.1).bind fun l => (precode_Matrix.f k p.1 p.2.1 p.2.2.1 s.1 es).bind fun m => (Pz.rank.f l m).bind fun q => some (q == l)
def T5 : Bool × List (List Nat × List Nat) := (true, [([], []), ([0], [0]), ([], []), ([], []), ([], []), ([2, 3, 4, 1], [2, 3, 4]), ([1, 5, 5], [1, 5]), ([], []), ([7, 6], [7]), ([6, 8], [6, 8]), ([9, 8, 0, 1, 2, 3, 4, 5, 6, 7, 8, 9], [9])])
def B5 : List Nat := [0, 1, 0, 0, 0, 31, 63, 0, 255, 511, 1023]
theorem tab5 : rtab .any (opsOf Try.f59 5) = T5 := by kernel_rfl
theorem bits5 : waitsOk T5.2 B5 = true := by kernel_rfl
theorem denough.calls (k : Nat) (K0 : Int) (A1 : Option Addr) (c1 : Nat) (es : List Int) (r : Bool) (w : World) (hE : (Kd.int .i64).C w A1 es.length es) (hcE : es.length ≤ c1) (h : denough.f k K0 es = some r) :
    Calls Try.prog 59 #[.int .i64 K0, .slice A1 es.length c1] w fun e w' => e = .returned (.bool r) ∧ Below w.heap.size w w' := by
  have hu24 := Try.underlying24
  unfold denough.f at h
  obtain ⟨⟨p0, p1, p2, p3⟩, OF_, h⟩ := Option.bind_eq_some_iff.mp h
  obtain ⟨⟨s1, s2⟩, FI_, h⟩ := Option.bind_eq_some_iff.mp h
  have HH := zA h
  have OF := zA OF_
  have FI := zA FI_
  have HE := zA hE
  have LE := zA hcE
  have HB := zA (Below.refl w.heap.size w)
  clear h OF_ FI_ hE hcE
  go_enter Try.func59, Try.ntmps59
  go_upto_region 2 with (first | (go_at_call 19; (with_reducible refine (params_Of.calls K0 p0 p1 p2 p3 _ OF.out).mono ?_); rintro e w6 ⟨rfl, hb⟩; replace HB := zA (belt hb); clear hb) | ((with_reducible refine gate_dst (N := 5) rfl ?_); refine box_event ?hg (N := 5) ?hd (cs := #[.int .i64 0, .int .i64 0, .int .i64 0]) (t := 24) ?hr ?_; (case hd => rfl); (case hg => rfl); (case hr => first | (go_simp; done) | (go_simp; rfl)); intro gp hg w7 hbox hb; have GP := zA ((by rw [hg]; exact bels : w.heap.size ≤ gp)); have n0_ := zA (belt hb); have BP := zA hbox; clear HB; have HB := n0_; clear n0_ hb hbox hg; have hcz6_0 : w7.cell? ⟨gp, 0, none⟩ = some (.int .i64 0) := (blk_cell BP.out 0).trans rfl; have hcz6_1 : w7.cell? ⟨gp, 1, none⟩ = some (.int .i64 0) := (blk_cell BP.out 1).trans rfl; have hcz6_2 : w7.cell? ⟨gp, 2, none⟩ = some (.int .i64 0) := (blk_cell BP.out 2).trans rfl; have hfz6_0 := blk_frozen BP.out 0; have hfz6_1 := blk_frozen BP.out 1; have hfz6_2 := blk_frozen BP.out 2))
  have BP_ := zA (blk_put (cs := #[.int .i64 p0, .int .i64 p1, .int .i64 0]) (blk_put (cs := #[.int .i64 p0, .int .i64 0, .int .i64 0]) (blk_put (cs := #[.int .i64 0, .int .i64 0, .int .i64 0]) BP.out 0 (.int .i64 p0) rfl) 1 (.int .i64 p1) rfl) 2 (.int .i64 p2) rfl)
  have HB_ := zA (below_set (j := 2) (v := .int .i64 p2) (below_set (j := 1) (v := .int .i64 p1) (below_set (j := 0) (v := .int .i64 p0) HB.out GP.out) GP.out) GP.out)
  clear BP HB hcz6_0 hcz6_1 hcz6_2 hfz6_0 hfz6_1 hfz6_2
  generalize ((w7.setCell ⟨gp, 0, none⟩ (.int .i64 p0)).setCell ⟨gp, 1, none⟩ (.int .i64 p1)).setCell ⟨gp, 2, none⟩ (.int .i64 p2) = w8 at BP_ HB_ ⊢
  have BP := BP_
  have HB := HB_
  clear BP_ HB_ GP OF
  go_upto_region 3 with (go_at_call 42; (with_reducible refine (seed_Find.calls k K0 s1 s2 _ FI.out).mono ?_); rintro e w10 ⟨rfl, hb⟩; have n0_ := zA (below_step HB.out hb); have n2_ := zA (blk_below BP.out hb); clear HB BP hb; have HB := n0_; have BP := n2_; clear n0_ n2_)
  clear FI
  have h := HH.out
  clear HH
  by_cases q4 : s2 ≠ 0
  · rw [if_pos q4] at h
    obtain rfl := Option.some.inj h
    have q5 : (s2 != 0) = true := bne_iff_ne.2 q4
    clear h q4
    go_wp2
    go_ret
    exact ⟨rfl, HB.out⟩
  rw [if_neg q4] at h
  obtain rfl : s2 = 0 := Decidable.not_not.1 q4
  have CON := zA (contains_calls A1 c1 es w10 (Kd.C_below HE.out HB.out))
  obtain ⟨od, hod⟩ : ∃ od, es.any Cd.bad = od := ⟨_, rfl⟩
  rw [hod] at CON h
  have HH := zA h
  clear hod h q4
  cases od with
  | true =>
    have h := HH.out
    rw [if_pos rfl] at h
    obtain rfl := Option.some.inj h
    clear h HH
    go_wp2_with (go_at_call 91; (try (refine gate_guard (by rfl) ?_; dsimp only)); (with_reducible refine CON.out.mono ?_); rintro e w11 ⟨rfl, hb⟩; have n0_ := zA (below_step HB.out hb); clear HB hb; have HB := n0_; clear n0_)
    go_ret
    exact ⟨rfl, HB.out⟩
  | false =>
    have h := HH.out
    rw [if_neg (by decide)] at h
    clear HH
    obtain ⟨l, LL_, h⟩ := Option.bind_eq_some_iff.mp h
    obtain ⟨m, MA_, h⟩ := Option.bind_eq_some_iff.mp h
    obtain ⟨q, RA_, h⟩ := Option.bind_eq_some_iff.mp h
    obtain rfl := Option.some.inj h
    have LL := zA LL_
    have MA := zA MA_
    have RA := zA RA_
    clear h LL_ MA_ RA_
    go_upto_region 5 with (go_at_call 91; (try (refine gate_guard (by rfl) ?_; dsimp only)); (with_reducible refine CON.out.mono ?_); rintro e w11 ⟨rfl, hb⟩; have n0_ := zA (below_step HB.out hb); have n2_ := zA (blk_below BP.out hb); clear HB BP hb; have HB := n0_; have BP := n2_; clear n0_ n2_)
    clear CON
    refine start_ (n := 11) (S := fun w' => Below w11.heap.size w11 w') (ds := []) (ms 11 0) (by kernel_rfl) rfl rfl (Below.refl _ _).drew (fun hHeld => ?_); refine with_tabW tab5 bits5 (fun HT_ HW_ => ?_)
    have HW := zA (show Below w11.heap.size w11 w11.drew from (Below.refl _ _).drew)
    generalize w11.drew = w12 at hHeld HW ⊢
    refine run_ [(0, true, some 25), (2, true, some 27), (3, false, some 28), (4, false, some 29), (7, true, some 32)] (n := 5) (ms 11 157) rfl HT_.out HW_.out (by kernel_rfl) (fun _ _ _ _ h => h) hHeld ?_
    repeat (first | (refine Run.p (v := ?_) (a' := ?_) rfl rfl (Or.inl ⟨by rfl, ?_⟩) ?_ ?_; rotate_left; (focus intro w'; go_simp; with_reducible rfl); rotate_left; (focus simp only [Act.put, sx]; rfl)) | (refine Run.t (v := ?_) (a' := ?_) rfl rfl (Or.inl ⟨by rfl, ?_⟩) ?_ ?_; rotate_left; (focus intro w' hS; have b_ := blk_below BP.out hS; have s0 : w'.cell? ⟨gp, 0, none⟩ = some (.int .i64 p0) := (blk_cell b_ 0).trans rfl; have s1 : w'.cell? ⟨gp, 1, none⟩ = some (.int .i64 p1) := (blk_cell b_ 1).trans rfl; have s2 : w'.cell? ⟨gp, 2, none⟩ = some (.int .i64 p2) := (blk_cell b_ 2).trans rfl; go_simp; with_reducible rfl); rotate_left; (focus simp only [Act.put, sx]; rfl)))
    refine Run.nil ?_
    refine one_ (i := 1) (N := some 26) (ms 11 159) rfl rfl (one_of HT_.out (by kernel_rfl)) (by decide) (fun K hK => ?_)
    refine goes_ Try.func22 (by kernel_rfl) rfl #[.agg #[.int .i64 p0, .int .i64 p1, .int .i64 p2]] (by rfl) rfl rfl agl ?_
    with_reducible refine (params_Params_L.calls p0 p1 p2 l _ LL.out).mono ?_
    rintro e w13 ⟨rfl, hb_⟩
    refine ⟨_, rfl, ?_⟩
    have n0_ := zA (below_step HW.out hb_)
    clear hb_ HW
    have HW := n0_
    clear n0_
    refine hK.out _ _ HW.out (fun hHeld => ?_)
    clear hK
    refine norm_ (a' := ?_) ?_ ?_
    rotate_left
    · show Act.put _ (some 26) _ = _
      simp only [Act.put, sx]
      rfl
    refine one_ (i := 5) (N := some 30) (ms 11 191) rfl rfl (one_of HT_.out (by kernel_rfl)) (by decide) (fun K hK => ?_)
    refine goes_ Try.func38 (by kernel_rfl) rfl #[.agg #[.int .i64 p0, .int .i64 p1, .int .i64 p2], .int .i64 s1, .slice A1 es.length c1] (by rfl) rfl rfl agl ?_
    with_reducible refine (precode_Matrix.calls k p0 p1 p2 s1 A1 c1 es m _ (Kd.C_below HE.out (below_step HB.out HW.out)) LE.out MA.out).mono ?_
    rintro e w14 ⟨v, rfl, ho_, hb_⟩
    refine ⟨_, rfl, ?_⟩
    obtain ⟨Am, cm, rfl⟩ := Kd.N_slice ho_
    have n0_ := zA (below_step HW.out hb_)
    have CM := zA (Kd.N_reads' ho_).2.2
    have LM := zA (Kd.N_reads' ho_).2.1
    clear ho_ hb_ HW
    have HW := n0_
    clear n0_
    refine hK.out _ _ HW.out (fun hHeld => ?_)
    clear hK
    refine norm_ (a' := ?_) ?_ ?_
    rotate_left
    · show Act.put _ (some 30) _ = _
      simp only [Act.put, sx]
      rfl
    refine one_ (i := 6) (N := some 31) (ms 11 255) rfl rfl (one_of HT_.out (by kernel_rfl)) (by decide) (fun K hK => ?_)
    refine goes_ Try.func29 (by kernel_rfl) rfl #[.int .i64 l, .slice Am m.length cm] (by rfl) rfl rfl agl ?_
    with_reducible refine (Pz.rank.calls l Am cm m q _ CM.out LM.out RA.out).mono ?_
    rintro e w15 ⟨rfl, hb_⟩
    refine ⟨_, rfl, ?_⟩
    have n0_ := zA (below_step HW.out hb_)
    clear hb_ HW
    have HW := n0_
    clear n0_
    refine hK.out _ _ HW.out (fun hHeld => ?_)
    clear hK
    refine norm_ (a' := ?_) ?_ ?_
    rotate_left
    · show Act.put _ (some 31) _ = _
      simp only [Act.put, sx]
      rfl
    refine one_ (i := 8) (N := some 33) (ms 11 511) rfl rfl (one_of HT_.out (by kernel_rfl)) (by decide) (fun K hK => ?_)
    refine goes_ Try.func22 (by kernel_rfl) rfl #[.agg #[.int .i64 p0, .int .i64 p1, .int .i64 p2]] (by rfl) rfl rfl agl ?_
    with_reducible refine (params_Params_L.calls p0 p1 p2 l _ LL.out).mono ?_
    rintro e w16 ⟨rfl, hb_⟩
    refine ⟨_, rfl, ?_⟩
    have n0_ := zA (below_step HW.out hb_)
    clear hb_ HW
    have HW := n0_
    clear n0_
    refine hK.out _ _ HW.out (fun hHeld => ?_)
    clear hK
    refine norm_ (a' := ?_) ?_ ?_
    rotate_left
    · show Act.put _ (some 33) _ = _
      simp only [Act.put, sx]
      rfl
    refine run_ [(9, false, some 34), (10, false, some 4)] (n := 2) (ms 11 2047) rfl HT_.out HW_.out (by kernel_rfl) (fun _ _ _ _ h => h) hHeld ?_
    repeat (refine Run.p (v := ?_) (a' := ?_) rfl rfl (Or.inl ⟨by rfl, ?_⟩) ?_ ?_; rotate_left; (focus intro w'; go_simp; with_reducible rfl); rotate_left; (focus simp only [Act.put, sx]; rfl))
    refine Run.nil ?_
    refine done_ (done_of HT_.out (by kernel_rfl)) ?_
    clear HT_ HW_ hHeld
    have n3_ := zA (below_step HB.out HW.out)
    clear HB BP HW
    have HB := n3_
    go_wp2
    go_ret
    exact ⟨rfl, HB.out⟩
end Go.Proofs.Ytbfhinfblepidaa.De
