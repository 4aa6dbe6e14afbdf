/- The document's block: NewBlock. Conditions: those that stand in the theorems. -/
import Derived.Test.YtbfhinfblepidaaBn
import Derived.Test.YtbfhinfblepidaaRsSolveTells
set_option maxHeartbeats 8000000
set_option maxRecDepth 100000
namespace Go.Proofs.Ytbfhinfblepidaa.Br
open Go.RowKit Go.Lib Go.Proofs.Ytbfhinfblepidaa.PSolveTells Go.Proofs.Ytbfhinfblepidaa.PSeedTells Go.Proofs.Ytbfhinfblepidaa.PBlockTells Go.Proofs.YtbfhinfblepidaaW.PrintWords Go.Proofs.YtbfhinfblepidaaW.PrintLast Go.Proofs.YtbfhinfblepidaaW.PrintMore Go.Proofs.Ytbfhinfblepidaa.Mt Go.Proofs.Ytbfhinfblepidaa.Bs Go.Proofs.Ytbfhinfblepidaa.Bn
set_option linter.unusedVariables false
set_option linter.unusedSimpArgs false
abbrev RRes := Option (Int × Int × List (List Int)) × Int
noncomputable def rnew.f (k : Nat) (z : Int) (L : List (List Int)) : Option RRes :=
  if z < 1 ∨ 64 < z ∨ (L.length : Int) < 1 ∨ 40 < (L.length : Int) then some (none, 1) else if L.any (odd z) = true then some (none, 10) else
  (fountainref1_Seed.f k (L.length : Int)).bind fun s => if s.2 ≠ 0 then some (none, s.2) else
  (fountainref1_L.f (L.length : Int)).bind fun l => (fountainref1_first.f k (L.length : Int)).bind fun es => (fountainref1_Matrix.f k (L.length : Int) s.1 es).bind fun m =>
  (fountainref1_zero.f k (L.length : Int) z L).bind fun d => (RsSolveTells.rsolve.f k l z m d).bind fun q =>
  if q.2 ≠ 0 then some (none, q.2) else some (some ((L.length : Int), s.1, q.1), 0)
def Post (z : Int) (w : World) (r : RRes) (e : Ending) (w' : World) : Prop := match r.1 with
  | none => e = .returned (.tuple #[.pointer none, .int .i64 r.2]) ∧ Below w.heap.size w w'
  | some b => ∃ g A c, e = .returned (.tuple #[.pointer (some ⟨g, 0, none⟩), .int .i64 r.2]) ∧ w.heap.size ≤ g ∧ RBlk w' g b.1 b.2.1 z A c b.2.2.length ∧ (Kd.slice 5 (Kd.int .u8)).C w' A b.2.2.length b.2.2 ∧ b.2.2.length ≤ c ∧ Below w.heap.size w w'
theorem rnew.calls (k : Nat) (z : Int) (A1 : Option Addr) (c1 : Nat) (L : List (List Int)) (r : RRes) (w : World) (hL : (Kd.slice 5 (Kd.int .u8)).C w A1 L.length L) (hcL : L.length ≤ c1) (h : rnew.f k z L = some r) :
    Calls Try.prog 48 #[.int .i64 z, .slice A1 L.length c1] w (Post z w r) := by
  unfold rnew.f at h
  have HL := zA hL
  have LC := zA hcL
  have HB := zA (Below.refl w.heap.size w)
  by_cases q1 : z < 1 ∨ 64 < z ∨ (L.length : Int) < 1 ∨ 40 < (L.length : Int)
  · rw [if_pos q1] at h
    obtain rfl := Option.some.inj h
    clear h hL hcL
    by_cases q2 : z < 1
    · clear q1
      go_enter Try.func48, Try.ntmps48
      go_wp2
      go_ret2
      exact ⟨rfl, bel⟩
    by_cases q3 : 64 < z
    · clear q1
      go_enter Try.func48, Try.ntmps48
      go_wp2
      go_ret2
      exact ⟨rfl, bel⟩
    by_cases q4 : (L.length : Int) < 1
    · clear q1
      go_enter Try.func48, Try.ntmps48
      go_wp2
      go_ret2
      exact ⟨rfl, bel⟩
    have q5 : 40 < (L.length : Int) := by omega
    clear q1
    go_enter Try.func48, Try.ntmps48
    go_wp2
    go_ret2
    exact ⟨rfl, bel⟩
  rw [if_neg q1] at h
  have q2 : ¬ z < 1 := by omega
  have q3 : ¬ 64 < z := by omega
  have q4 : ¬ (L.length : Int) < 1 := by omega
  have q5 : ¬ 40 < (L.length : Int) := by omega
  have HH := zA h
  clear q1 h hL hcL
  go_enter Try.func48, Try.ntmps48
  go_wp2
  go_loopg [7] L.length (fun gg v7 wr => ∃ i : Nat, v7 = .int .i64 (i : Int) ∧ Aside0 (i + gg = L.length) ∧ Aside0 (∀ j, j < i → odd z (ro L j) = false) ∧ Aside0 (Below w.heap.size w wr))
  case atStart => exact ⟨0, by simp, ⟨Nat.zero_add _⟩, ⟨fun j hj => absurd hj (Nat.not_lt_zero _)⟩, ⟨bel⟩⟩
  case round =>
    clear HB
    obtain ⟨i, rfl, E1, EV, HB⟩ := hrel
    cases gk with
    | succ d =>
      have hz : (i : Int) < (L.length : Int) := by have := E1.out; omega
      obtain ⟨ad, A0, c0, e, x0, l0_, C0_⟩ := Cf.at_L1 (Kd.C_below HL.out HB.out) (i : Int) (by omega) (by omega)
      cases e
      rw [rd_ro] at x0 l0_ C0_
      rw [Int.toNat_natCast] at x0
      clear l0_ C0_
      by_cases q6 : ((ro L i).length : Int) = z
      · have q7 : (((ro L i).length : Int) != z) = false := bne_eq_false_iff_eq.2 q6
        have OD := zA (show odd z (ro L i) = false from decide_eq_false (fun k => k q6))
        clear q6
        go_wp2
        go_roundg d
        case measure => omega
        case rel => exact ⟨i + 1, by go_num, ⟨by have := E1.out; omega⟩, ⟨fun j hj => by
          by_cases e : j = i
          · subst e; exact OD.out
          · exact EV.out j (by omega)⟩, ⟨bel⟩⟩
      · have q7 : (((ro L i).length : Int) != z) = true := bne_iff_ne.2 q6
        have h := HH.out
        rw [if_pos (List.any_eq_true.2 ⟨ro L i, by unfold ro; rw [List.getD_eq_getElem?_getD, List.getElem?_eq_getElem (by omega)]; exact List.getElem_mem _, decide_eq_true q6⟩)] at h
        obtain rfl := Option.some.inj h
        clear q6 h HH
        go_wp2
        go_ret2
        exact ⟨rfl, bel⟩
    | zero =>
      have hz : ¬ (i : Int) < (L.length : Int) := by have := E1.out; omega
      have hany : ¬ L.any (odd z) = true := by
        intro ha
        obtain ⟨x, hx, hxo⟩ := List.any_eq_true.1 ha
        obtain ⟨j, hj, rfl⟩ := List.getElem_of_mem hx
        have := EV.out j (by have := E1.out; omega)
        unfold ro at this
        rw [List.getD_eq_getElem?_getD, List.getElem?_eq_getElem hj] at this
        rw [show odd z L[j] = false from this] at hxo
        cases hxo
      have h := HH.out
      rw [if_neg hany] at h
      clear HH hany EV
      obtain ⟨⟨s1, s2⟩, SE_, h⟩ := Option.bind_eq_some_iff.mp h
      have SE := zA SE_
      clear SE_
      by_cases q6 : s2 ≠ 0
      · rw [if_pos q6] at h
        obtain rfl := Option.some.inj h
        have q7 : (s2 != 0) = true := bne_iff_ne.2 q6
        clear q6 h
        go_wp2_with (go_at_call 43; (with_reducible refine (fountainref1_Seed.calls k (L.length : Int) s1 s2 _ SE.out).mono ?_); rintro e w2 ⟨rfl, hb⟩; have n0_ := zA (below_step HB.out hb); clear HB hb; have HB := n0_; clear n0_)
        go_ret2
        exact ⟨rfl, HB.out⟩
      rw [if_neg q6] at h
      obtain rfl : s2 = 0 := Decidable.not_not.1 q6
      obtain ⟨l, LL_, h⟩ := Option.bind_eq_some_iff.mp h
      obtain ⟨es, ES_, h⟩ := Option.bind_eq_some_iff.mp h
      obtain ⟨m, MA_, h⟩ := Option.bind_eq_some_iff.mp h
      obtain ⟨d, ZE_, h⟩ := Option.bind_eq_some_iff.mp h
      obtain ⟨⟨t1, t2⟩, SO_, h⟩ := Option.bind_eq_some_iff.mp h
      have LL := zA LL_
      have ES := zA ES_
      have MA := zA MA_
      have ZE := zA ZE_
      have SO := zA SO_
      have HH := zA h
      clear q6 h LL_ ES_ MA_ ZE_ SO_
      go_upto_region 13 with (first | (go_at_call 43; (with_reducible refine (fountainref1_Seed.calls k (L.length : Int) s1 0 _ SE.out).mono ?_); rintro e w2 ⟨rfl, hb⟩; have n0_ := zA (below_step HB.out hb); clear HB hb; have HB := n0_; clear n0_) | (go_at_call 45; (with_reducible refine (fountainref1_L.calls (L.length : Int) l _ LL.out).mono ?_); rintro e w' ⟨rfl, ⟨nd, rfl⟩⟩) | (go_at_call 79; (with_reducible refine (fountainref1_first.calls k (L.length : Int) es _ ES.out).mono ?_); rintro e w3 ⟨v, rfl, ho_, hb⟩; obtain ⟨Ae, ce, rfl, le_, Ce_⟩ := Kd.R_reads ho_; have n0_ := zA (below_step (show Below w.heap.size w _ from bel) hb); have LE := zA le_; have CE := zA Ce_; clear HB hb ho_ le_ Ce_; have HB := n0_; clear n0_) | (go_at_call 39; (with_reducible refine (fountainref1_Matrix.calls k (L.length : Int) s1 Ae ce es m _ CE.out LE.out MA.out).mono ?_); rintro e w4 ⟨v, rfl, ho_, hb⟩; obtain ⟨Am, cm, rfl⟩ := Kd.N_slice ho_; have CM := zA (Kd.N_reads' ho_).2.2; have LM := zA (Kd.N_reads' ho_).2.1; have n0_ := zA (below_step (show Below w.heap.size w _ from bel) hb); clear HB hb ho_; have HB := n0_; clear n0_) | (go_at_call 83; (with_reducible refine (fountainref1_zero.calls k (L.length : Int) z (fun _ => True) A1 c1 L d _ (VofC (Kd.C_below HL.out (show Below w.heap.size w _ from bel)) LC.out _) ZE.out).mono ?_); rintro e w5 ⟨v, rfl, ho_, hb⟩; obtain ⟨Ad, cd, rfl⟩ := Kd.N_slice ho_; have CD := zA (Kd.N_reads' ho_).2.2; have LD := zA (Kd.N_reads' ho_).2.1; have n0_ := zA (below_step (show Below w.heap.size w _ from bel) hb); have n1_ := zA (Kd.C_below CM.out hb); clear HB hb ho_ CM; have HB := n0_; have CM := n1_; clear n0_ n1_) | (go_at_call 28; (with_reducible refine (RsSolveTells.rsolve.calls k l z Am cm m Ad cd d (t1, t2) _ CM.out LM.out CD.out LD.out SO.out).mono ?_); rintro e w6 ⟨At, ct, rfl, lt_, Ct_, hb⟩; have LT := zA lt_; have CT := zA Ct_; have n0_ := zA (below_step (show Below w.heap.size w _ from bel) hb); clear HB hb lt_ Ct_; have HB := n0_; clear n0_))
      have h := HH.out
      clear HH
      by_cases q6 : t2 ≠ 0
      · rw [if_pos q6] at h
        obtain rfl := Option.some.inj h
        have q7 : (t2 != 0) = true := bne_iff_ne.2 q6
        clear q6 h
        go_wp2
        go_ret2
        exact ⟨rfl, HB.out⟩
      rw [if_neg q6] at h
      obtain rfl : t2 = 0 := Decidable.not_not.1 q6
      obtain rfl := Option.some.inj h
      clear q6 h
      go_wp2_with ((with_reducible refine gate_dst (N := 72) rfl ?_); refine box_event ?hg (N := 72) ?hd (cs := #[.int .i64 (L.length : Int), .int .i64 s1, .int .i64 z, .slice At t1.length ct]) (t := 77) ?hr ?_; (case hd => rfl); (case hg => rfl); (case hr => first | (go_simp; done) | (go_simp; rfl)); intro gq hg w7 hbox hb; have GQ := zA ((by rw [hg]; exact HB.out.size : w.heap.size ≤ gq)); have n0_ := zA (below_step HB.out hb); have n1_ := zA (Kd.C_below CT.out hb); have BQ := zA hbox; clear HB CT hbox hb hg; have HB := n0_; have CT := n1_; clear n0_ n1_)
      go_ret2
      exact ⟨gq, At, ct, rfl, GQ.out, BQ.out, CT.out, LT.out, HB.out⟩
end Go.Proofs.Ytbfhinfblepidaa.Br
