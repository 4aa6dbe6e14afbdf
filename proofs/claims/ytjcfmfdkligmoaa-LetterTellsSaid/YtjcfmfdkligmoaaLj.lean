/- fountainlaw22.alive and LetterLimits: they answer true, if what they call comes to what is said. Conditions: those that stand in the theorems. Written by mkll.py. -/
import Derived.Test.YtjcfmfdkligmoaaLq
import Derived.Test.YtjcfmfdkligmoaaPLetterLimitsx6
import Derived.Test.YtjcfmfdkligmoaaPLetterLimitsx9
namespace Go.Proofs.Ytjcfmfdkligmoaa.Lj
open Go.RowKit Go.Lib Go.Proofs.Ytjcfmfdkligmoaa.PRecordTells Go.Proofs.Ytjcfmfdkligmoaa.PLetterLimits Go.Proofs.Ytjcfmfdkligmoaa.Lt Go.Proofs.Ytjcfmfdkligmoaa.Lr Go.Proofs.Ytjcfmfdkligmoaa.Lq Go.Proofs.YtjcfmfdkligmoaaW.PrintWords Go.Proofs.YtjcfmfdkligmoaaW.PrintLast Go.Proofs.YtjcfmfdkligmoaaW.PrintMore
set_option linter.unusedVariables false
set_option linter.unusedSimpArgs false
set_option maxHeartbeats 8000000
set_option maxRecDepth 100000
structure Live (k : Nat) (B : List Int) (v : Nat → Int) : Prop where
  none_ : ∀ i, i < 8 → vw k [] i = some 0
  wrong : right.f 0 0 0 0 0 0 [] [] = some false
  bytes : letter_Bytes.f k 1 0 3 0 0 0 [] [] = some B
  nums : ∀ i, i < 8 → vw k B i = some (v i)
  n6 : v 6 = 0
  n7 : v 7 = 0
  right : right.f (v 0) (v 1) (v 2) (v 3) (v 4) (v 5) [] [] = some true
  rest : st B 8 = ([], false)
  two : v 2 = 3
theorem alive.calls (k : Nat) (B : List Int) (v : Nat → Int) (h : Live k B v) (w : World) : Calls Try.prog 18 #[] w fun e w' => e = .returned (.bool true) ∧ Below w.heap.size w w' := by
  have hu45 := Try.underlying45
  have HH := Aside0.mk h
  have E1 := Aside0.mk (show ans [] (fun _ => 0) false = .tuple #[.agg #[.int .i64 0, .int .i64 0, .int .i64 0, .int .i64 0, .int .i64 0, .int .i64 0, .slice none 0 0, .slice none 0 0], .int .i64 2] from by unfold ans; rw [if_pos (.inr (.inr rfl))])
  have E2 := Aside0.mk (show ans B v true = .tuple #[.agg #[.int .i64 (v 0), .int .i64 (v 1), .int .i64 (v 2), .int .i64 (v 3), .int .i64 (v 4), .int .i64 (v 5), .slice none 0 0, .slice none 0 0], .int .i64 0] from by unfold ans; rw [h.rest, if_neg (by simp)])
  have T2 := Aside0.mk h.two
  have HB := Aside0.mk (Below.refl w.heap.size w)
  clear h
  go_enter Try.func18, Try.ntmps18
  go_upto_region 2 with (first | (go_at_call 21; (refine (read0.calls k none 0 [] (fun _ => 0) false _ (Kd.C_nil _ _) (Nat.le_refl _) HH.out.none_ rfl rfl HH.out.wrong).mono ?_); rintro e w1 ⟨he_, hb_⟩; rw [E1.out] at he_; subst he_; replace HB := Aside0.mk (belt hb_); clear hb_) | ((with_reducible refine gate_dst (N := 1) rfl ?_); refine box_event ?hg (N := 1) ?hd (cs := #[.int .i64 0, .int .i64 0, .int .i64 0, .int .i64 0, .int .i64 0, .int .i64 0, .slice none 0 0, .slice none 0 0]) (t := 45) ?hr ?_; (case hd => rfl); (case hg => rfl); (case hr => first | (go_simp; done) | (go_simp; rfl)); intro g1 hg w2 hbox hb; have G1 := Aside0.mk (by rw [hg]; exact bels : w.heap.size ≤ g1); replace HB := Aside0.mk (belt hb); obtain ⟨hz0, hz1, hz2, hz3, hz4, hz5, hz6, hz7⟩ := box8 hbox; obtain ⟨hf0, hf1, hf2, hf3, hf4, hf5, hf6, hf7⟩ := frz8 hbox; clear hbox hb hg))
  have HB_ := Aside0.mk (show Below w.heap.size w (((((((((w2.setCell ⟨g1, 0, none⟩ (.int .i64 0)).setCell ⟨g1, 1, none⟩ (.int .i64 0)).setCell ⟨g1, 2, none⟩ (.int .i64 0)).setCell ⟨g1, 3, none⟩ (.int .i64 0)).setCell ⟨g1, 4, none⟩ (.int .i64 0)).setCell ⟨g1, 5, none⟩ (.int .i64 0)).setCell ⟨g1, 6, none⟩ (.slice none 0 0)).setCell ⟨g1, 7, none⟩ (.slice none 0 0))) from bel8 HB.out G1.out)
  clear HB hz0 hz1 hz2 hz3 hz4 hz5 hz6 hz7 hf0 hf1 hf2 hf3 hf4 hf5 hf6 hf7
  generalize ((((((((w2.setCell ⟨g1, 0, none⟩ (.int .i64 0)).setCell ⟨g1, 1, none⟩ (.int .i64 0)).setCell ⟨g1, 2, none⟩ (.int .i64 0)).setCell ⟨g1, 3, none⟩ (.int .i64 0)).setCell ⟨g1, 4, none⟩ (.int .i64 0)).setCell ⟨g1, 5, none⟩ (.int .i64 0)).setCell ⟨g1, 6, none⟩ (.slice none 0 0)).setCell ⟨g1, 7, none⟩ (.slice none 0 0)) = w3 at HB_ ⊢
  have HB := HB_
  clear HB_
  go_upto_region 3 with (first | (go_at_call 20; (refine (letter_Bytes.calls k 1 0 3 0 0 0 none 0 [] none 0 [] B _ (Kd.C_nil _ _) (Nat.le_refl _) (Kd.C_nil _ _) (Nat.le_refl _) HH.out.bytes).mono ?_); rintro e w4 ⟨vb, rfl, ho_, hb_⟩; obtain ⟨Ab, cb, rfl, lb_, Cb_⟩ := Kd.R_reads ho_; have CB := Aside0.mk Cb_; have LB := Aside0.mk lb_; replace HB := Aside0.mk (belt hb_); clear ho_ hb_ lb_ Cb_) | (go_at_call 21; (refine (read0.calls k Ab cb B v true _ CB.out LB.out HH.out.nums HH.out.n6 HH.out.n7 HH.out.right).mono ?_); rintro e w5 ⟨he_, hb_⟩; rw [E2.out] at he_; subst he_; replace HB := Aside0.mk (belt hb_); clear hb_) | ((with_reducible refine gate_dst (N := 3) rfl ?_); refine box_event ?hg (N := 3) ?hd (cs := #[.int .i64 0, .int .i64 0, .int .i64 0, .int .i64 0, .int .i64 0, .int .i64 0, .slice none 0 0, .slice none 0 0]) (t := 45) ?hr ?_; (case hd => rfl); (case hg => rfl); (case hr => first | (go_simp; done) | (go_simp; rfl)); intro g3 hg w6 hbox hb; have G3 := Aside0.mk (by rw [hg]; exact bels : w.heap.size ≤ g3); replace HB := Aside0.mk (belt hb); have BX := Aside0.mk hbox; obtain ⟨hz0, hz1, hz2, hz3, hz4, hz5, hz6, hz7⟩ := box8 hbox; obtain ⟨hf0, hf1, hf2, hf3, hf4, hf5, hf6, hf7⟩ := frz8 hbox; clear hbox hb hg))
  have HB_ := Aside0.mk (show Below w.heap.size w (((((((((w6.setCell ⟨g3, 0, none⟩ (.int .i64 (v 0))).setCell ⟨g3, 1, none⟩ (.int .i64 (v 1))).setCell ⟨g3, 2, none⟩ (.int .i64 (v 2))).setCell ⟨g3, 3, none⟩ (.int .i64 (v 3))).setCell ⟨g3, 4, none⟩ (.int .i64 (v 4))).setCell ⟨g3, 5, none⟩ (.int .i64 (v 5))).setCell ⟨g3, 6, none⟩ (.slice none 0 0)).setCell ⟨g3, 7, none⟩ (.slice none 0 0))) from bel8 HB.out G3.out)
  have BX_ := Aside0.mk (show (((((((((w6.setCell ⟨g3, 0, none⟩ (.int .i64 (v 0))).setCell ⟨g3, 1, none⟩ (.int .i64 (v 1))).setCell ⟨g3, 2, none⟩ (.int .i64 (v 2))).setCell ⟨g3, 3, none⟩ (.int .i64 (v 3))).setCell ⟨g3, 4, none⟩ (.int .i64 (v 4))).setCell ⟨g3, 5, none⟩ (.int .i64 (v 5))).setCell ⟨g3, 6, none⟩ (.slice none 0 0)).setCell ⟨g3, 7, none⟩ (.slice none 0 0))).heap[g3]? = some (.cells #[.int .i64 (v 0), .int .i64 (v 1), .int .i64 (v 2), .int .i64 (v 3), .int .i64 (v 4), .int .i64 (v 5), .slice none 0 0, .slice none 0 0] 45 (0, 0)) from set8 BX.out)
  clear HB BX hz0 hz1 hz2 hz3 hz4 hz5 hz6 hz7 hf0 hf1 hf2 hf3 hf4 hf5 hf6 hf7
  generalize ((((((((w6.setCell ⟨g3, 0, none⟩ (.int .i64 (v 0))).setCell ⟨g3, 1, none⟩ (.int .i64 (v 1))).setCell ⟨g3, 2, none⟩ (.int .i64 (v 2))).setCell ⟨g3, 3, none⟩ (.int .i64 (v 3))).setCell ⟨g3, 4, none⟩ (.int .i64 (v 4))).setCell ⟨g3, 5, none⟩ (.int .i64 (v 5))).setCell ⟨g3, 6, none⟩ (.slice none 0 0)).setCell ⟨g3, 7, none⟩ (.slice none 0 0)) = w7 at HB_ BX_ ⊢
  have HB := HB_
  clear HB_
  have z2 : w7.cell? ⟨g3, 2, none⟩ = some (.int .i64 3) := (blk_cell BX_.out 2).trans (by show some (Value.int .i64 (v 2)) = _; rw [T2.out])
  go_wp2_with (go_at_call 25; (try (refine gate_guard (by rfl) ?_; dsimp only)); (with_reducible refine (zl_num.calls _ _ _ rfl).mono ?_); rintro e w' ⟨rfl, ⟨nd, rfl⟩⟩)
  go_ret
  exact ⟨rfl, bel⟩
end Go.Proofs.Ytjcfmfdkligmoaa.Lj
