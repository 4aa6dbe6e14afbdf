/- fountainlaw22.alive and LetterLimits: they answer true, if what they call comes to what is said. Conditions: those that stand in the theorems. Written by mkll.py. -/
import Derived.Test.YtjcfmfdkligmoaaLq
import Derived.Test.YtjcfmfdkligmoaaPLetterLimitsx6
import Derived.Test.YtjcfmfdkligmoaaPLetterLimitsx9
namespace Go.Proofs.Ytjcfmfdkligmoaa.Ll
open Go.RowKit Go.Lib Go.Proofs.Ytjcfmfdkligmoaa.PRecordLimits Go.Proofs.Ytjcfmfdkligmoaa.PLetterLimits Go.Proofs.Ytjcfmfdkligmoaa.Lt Go.Proofs.Ytjcfmfdkligmoaa.Lr Go.Proofs.Ytjcfmfdkligmoaa.Lq Go.Proofs.YtjcfmfdkligmoaaW.PrintWords Go.Proofs.YtjcfmfdkligmoaaW.PrintLast Go.Proofs.YtjcfmfdkligmoaaW.PrintMore
set_option linter.unusedVariables false
set_option linter.unusedSimpArgs false
set_option maxHeartbeats 8000000
set_option maxRecDepth 100000
structure Live (k : Nat) (B : List Int) (v : Nat → Int) : Prop where
  none_ : ∀ i, i < 8 → vw k [] i = some 0
  wrong : right.f 0 0 0 0 0 0 [] [] = some false
  bytes : letter_Bytes.f k 1 0 3 0 0 0 [] [] = some B
  nums : ∀ i, i < 8 → vw k B i = some (v i)
  n6 : v 6 = 0
  n7 : v 7 = 0
  right : right.f (v 0) (v 1) (v 2) (v 3) (v 4) (v 5) [] [] = some true
  rest : st B 8 = ([], false)
  two : v 2 = 3
theorem alive.calls (k : Nat) (B : List Int) (v : Nat → Int) (h : Live k B v) (w : World) : Calls Try.prog 18 #[] w fun e w' => e = .returned (.bool true) ∧ Below w.heap.size w w' := by
  have hu45 := Try.underlying45
  have HH := Aside0.mk h
  have E1 := Aside0.mk (show ans [] (fun _ => 0) false = .tuple #[.agg #[.int .i64 0, .int .i64 0, .int .i64 0, .int .i64 0, .int .i64 0, .int .i64 0, .slice none 0 0, .slice none 0 0], .int .i64 2] from by unfold ans; rw [if_pos (.inr (.inr rfl))])
  have E2 := Aside0.mk (show ans B v true = .tuple #[.agg #[.int .i64 (v 0), .int .i64 (v 1), .int .i64 (v 2), .int .i64 (v 3), .int .i64 (v 4), .int .i64 (v 5), .slice none 0 0, .slice none 0 0], .int .i64 0] from by unfold ans; rw [h.rest, if_neg (by simp)])
  have T2 := Aside0.mk h.two
  have HB := Aside0.mk (Below.refl w.heap.size w)
  clear h
  go_enter Try.func18, Try.ntmps18
  go_upto_region 2 with (first | (go_at_call 21; (refine (read0.calls k none 0 [] (fun _ => 0) false _ (Kd.C_nil _ _) (Nat.le_refl _) HH.out.none_ rfl rfl HH.out.wrong).mono ?_); rintro e w1 ⟨he_, hb_⟩; rw [E1.out] at he_; subst he_; replace HB := Aside0.mk (belt hb_); clear hb_) | ((with_reducible refine gate_dst (N := 1) rfl ?_); refine box_event ?hg (N := 1) ?hd (cs := #[.int .i64 0, .int .i64 0, .int .i64 0, .int .i64 0, .int .i64 0, .int .i64 0, .slice none 0 0, .slice none 0 0]) (t := 45) ?hr ?_; (case hd => rfl); (case hg => rfl); (case hr => first | (go_simp; done) | (go_simp; rfl)); intro g1 hg w2 hbox hb; have G1 := Aside0.mk (by rw [hg]; exact bels : w.heap.size ≤ g1); replace HB := Aside0.mk (belt hb); obtain ⟨hz0, hz1, hz2, hz3, hz4, hz5, hz6, hz7⟩ := box8 hbox; obtain ⟨hf0, hf1, hf2, hf3, hf4, hf5, hf6, hf7⟩ := frz8 hbox; clear hbox hb hg))
  have HB_ := Aside0.mk (show Below w.heap.size w (((((((((w2.setCell ⟨g1, 0, none⟩ (.int .i64 0)).setCell ⟨g1, 1, none⟩ (.int .i64 0)).setCell ⟨g1, 2, none⟩ (.int .i64 0)).setCell ⟨g1, 3, none⟩ (.int .i64 0)).setCell ⟨g1, 4, none⟩ (.int .i64 0)).setCell ⟨g1, 5, none⟩ (.int .i64 0)).setCell ⟨g1, 6, none⟩ (.slice none 0 0)).setCell ⟨g1, 7, none⟩ (.slice none 0 0))) from bel8 HB.out G1.out)
  clear HB hz0 hz1 hz2 hz3 hz4 hz5 hz6 hz7 hf0 hf1 hf2 hf3 hf4 hf5 hf6 hf7
  generalize ((((((((w2.setCell ⟨g1, 0, none⟩ (.int .i64 0)).setCell ⟨g1, 1, none⟩ (.int .i64 0)).setCell ⟨g1, 2, none⟩ (.int .i64 0)).setCell ⟨g1, 3, none⟩ (.int .i64 0)).setCell ⟨g1, 4, none⟩ (.int .i64 0)).setCell ⟨g1, 5, none⟩ (.int .i64 0)).setCell ⟨g1, 6, none⟩ (.slice none 0 0)).setCell ⟨g1, 7, none⟩ (.slice none 0 0)) = w3 at HB_ ⊢
  have HB := HB_
  clear HB_
  go_upto_region 3 with (first | (go_at_call 20; (refine (letter_Bytes.calls k 1 0 3 0 0 0 none 0 [] none 0 [] B _ (Kd.C_nil _ _) (Nat.le_refl _) (Kd.C_nil _ _) (Nat.le_refl _) HH.out.bytes).mono ?_); rintro e w4 ⟨vb, rfl, ho_, hb_⟩; obtain ⟨Ab, cb, rfl, lb_, Cb_⟩ := Kd.R_reads ho_; have CB := Aside0.mk Cb_; have LB := Aside0.mk lb_; replace HB := Aside0.mk (belt hb_); clear ho_ hb_ lb_ Cb_) | (go_at_call 21; (refine (read0.calls k Ab cb B v true _ CB.out LB.out HH.out.nums HH.out.n6 HH.out.n7 HH.out.right).mono ?_); rintro e w5 ⟨he_, hb_⟩; rw [E2.out] at he_; subst he_; replace HB := Aside0.mk (belt hb_); clear hb_) | ((with_reducible refine gate_dst (N := 3) rfl ?_); refine box_event ?hg (N := 3) ?hd (cs := #[.int .i64 0, .int .i64 0, .int .i64 0, .int .i64 0, .int .i64 0, .int .i64 0, .slice none 0 0, .slice none 0 0]) (t := 45) ?hr ?_; (case hd => rfl); (case hg => rfl); (case hr => first | (go_simp; done) | (go_simp; rfl)); intro g3 hg w6 hbox hb; have G3 := Aside0.mk (by rw [hg]; exact bels : w.heap.size ≤ g3); replace HB := Aside0.mk (belt hb); have BX := Aside0.mk hbox; obtain ⟨hz0, hz1, hz2, hz3, hz4, hz5, hz6, hz7⟩ := box8 hbox; obtain ⟨hf0, hf1, hf2, hf3, hf4, hf5, hf6, hf7⟩ := frz8 hbox; clear hbox hb hg))
  have HB_ := Aside0.mk (show Below w.heap.size w (((((((((w6.setCell ⟨g3, 0, none⟩ (.int .i64 (v 0))).setCell ⟨g3, 1, none⟩ (.int .i64 (v 1))).setCell ⟨g3, 2, none⟩ (.int .i64 (v 2))).setCell ⟨g3, 3, none⟩ (.int .i64 (v 3))).setCell ⟨g3, 4, none⟩ (.int .i64 (v 4))).setCell ⟨g3, 5, none⟩ (.int .i64 (v 5))).setCell ⟨g3, 6, none⟩ (.slice none 0 0)).setCell ⟨g3, 7, none⟩ (.slice none 0 0))) from bel8 HB.out G3.out)
  have BX_ := Aside0.mk (show (((((((((w6.setCell ⟨g3, 0, none⟩ (.int .i64 (v 0))).setCell ⟨g3, 1, none⟩ (.int .i64 (v 1))).setCell ⟨g3, 2, none⟩ (.int .i64 (v 2))).setCell ⟨g3, 3, none⟩ (.int .i64 (v 3))).setCell ⟨g3, 4, none⟩ (.int .i64 (v 4))).setCell ⟨g3, 5, none⟩ (.int .i64 (v 5))).setCell ⟨g3, 6, none⟩ (.slice none 0 0)).setCell ⟨g3, 7, none⟩ (.slice none 0 0))).heap[g3]? = some (.cells #[.int .i64 (v 0), .int .i64 (v 1), .int .i64 (v 2), .int .i64 (v 3), .int .i64 (v 4), .int .i64 (v 5), .slice none 0 0, .slice none 0 0] 45 (0, 0)) from set8 BX.out)
  clear HB BX hz0 hz1 hz2 hz3 hz4 hz5 hz6 hz7 hf0 hf1 hf2 hf3 hf4 hf5 hf6 hf7
  generalize ((((((((w6.setCell ⟨g3, 0, none⟩ (.int .i64 (v 0))).setCell ⟨g3, 1, none⟩ (.int .i64 (v 1))).setCell ⟨g3, 2, none⟩ (.int .i64 (v 2))).setCell ⟨g3, 3, none⟩ (.int .i64 (v 3))).setCell ⟨g3, 4, none⟩ (.int .i64 (v 4))).setCell ⟨g3, 5, none⟩ (.int .i64 (v 5))).setCell ⟨g3, 6, none⟩ (.slice none 0 0)).setCell ⟨g3, 7, none⟩ (.slice none 0 0)) = w7 at HB_ BX_ ⊢
  have HB := HB_
  clear HB_
  have z2 : w7.cell? ⟨g3, 2, none⟩ = some (.int .i64 3) := (blk_cell BX_.out 2).trans (by show some (Value.int .i64 (v 2)) = _; rw [T2.out])
  go_wp2_with (go_at_call 25; (try (refine gate_guard (by rfl) ?_; dsimp only)); (with_reducible refine (fountainlaw22_num.calls _ _ _ rfl).mono ?_); rintro e w' ⟨rfl, ⟨nd, rfl⟩⟩)
  go_ret
  exact ⟨rfl, bel⟩
def rec1 : S28 := ⟨⟨0, 1⟩, ⟨0, 0, 0⟩, 0, 0, true, 0, []⟩
theorem info28 : (Try.prog.info? 28).map (fun i => (i.zero, i.size, i.bytes)) = some (some (.agg #[(.int .i64 0), (.int .i64 0), (.int .i64 0), (.int .i64 0), (.int .i64 0), (.int .i64 0), (.int .i64 0), (.bool false), (.int .i64 0), (.slice none 0 0)]), 10, 96) := by kernel_rfl
def bytesOf (k : Nat) : Nat → Bool → Option (List Int)
  | 0, false => letter_Bytes.f k 3 0 0 0 0 0 [] []
  | 0, true => letter_Bytes.f k 4 0 0 0 0 0 [] []
  | 1, false => letter_Bytes.f k 2 2147483647 0 0 0 0 [] []
  | 1, true => letter_Bytes.f k 2 2147483648 0 0 0 0 [] []
  | 2, false => letter_Bytes.f k 2 0 0 0 0 0 [] []
  | 2, true => letter_Bytes.f k 2 0 (-1) 0 0 0 [] []
  | 3, false => letter_Bytes.f k 2 0 0 2147483647 0 0 [] []
  | 3, true => letter_Bytes.f k 2 0 0 2147483648 0 0 [] []
  | 4, false => letter_Bytes.f k 2 0 0 0 0 0 (List.replicate 255 (0 : Int)) []
  | 4, true => letter_Bytes.f k 2 0 0 0 0 0 (List.replicate 256 (0 : Int)) []
  | 5, false => letter_Bytes.f k 2 0 0 0 0 0 [2147483647] []
  | 5, true => letter_Bytes.f k 2 0 0 0 0 0 [2147483648] []
  | 6, false => letter_Bytes.f k 2 0 0 0 0 0 [] (List.replicate 255 rec1)
  | 6, true => letter_Bytes.f k 2 0 0 0 0 0 [] (List.replicate 256 rec1)
  | _, _ => none
def Hyp (k : Nat) (a0 : Int) (a1 : Bool) : Prop := (∃ B v, Live k B v) ∧ (a0 < 0 ∨ 6 < a0 ∨ ∃ i : Nat, i < 7 ∧ a0 = (i : Int) ∧ ∃ X, bytesOf k i a1 = some X ∧ decide (0 < X.length) = !a1)
noncomputable def fountainlaw22_LetterLimits.f (k : Nat) (a0 : Int) (a1 : Bool) : Option Bool := @ite _ (Hyp k a0 a1) (Classical.propDecidable _) (some true) none
theorem case00 (k : Nat) (LB_ : List Int) (lv : Nat → Int) (X : List Int) (w : World) (hlv : Live k LB_ lv) (hx : letter_Bytes.f k 3 0 0 0 0 0 [] [] = some X) (hd : decide (0 < X.length) = !false) :
    Calls Try.prog 8 #[.int .i64 0, .bool false] w fun e w' => e = .returned (.bool true) ∧ Below w.heap.size w w' := by
  have hu45 := Try.underlying45
  have LV := Aside0.mk hlv
  have HX := Aside0.mk hx
  have HB := Aside0.mk (Below.refl w.heap.size w)
  have hp1 : 0 < X.length := of_decide_eq_true hd
  have hp2 : 0 < (X.length : Int) := by omega
  clear hx hlv hd
  go_enter Try.func8, Try.ntmps8
  go_upto_region 8 with (first | (go_at_call 18; (with_reducible refine (alive.calls k LB_ lv LV.out _).mono ?_); rintro e w1 ⟨rfl, hb_⟩; replace HB := Aside0.mk (belt hb_); clear hb_) | ((with_reducible refine gate_dst (N := 7) rfl ?_); refine box_event ?hg (N := 7) ?hd (cs := #[.int .i64 0, .int .i64 0, .int .i64 0, .int .i64 0, .int .i64 0, .int .i64 0, .slice none 0 0, .slice none 0 0]) (t := 45) ?hr ?_; (case hd => rfl); (case hg => rfl); (case hr => first | (go_simp; done) | (go_simp; rfl)); intro gb hg w2 hbox hb; have GB := Aside0.mk (by rw [hg]; exact bels : w.heap.size ≤ gb); replace HB := Aside0.mk (belt hb); have BX := Aside0.mk hbox; obtain ⟨hz0, hz1, hz2, hz3, hz4, hz5, hz6, hz7⟩ := box8 hbox; obtain ⟨hf0, hf1, hf2, hf3, hf4, hf5, hf6, hf7⟩ := frz8 hbox; clear hbox hb hg))
  have HB_ := Aside0.mk (show Below w.heap.size w (((((((((w2.setCell ⟨gb, 0, none⟩ (.int .i64 2)).setCell ⟨gb, 1, none⟩ (.int .i64 0)).setCell ⟨gb, 2, none⟩ (.int .i64 0)).setCell ⟨gb, 3, none⟩ (.int .i64 0)).setCell ⟨gb, 4, none⟩ (.int .i64 0)).setCell ⟨gb, 5, none⟩ (.int .i64 0)).setCell ⟨gb, 6, none⟩ (.slice none 0 0)).setCell ⟨gb, 7, none⟩ (.slice none 0 0))) from bel8 HB.out GB.out)
  have BX_ := Aside0.mk (show (((((((((w2.setCell ⟨gb, 0, none⟩ (.int .i64 2)).setCell ⟨gb, 1, none⟩ (.int .i64 0)).setCell ⟨gb, 2, none⟩ (.int .i64 0)).setCell ⟨gb, 3, none⟩ (.int .i64 0)).setCell ⟨gb, 4, none⟩ (.int .i64 0)).setCell ⟨gb, 5, none⟩ (.int .i64 0)).setCell ⟨gb, 6, none⟩ (.slice none 0 0)).setCell ⟨gb, 7, none⟩ (.slice none 0 0))).heap[gb]? = some (.cells #[.int .i64 2, .int .i64 0, .int .i64 0, .int .i64 0, .int .i64 0, .int .i64 0, .slice none 0 0, .slice none 0 0] 45 (0, 0)) from set8 BX.out)
  clear hz0 hz1 hz2 hz3 hz4 hz5 hz6 hz7 hf0 hf1 hf2 hf3 hf4 hf5 hf6 hf7
  clear HB BX
  generalize ((((((((w2.setCell ⟨gb, 0, none⟩ (.int .i64 2)).setCell ⟨gb, 1, none⟩ (.int .i64 0)).setCell ⟨gb, 2, none⟩ (.int .i64 0)).setCell ⟨gb, 3, none⟩ (.int .i64 0)).setCell ⟨gb, 4, none⟩ (.int .i64 0)).setCell ⟨gb, 5, none⟩ (.int .i64 0)).setCell ⟨gb, 6, none⟩ (.slice none 0 0)).setCell ⟨gb, 7, none⟩ (.slice none 0 0)) = w3 at HB_ BX_ ⊢
  have HB := HB_
  have BX := BX_
  clear HB_ BX_
  obtain ⟨hz0, hz1, hz2, hz3, hz4, hz5, hz6, hz7⟩ := box8 BX.out; obtain ⟨hf0, hf1, hf2, hf3, hf4, hf5, hf6, hf7⟩ := frz8 BX.out
  go_upto_region 25 with (go_at_call 18; (with_reducible refine (alive.calls k LB_ lv LV.out _).mono ?_); rintro e w1 ⟨rfl, hb_⟩; replace HB := Aside0.mk (belt hb_); clear hb_)
  have HB_ := Aside0.mk (show Below w.heap.size w (w3.setCell ⟨gb, 0, none⟩ (.int .i64 3)) from below_set HB.out GB.out)
  have BX_ := Aside0.mk (show (w3.setCell ⟨gb, 0, none⟩ (.int .i64 3)).heap[gb]? = some (.cells #[.int .i64 3, .int .i64 0, .int .i64 0, .int .i64 0, .int .i64 0, .int .i64 0, .slice none 0 0, .slice none 0 0] 45 (0, 0)) from blk_put BX.out 0 _ rfl)
  clear hz0 hz1 hz2 hz3 hz4 hz5 hz6 hz7 hf0 hf1 hf2 hf3 hf4 hf5 hf6 hf7
  clear HB BX
  generalize (w3.setCell ⟨gb, 0, none⟩ (.int .i64 3)) = w5 at HB_ BX_ ⊢
  have HB := HB_
  have BX := BX_
  clear HB_ BX_
  obtain ⟨hz0, hz1, hz2, hz3, hz4, hz5, hz6, hz7⟩ := box8 BX.out; obtain ⟨hf0, hf1, hf2, hf3, hf4, hf5, hf6, hf7⟩ := frz8 BX.out
  go_wp2_with (go_at_call 20; (refine (letter_Bytes.calls k 3 0 0 0 0 0 none 0 [] none 0 [] X _ (Kd.C_nil _ _) (Nat.le_refl _) (Kd.C_nil _ _) (Nat.le_refl _) HX.out).mono ?_); rintro e w6 ⟨vb, rfl, ho_, hb_⟩; obtain ⟨Ab, cb, rfl, _, _⟩ := Kd.R_reads ho_; replace HB := Aside0.mk (belt hb_); clear ho_ hb_)
  go_ret
  exact ⟨by first | rfl | simp [*], bel⟩
theorem case01 (k : Nat) (LB_ : List Int) (lv : Nat → Int) (X : List Int) (w : World) (hlv : Live k LB_ lv) (hx : letter_Bytes.f k 4 0 0 0 0 0 [] [] = some X) (hd : decide (0 < X.length) = !true) :
    Calls Try.prog 8 #[.int .i64 0, .bool true] w fun e w' => e = .returned (.bool true) ∧ Below w.heap.size w w' := by
  have hu45 := Try.underlying45
  have LV := Aside0.mk hlv
  have HX := Aside0.mk hx
  have HB := Aside0.mk (Below.refl w.heap.size w)
  obtain rfl : X = [] := by cases X with
    | nil => rfl
    | cons _ _ => simp at hd
  clear hx hlv hd
  go_enter Try.func8, Try.ntmps8
  go_upto_region 8 with (first | (go_at_call 18; (with_reducible refine (alive.calls k LB_ lv LV.out _).mono ?_); rintro e w1 ⟨rfl, hb_⟩; replace HB := Aside0.mk (belt hb_); clear hb_) | ((with_reducible refine gate_dst (N := 7) rfl ?_); refine box_event ?hg (N := 7) ?hd (cs := #[.int .i64 0, .int .i64 0, .int .i64 0, .int .i64 0, .int .i64 0, .int .i64 0, .slice none 0 0, .slice none 0 0]) (t := 45) ?hr ?_; (case hd => rfl); (case hg => rfl); (case hr => first | (go_simp; done) | (go_simp; rfl)); intro gb hg w2 hbox hb; have GB := Aside0.mk (by rw [hg]; exact bels : w.heap.size ≤ gb); replace HB := Aside0.mk (belt hb); have BX := Aside0.mk hbox; obtain ⟨hz0, hz1, hz2, hz3, hz4, hz5, hz6, hz7⟩ := box8 hbox; obtain ⟨hf0, hf1, hf2, hf3, hf4, hf5, hf6, hf7⟩ := frz8 hbox; clear hbox hb hg))
  have HB_ := Aside0.mk (show Below w.heap.size w (((((((((w2.setCell ⟨gb, 0, none⟩ (.int .i64 2)).setCell ⟨gb, 1, none⟩ (.int .i64 0)).setCell ⟨gb, 2, none⟩ (.int .i64 0)).setCell ⟨gb, 3, none⟩ (.int .i64 0)).setCell ⟨gb, 4, none⟩ (.int .i64 0)).setCell ⟨gb, 5, none⟩ (.int .i64 0)).setCell ⟨gb, 6, none⟩ (.slice none 0 0)).setCell ⟨gb, 7, none⟩ (.slice none 0 0))) from bel8 HB.out GB.out)
  have BX_ := Aside0.mk (show (((((((((w2.setCell ⟨gb, 0, none⟩ (.int .i64 2)).setCell ⟨gb, 1, none⟩ (.int .i64 0)).setCell ⟨gb, 2, none⟩ (.int .i64 0)).setCell ⟨gb, 3, none⟩ (.int .i64 0)).setCell ⟨gb, 4, none⟩ (.int .i64 0)).setCell ⟨gb, 5, none⟩ (.int .i64 0)).setCell ⟨gb, 6, none⟩ (.slice none 0 0)).setCell ⟨gb, 7, none⟩ (.slice none 0 0))).heap[gb]? = some (.cells #[.int .i64 2, .int .i64 0, .int .i64 0, .int .i64 0, .int .i64 0, .int .i64 0, .slice none 0 0, .slice none 0 0] 45 (0, 0)) from set8 BX.out)
  clear hz0 hz1 hz2 hz3 hz4 hz5 hz6 hz7 hf0 hf1 hf2 hf3 hf4 hf5 hf6 hf7
  clear HB BX
  generalize ((((((((w2.setCell ⟨gb, 0, none⟩ (.int .i64 2)).setCell ⟨gb, 1, none⟩ (.int .i64 0)).setCell ⟨gb, 2, none⟩ (.int .i64 0)).setCell ⟨gb, 3, none⟩ (.int .i64 0)).setCell ⟨gb, 4, none⟩ (.int .i64 0)).setCell ⟨gb, 5, none⟩ (.int .i64 0)).setCell ⟨gb, 6, none⟩ (.slice none 0 0)).setCell ⟨gb, 7, none⟩ (.slice none 0 0)) = w3 at HB_ BX_ ⊢
  have HB := HB_
  have BX := BX_
  clear HB_ BX_
  obtain ⟨hz0, hz1, hz2, hz3, hz4, hz5, hz6, hz7⟩ := box8 BX.out; obtain ⟨hf0, hf1, hf2, hf3, hf4, hf5, hf6, hf7⟩ := frz8 BX.out
  go_upto_region 25 with (go_at_call 18; (with_reducible refine (alive.calls k LB_ lv LV.out _).mono ?_); rintro e w1 ⟨rfl, hb_⟩; replace HB := Aside0.mk (belt hb_); clear hb_)
  have HB_ := Aside0.mk (show Below w.heap.size w (w3.setCell ⟨gb, 0, none⟩ (.int .i64 4)) from below_set HB.out GB.out)
  have BX_ := Aside0.mk (show (w3.setCell ⟨gb, 0, none⟩ (.int .i64 4)).heap[gb]? = some (.cells #[.int .i64 4, .int .i64 0, .int .i64 0, .int .i64 0, .int .i64 0, .int .i64 0, .slice none 0 0, .slice none 0 0] 45 (0, 0)) from blk_put BX.out 0 _ rfl)
  clear hz0 hz1 hz2 hz3 hz4 hz5 hz6 hz7 hf0 hf1 hf2 hf3 hf4 hf5 hf6 hf7
  clear HB BX
  generalize (w3.setCell ⟨gb, 0, none⟩ (.int .i64 4)) = w5 at HB_ BX_ ⊢
  have HB := HB_
  have BX := BX_
  clear HB_ BX_
  obtain ⟨hz0, hz1, hz2, hz3, hz4, hz5, hz6, hz7⟩ := box8 BX.out; obtain ⟨hf0, hf1, hf2, hf3, hf4, hf5, hf6, hf7⟩ := frz8 BX.out
  go_wp2_with (go_at_call 20; (refine (letter_Bytes.calls k 4 0 0 0 0 0 none 0 [] none 0 [] [] _ (Kd.C_nil _ _) (Nat.le_refl _) (Kd.C_nil _ _) (Nat.le_refl _) HX.out).mono ?_); rintro e w6 ⟨vb, rfl, ho_, hb_⟩; obtain ⟨Ab, cb, rfl, _, _⟩ := Kd.R_reads ho_; replace HB := Aside0.mk (belt hb_); clear ho_ hb_)
  go_ret
  exact ⟨by first | rfl | simp [*], bel⟩
theorem case10 (k : Nat) (LB_ : List Int) (lv : Nat → Int) (X : List Int) (w : World) (hlv : Live k LB_ lv) (hx : letter_Bytes.f k 2 2147483647 0 0 0 0 [] [] = some X) (hd : decide (0 < X.length) = !false) :
    Calls Try.prog 8 #[.int .i64 1, .bool false] w fun e w' => e = .returned (.bool true) ∧ Below w.heap.size w w' := by
  have hu45 := Try.underlying45
  have LV := Aside0.mk hlv
  have HX := Aside0.mk hx
  have HB := Aside0.mk (Below.refl w.heap.size w)
  have hp1 : 0 < X.length := of_decide_eq_true hd
  have hp2 : 0 < (X.length : Int) := by omega
  clear hx hlv hd
  go_enter Try.func8, Try.ntmps8
  go_upto_region 8 with (first | (go_at_call 18; (with_reducible refine (alive.calls k LB_ lv LV.out _).mono ?_); rintro e w1 ⟨rfl, hb_⟩; replace HB := Aside0.mk (belt hb_); clear hb_) | ((with_reducible refine gate_dst (N := 7) rfl ?_); refine box_event ?hg (N := 7) ?hd (cs := #[.int .i64 0, .int .i64 0, .int .i64 0, .int .i64 0, .int .i64 0, .int .i64 0, .slice none 0 0, .slice none 0 0]) (t := 45) ?hr ?_; (case hd => rfl); (case hg => rfl); (case hr => first | (go_simp; done) | (go_simp; rfl)); intro gb hg w2 hbox hb; have GB := Aside0.mk (by rw [hg]; exact bels : w.heap.size ≤ gb); replace HB := Aside0.mk (belt hb); have BX := Aside0.mk hbox; obtain ⟨hz0, hz1, hz2, hz3, hz4, hz5, hz6, hz7⟩ := box8 hbox; obtain ⟨hf0, hf1, hf2, hf3, hf4, hf5, hf6, hf7⟩ := frz8 hbox; clear hbox hb hg))
  have HB_ := Aside0.mk (show Below w.heap.size w (((((((((w2.setCell ⟨gb, 0, none⟩ (.int .i64 2)).setCell ⟨gb, 1, none⟩ (.int .i64 0)).setCell ⟨gb, 2, none⟩ (.int .i64 0)).setCell ⟨gb, 3, none⟩ (.int .i64 0)).setCell ⟨gb, 4, none⟩ (.int .i64 0)).setCell ⟨gb, 5, none⟩ (.int .i64 0)).setCell ⟨gb, 6, none⟩ (.slice none 0 0)).setCell ⟨gb, 7, none⟩ (.slice none 0 0))) from bel8 HB.out GB.out)
  have BX_ := Aside0.mk (show (((((((((w2.setCell ⟨gb, 0, none⟩ (.int .i64 2)).setCell ⟨gb, 1, none⟩ (.int .i64 0)).setCell ⟨gb, 2, none⟩ (.int .i64 0)).setCell ⟨gb, 3, none⟩ (.int .i64 0)).setCell ⟨gb, 4, none⟩ (.int .i64 0)).setCell ⟨gb, 5, none⟩ (.int .i64 0)).setCell ⟨gb, 6, none⟩ (.slice none 0 0)).setCell ⟨gb, 7, none⟩ (.slice none 0 0))).heap[gb]? = some (.cells #[.int .i64 2, .int .i64 0, .int .i64 0, .int .i64 0, .int .i64 0, .int .i64 0, .slice none 0 0, .slice none 0 0] 45 (0, 0)) from set8 BX.out)
  clear hz0 hz1 hz2 hz3 hz4 hz5 hz6 hz7 hf0 hf1 hf2 hf3 hf4 hf5 hf6 hf7
  clear HB BX
  generalize ((((((((w2.setCell ⟨gb, 0, none⟩ (.int .i64 2)).setCell ⟨gb, 1, none⟩ (.int .i64 0)).setCell ⟨gb, 2, none⟩ (.int .i64 0)).setCell ⟨gb, 3, none⟩ (.int .i64 0)).setCell ⟨gb, 4, none⟩ (.int .i64 0)).setCell ⟨gb, 5, none⟩ (.int .i64 0)).setCell ⟨gb, 6, none⟩ (.slice none 0 0)).setCell ⟨gb, 7, none⟩ (.slice none 0 0)) = w3 at HB_ BX_ ⊢
  have HB := HB_
  have BX := BX_
  clear HB_ BX_
  obtain ⟨hz0, hz1, hz2, hz3, hz4, hz5, hz6, hz7⟩ := box8 BX.out; obtain ⟨hf0, hf1, hf2, hf3, hf4, hf5, hf6, hf7⟩ := frz8 BX.out
  go_upto_region 25 with (go_at_call 18; (with_reducible refine (alive.calls k LB_ lv LV.out _).mono ?_); rintro e w1 ⟨rfl, hb_⟩; replace HB := Aside0.mk (belt hb_); clear hb_)
  have HB_ := Aside0.mk (show Below w.heap.size w (w3.setCell ⟨gb, 1, none⟩ (.int .i64 2147483647)) from below_set HB.out GB.out)
  have BX_ := Aside0.mk (show (w3.setCell ⟨gb, 1, none⟩ (.int .i64 2147483647)).heap[gb]? = some (.cells #[.int .i64 2, .int .i64 2147483647, .int .i64 0, .int .i64 0, .int .i64 0, .int .i64 0, .slice none 0 0, .slice none 0 0] 45 (0, 0)) from blk_put BX.out 1 _ rfl)
  clear hz0 hz1 hz2 hz3 hz4 hz5 hz6 hz7 hf0 hf1 hf2 hf3 hf4 hf5 hf6 hf7
  clear HB BX
  generalize (w3.setCell ⟨gb, 1, none⟩ (.int .i64 2147483647)) = w5 at HB_ BX_ ⊢
  have HB := HB_
  have BX := BX_
  clear HB_ BX_
  obtain ⟨hz0, hz1, hz2, hz3, hz4, hz5, hz6, hz7⟩ := box8 BX.out; obtain ⟨hf0, hf1, hf2, hf3, hf4, hf5, hf6, hf7⟩ := frz8 BX.out
  go_wp2_with (go_at_call 20; (refine (letter_Bytes.calls k 2 2147483647 0 0 0 0 none 0 [] none 0 [] X _ (Kd.C_nil _ _) (Nat.le_refl _) (Kd.C_nil _ _) (Nat.le_refl _) HX.out).mono ?_); rintro e w6 ⟨vb, rfl, ho_, hb_⟩; obtain ⟨Ab, cb, rfl, _, _⟩ := Kd.R_reads ho_; replace HB := Aside0.mk (belt hb_); clear ho_ hb_)
  go_ret
  exact ⟨by first | rfl | simp [*], bel⟩
theorem case11 (k : Nat) (LB_ : List Int) (lv : Nat → Int) (X : List Int) (w : World) (hlv : Live k LB_ lv) (hx : letter_Bytes.f k 2 2147483648 0 0 0 0 [] [] = some X) (hd : decide (0 < X.length) = !true) :
    Calls Try.prog 8 #[.int .i64 1, .bool true] w fun e w' => e = .returned (.bool true) ∧ Below w.heap.size w w' := by
  have hu45 := Try.underlying45
  have LV := Aside0.mk hlv
  have HX := Aside0.mk hx
  have HB := Aside0.mk (Below.refl w.heap.size w)
  obtain rfl : X = [] := by cases X with
    | nil => rfl
    | cons _ _ => simp at hd
  clear hx hlv hd
  go_enter Try.func8, Try.ntmps8
  go_upto_region 8 with (first | (go_at_call 18; (with_reducible refine (alive.calls k LB_ lv LV.out _).mono ?_); rintro e w1 ⟨rfl, hb_⟩; replace HB := Aside0.mk (belt hb_); clear hb_) | ((with_reducible refine gate_dst (N := 7) rfl ?_); refine box_event ?hg (N := 7) ?hd (cs := #[.int .i64 0, .int .i64 0, .int .i64 0, .int .i64 0, .int .i64 0, .int .i64 0, .slice none 0 0, .slice none 0 0]) (t := 45) ?hr ?_; (case hd => rfl); (case hg => rfl); (case hr => first | (go_simp; done) | (go_simp; rfl)); intro gb hg w2 hbox hb; have GB := Aside0.mk (by rw [hg]; exact bels : w.heap.size ≤ gb); replace HB := Aside0.mk (belt hb); have BX := Aside0.mk hbox; obtain ⟨hz0, hz1, hz2, hz3, hz4, hz5, hz6, hz7⟩ := box8 hbox; obtain ⟨hf0, hf1, hf2, hf3, hf4, hf5, hf6, hf7⟩ := frz8 hbox; clear hbox hb hg))
  have HB_ := Aside0.mk (show Below w.heap.size w (((((((((w2.setCell ⟨gb, 0, none⟩ (.int .i64 2)).setCell ⟨gb, 1, none⟩ (.int .i64 0)).setCell ⟨gb, 2, none⟩ (.int .i64 0)).setCell ⟨gb, 3, none⟩ (.int .i64 0)).setCell ⟨gb, 4, none⟩ (.int .i64 0)).setCell ⟨gb, 5, none⟩ (.int .i64 0)).setCell ⟨gb, 6, none⟩ (.slice none 0 0)).setCell ⟨gb, 7, none⟩ (.slice none 0 0))) from bel8 HB.out GB.out)
  have BX_ := Aside0.mk (show (((((((((w2.setCell ⟨gb, 0, none⟩ (.int .i64 2)).setCell ⟨gb, 1, none⟩ (.int .i64 0)).setCell ⟨gb, 2, none⟩ (.int .i64 0)).setCell ⟨gb, 3, none⟩ (.int .i64 0)).setCell ⟨gb, 4, none⟩ (.int .i64 0)).setCell ⟨gb, 5, none⟩ (.int .i64 0)).setCell ⟨gb, 6, none⟩ (.slice none 0 0)).setCell ⟨gb, 7, none⟩ (.slice none 0 0))).heap[gb]? = some (.cells #[.int .i64 2, .int .i64 0, .int .i64 0, .int .i64 0, .int .i64 0, .int .i64 0, .slice none 0 0, .slice none 0 0] 45 (0, 0)) from set8 BX.out)
  clear hz0 hz1 hz2 hz3 hz4 hz5 hz6 hz7 hf0 hf1 hf2 hf3 hf4 hf5 hf6 hf7
  clear HB BX
  generalize ((((((((w2.setCell ⟨gb, 0, none⟩ (.int .i64 2)).setCell ⟨gb, 1, none⟩ (.int .i64 0)).setCell ⟨gb, 2, none⟩ (.int .i64 0)).setCell ⟨gb, 3, none⟩ (.int .i64 0)).setCell ⟨gb, 4, none⟩ (.int .i64 0)).setCell ⟨gb, 5, none⟩ (.int .i64 0)).setCell ⟨gb, 6, none⟩ (.slice none 0 0)).setCell ⟨gb, 7, none⟩ (.slice none 0 0)) = w3 at HB_ BX_ ⊢
  have HB := HB_
  have BX := BX_
  clear HB_ BX_
  obtain ⟨hz0, hz1, hz2, hz3, hz4, hz5, hz6, hz7⟩ := box8 BX.out; obtain ⟨hf0, hf1, hf2, hf3, hf4, hf5, hf6, hf7⟩ := frz8 BX.out
  go_upto_region 25 with (go_at_call 18; (with_reducible refine (alive.calls k LB_ lv LV.out _).mono ?_); rintro e w1 ⟨rfl, hb_⟩; replace HB := Aside0.mk (belt hb_); clear hb_)
  have HB_ := Aside0.mk (show Below w.heap.size w (w3.setCell ⟨gb, 1, none⟩ (.int .i64 2147483648)) from below_set HB.out GB.out)
  have BX_ := Aside0.mk (show (w3.setCell ⟨gb, 1, none⟩ (.int .i64 2147483648)).heap[gb]? = some (.cells #[.int .i64 2, .int .i64 2147483648, .int .i64 0, .int .i64 0, .int .i64 0, .int .i64 0, .slice none 0 0, .slice none 0 0] 45 (0, 0)) from blk_put BX.out 1 _ rfl)
  clear hz0 hz1 hz2 hz3 hz4 hz5 hz6 hz7 hf0 hf1 hf2 hf3 hf4 hf5 hf6 hf7
  clear HB BX
  generalize (w3.setCell ⟨gb, 1, none⟩ (.int .i64 2147483648)) = w5 at HB_ BX_ ⊢
  have HB := HB_
  have BX := BX_
  clear HB_ BX_
  obtain ⟨hz0, hz1, hz2, hz3, hz4, hz5, hz6, hz7⟩ := box8 BX.out; obtain ⟨hf0, hf1, hf2, hf3, hf4, hf5, hf6, hf7⟩ := frz8 BX.out
  go_wp2_with (go_at_call 20; (refine (letter_Bytes.calls k 2 2147483648 0 0 0 0 none 0 [] none 0 [] [] _ (Kd.C_nil _ _) (Nat.le_refl _) (Kd.C_nil _ _) (Nat.le_refl _) HX.out).mono ?_); rintro e w6 ⟨vb, rfl, ho_, hb_⟩; obtain ⟨Ab, cb, rfl, _, _⟩ := Kd.R_reads ho_; replace HB := Aside0.mk (belt hb_); clear ho_ hb_)
  go_ret
  exact ⟨by first | rfl | simp [*], bel⟩
theorem case20 (k : Nat) (LB_ : List Int) (lv : Nat → Int) (X : List Int) (w : World) (hlv : Live k LB_ lv) (hx : letter_Bytes.f k 2 0 0 0 0 0 [] [] = some X) (hd : decide (0 < X.length) = !false) :
    Calls Try.prog 8 #[.int .i64 2, .bool false] w fun e w' => e = .returned (.bool true) ∧ Below w.heap.size w w' := by
  have hu45 := Try.underlying45
  have LV := Aside0.mk hlv
  have HX := Aside0.mk hx
  have HB := Aside0.mk (Below.refl w.heap.size w)
  have hp1 : 0 < X.length := of_decide_eq_true hd
  have hp2 : 0 < (X.length : Int) := by omega
  clear hx hlv hd
  go_enter Try.func8, Try.ntmps8
  go_upto_region 8 with (first | (go_at_call 18; (with_reducible refine (alive.calls k LB_ lv LV.out _).mono ?_); rintro e w1 ⟨rfl, hb_⟩; replace HB := Aside0.mk (belt hb_); clear hb_) | ((with_reducible refine gate_dst (N := 7) rfl ?_); refine box_event ?hg (N := 7) ?hd (cs := #[.int .i64 0, .int .i64 0, .int .i64 0, .int .i64 0, .int .i64 0, .int .i64 0, .slice none 0 0, .slice none 0 0]) (t := 45) ?hr ?_; (case hd => rfl); (case hg => rfl); (case hr => first | (go_simp; done) | (go_simp; rfl)); intro gb hg w2 hbox hb; have GB := Aside0.mk (by rw [hg]; exact bels : w.heap.size ≤ gb); replace HB := Aside0.mk (belt hb); have BX := Aside0.mk hbox; obtain ⟨hz0, hz1, hz2, hz3, hz4, hz5, hz6, hz7⟩ := box8 hbox; obtain ⟨hf0, hf1, hf2, hf3, hf4, hf5, hf6, hf7⟩ := frz8 hbox; clear hbox hb hg))
  have HB_ := Aside0.mk (show Below w.heap.size w (((((((((w2.setCell ⟨gb, 0, none⟩ (.int .i64 2)).setCell ⟨gb, 1, none⟩ (.int .i64 0)).setCell ⟨gb, 2, none⟩ (.int .i64 0)).setCell ⟨gb, 3, none⟩ (.int .i64 0)).setCell ⟨gb, 4, none⟩ (.int .i64 0)).setCell ⟨gb, 5, none⟩ (.int .i64 0)).setCell ⟨gb, 6, none⟩ (.slice none 0 0)).setCell ⟨gb, 7, none⟩ (.slice none 0 0))) from bel8 HB.out GB.out)
  have BX_ := Aside0.mk (show (((((((((w2.setCell ⟨gb, 0, none⟩ (.int .i64 2)).setCell ⟨gb, 1, none⟩ (.int .i64 0)).setCell ⟨gb, 2, none⟩ (.int .i64 0)).setCell ⟨gb, 3, none⟩ (.int .i64 0)).setCell ⟨gb, 4, none⟩ (.int .i64 0)).setCell ⟨gb, 5, none⟩ (.int .i64 0)).setCell ⟨gb, 6, none⟩ (.slice none 0 0)).setCell ⟨gb, 7, none⟩ (.slice none 0 0))).heap[gb]? = some (.cells #[.int .i64 2, .int .i64 0, .int .i64 0, .int .i64 0, .int .i64 0, .int .i64 0, .slice none 0 0, .slice none 0 0] 45 (0, 0)) from set8 BX.out)
  clear hz0 hz1 hz2 hz3 hz4 hz5 hz6 hz7 hf0 hf1 hf2 hf3 hf4 hf5 hf6 hf7
  clear HB BX
  generalize ((((((((w2.setCell ⟨gb, 0, none⟩ (.int .i64 2)).setCell ⟨gb, 1, none⟩ (.int .i64 0)).setCell ⟨gb, 2, none⟩ (.int .i64 0)).setCell ⟨gb, 3, none⟩ (.int .i64 0)).setCell ⟨gb, 4, none⟩ (.int .i64 0)).setCell ⟨gb, 5, none⟩ (.int .i64 0)).setCell ⟨gb, 6, none⟩ (.slice none 0 0)).setCell ⟨gb, 7, none⟩ (.slice none 0 0)) = w3 at HB_ BX_ ⊢
  have HB := HB_
  have BX := BX_
  clear HB_ BX_
  obtain ⟨hz0, hz1, hz2, hz3, hz4, hz5, hz6, hz7⟩ := box8 BX.out; obtain ⟨hf0, hf1, hf2, hf3, hf4, hf5, hf6, hf7⟩ := frz8 BX.out
  go_upto_region 25 with (go_at_call 18; (with_reducible refine (alive.calls k LB_ lv LV.out _).mono ?_); rintro e w1 ⟨rfl, hb_⟩; replace HB := Aside0.mk (belt hb_); clear hb_)
  have HB_ := Aside0.mk (show Below w.heap.size w (w3.setCell ⟨gb, 2, none⟩ (.int .i64 0)) from below_set HB.out GB.out)
  have BX_ := Aside0.mk (show (w3.setCell ⟨gb, 2, none⟩ (.int .i64 0)).heap[gb]? = some (.cells #[.int .i64 2, .int .i64 0, .int .i64 0, .int .i64 0, .int .i64 0, .int .i64 0, .slice none 0 0, .slice none 0 0] 45 (0, 0)) from blk_put BX.out 2 _ rfl)
  clear hz0 hz1 hz2 hz3 hz4 hz5 hz6 hz7 hf0 hf1 hf2 hf3 hf4 hf5 hf6 hf7
  clear HB BX
  generalize (w3.setCell ⟨gb, 2, none⟩ (.int .i64 0)) = w5 at HB_ BX_ ⊢
  have HB := HB_
  have BX := BX_
  clear HB_ BX_
  obtain ⟨hz0, hz1, hz2, hz3, hz4, hz5, hz6, hz7⟩ := box8 BX.out; obtain ⟨hf0, hf1, hf2, hf3, hf4, hf5, hf6, hf7⟩ := frz8 BX.out
  go_wp2_with (go_at_call 20; (refine (letter_Bytes.calls k 2 0 0 0 0 0 none 0 [] none 0 [] X _ (Kd.C_nil _ _) (Nat.le_refl _) (Kd.C_nil _ _) (Nat.le_refl _) HX.out).mono ?_); rintro e w6 ⟨vb, rfl, ho_, hb_⟩; obtain ⟨Ab, cb, rfl, _, _⟩ := Kd.R_reads ho_; replace HB := Aside0.mk (belt hb_); clear ho_ hb_)
  go_ret
  exact ⟨by first | rfl | simp [*], bel⟩
theorem case21 (k : Nat) (LB_ : List Int) (lv : Nat → Int) (X : List Int) (w : World) (hlv : Live k LB_ lv) (hx : letter_Bytes.f k 2 0 (-1) 0 0 0 [] [] = some X) (hd : decide (0 < X.length) = !true) :
    Calls Try.prog 8 #[.int .i64 2, .bool true] w fun e w' => e = .returned (.bool true) ∧ Below w.heap.size w w' := by
  have hu45 := Try.underlying45
  have LV := Aside0.mk hlv
  have HX := Aside0.mk hx
  have HB := Aside0.mk (Below.refl w.heap.size w)
  obtain rfl : X = [] := by cases X with
    | nil => rfl
    | cons _ _ => simp at hd
  clear hx hlv hd
  go_enter Try.func8, Try.ntmps8
  go_upto_region 8 with (first | (go_at_call 18; (with_reducible refine (alive.calls k LB_ lv LV.out _).mono ?_); rintro e w1 ⟨rfl, hb_⟩; replace HB := Aside0.mk (belt hb_); clear hb_) | ((with_reducible refine gate_dst (N := 7) rfl ?_); refine box_event ?hg (N := 7) ?hd (cs := #[.int .i64 0, .int .i64 0, .int .i64 0, .int .i64 0, .int .i64 0, .int .i64 0, .slice none 0 0, .slice none 0 0]) (t := 45) ?hr ?_; (case hd => rfl); (case hg => rfl); (case hr => first | (go_simp; done) | (go_simp; rfl)); intro gb hg w2 hbox hb; have GB := Aside0.mk (by rw [hg]; exact bels : w.heap.size ≤ gb); replace HB := Aside0.mk (belt hb); have BX := Aside0.mk hbox; obtain ⟨hz0, hz1, hz2, hz3, hz4, hz5, hz6, hz7⟩ := box8 hbox; obtain ⟨hf0, hf1, hf2, hf3, hf4, hf5, hf6, hf7⟩ := frz8 hbox; clear hbox hb hg))
  have HB_ := Aside0.mk (show Below w.heap.size w (((((((((w2.setCell ⟨gb, 0, none⟩ (.int .i64 2)).setCell ⟨gb, 1, none⟩ (.int .i64 0)).setCell ⟨gb, 2, none⟩ (.int .i64 0)).setCell ⟨gb, 3, none⟩ (.int .i64 0)).setCell ⟨gb, 4, none⟩ (.int .i64 0)).setCell ⟨gb, 5, none⟩ (.int .i64 0)).setCell ⟨gb, 6, none⟩ (.slice none 0 0)).setCell ⟨gb, 7, none⟩ (.slice none 0 0))) from bel8 HB.out GB.out)
  have BX_ := Aside0.mk (show (((((((((w2.setCell ⟨gb, 0, none⟩ (.int .i64 2)).setCell ⟨gb, 1, none⟩ (.int .i64 0)).setCell ⟨gb, 2, none⟩ (.int .i64 0)).setCell ⟨gb, 3, none⟩ (.int .i64 0)).setCell ⟨gb, 4, none⟩ (.int .i64 0)).setCell ⟨gb, 5, none⟩ (.int .i64 0)).setCell ⟨gb, 6, none⟩ (.slice none 0 0)).setCell ⟨gb, 7, none⟩ (.slice none 0 0))).heap[gb]? = some (.cells #[.int .i64 2, .int .i64 0, .int .i64 0, .int .i64 0, .int .i64 0, .int .i64 0, .slice none 0 0, .slice none 0 0] 45 (0, 0)) from set8 BX.out)
  clear hz0 hz1 hz2 hz3 hz4 hz5 hz6 hz7 hf0 hf1 hf2 hf3 hf4 hf5 hf6 hf7
  clear HB BX
  generalize ((((((((w2.setCell ⟨gb, 0, none⟩ (.int .i64 2)).setCell ⟨gb, 1, none⟩ (.int .i64 0)).setCell ⟨gb, 2, none⟩ (.int .i64 0)).setCell ⟨gb, 3, none⟩ (.int .i64 0)).setCell ⟨gb, 4, none⟩ (.int .i64 0)).setCell ⟨gb, 5, none⟩ (.int .i64 0)).setCell ⟨gb, 6, none⟩ (.slice none 0 0)).setCell ⟨gb, 7, none⟩ (.slice none 0 0)) = w3 at HB_ BX_ ⊢
  have HB := HB_
  have BX := BX_
  clear HB_ BX_
  obtain ⟨hz0, hz1, hz2, hz3, hz4, hz5, hz6, hz7⟩ := box8 BX.out; obtain ⟨hf0, hf1, hf2, hf3, hf4, hf5, hf6, hf7⟩ := frz8 BX.out
  go_upto_region 25 with (go_at_call 18; (with_reducible refine (alive.calls k LB_ lv LV.out _).mono ?_); rintro e w1 ⟨rfl, hb_⟩; replace HB := Aside0.mk (belt hb_); clear hb_)
  have HB_ := Aside0.mk (show Below w.heap.size w (w3.setCell ⟨gb, 2, none⟩ (.int .i64 (-1))) from below_set HB.out GB.out)
  have BX_ := Aside0.mk (show (w3.setCell ⟨gb, 2, none⟩ (.int .i64 (-1))).heap[gb]? = some (.cells #[.int .i64 2, .int .i64 0, .int .i64 (-1), .int .i64 0, .int .i64 0, .int .i64 0, .slice none 0 0, .slice none 0 0] 45 (0, 0)) from blk_put BX.out 2 _ rfl)
  clear hz0 hz1 hz2 hz3 hz4 hz5 hz6 hz7 hf0 hf1 hf2 hf3 hf4 hf5 hf6 hf7
  clear HB BX
  generalize (w3.setCell ⟨gb, 2, none⟩ (.int .i64 (-1))) = w5 at HB_ BX_ ⊢
  have HB := HB_
  have BX := BX_
  clear HB_ BX_
  obtain ⟨hz0, hz1, hz2, hz3, hz4, hz5, hz6, hz7⟩ := box8 BX.out; obtain ⟨hf0, hf1, hf2, hf3, hf4, hf5, hf6, hf7⟩ := frz8 BX.out
  go_wp2_with (go_at_call 20; (refine (letter_Bytes.calls k 2 0 (-1) 0 0 0 none 0 [] none 0 [] [] _ (Kd.C_nil _ _) (Nat.le_refl _) (Kd.C_nil _ _) (Nat.le_refl _) HX.out).mono ?_); rintro e w6 ⟨vb, rfl, ho_, hb_⟩; obtain ⟨Ab, cb, rfl, _, _⟩ := Kd.R_reads ho_; replace HB := Aside0.mk (belt hb_); clear ho_ hb_)
  go_ret
  exact ⟨by first | rfl | simp [*], bel⟩
theorem case30 (k : Nat) (LB_ : List Int) (lv : Nat → Int) (X : List Int) (w : World) (hlv : Live k LB_ lv) (hx : letter_Bytes.f k 2 0 0 2147483647 0 0 [] [] = some X) (hd : decide (0 < X.length) = !false) :
    Calls Try.prog 8 #[.int .i64 3, .bool false] w fun e w' => e = .returned (.bool true) ∧ Below w.heap.size w w' := by
  have hu45 := Try.underlying45
  have LV := Aside0.mk hlv
  have HX := Aside0.mk hx
  have HB := Aside0.mk (Below.refl w.heap.size w)
  have hp1 : 0 < X.length := of_decide_eq_true hd
  have hp2 : 0 < (X.length : Int) := by omega
  clear hx hlv hd
  go_enter Try.func8, Try.ntmps8
  go_upto_region 8 with (first | (go_at_call 18; (with_reducible refine (alive.calls k LB_ lv LV.out _).mono ?_); rintro e w1 ⟨rfl, hb_⟩; replace HB := Aside0.mk (belt hb_); clear hb_) | ((with_reducible refine gate_dst (N := 7) rfl ?_); refine box_event ?hg (N := 7) ?hd (cs := #[.int .i64 0, .int .i64 0, .int .i64 0, .int .i64 0, .int .i64 0, .int .i64 0, .slice none 0 0, .slice none 0 0]) (t := 45) ?hr ?_; (case hd => rfl); (case hg => rfl); (case hr => first | (go_simp; done) | (go_simp; rfl)); intro gb hg w2 hbox hb; have GB := Aside0.mk (by rw [hg]; exact bels : w.heap.size ≤ gb); replace HB := Aside0.mk (belt hb); have BX := Aside0.mk hbox; obtain ⟨hz0, hz1, hz2, hz3, hz4, hz5, hz6, hz7⟩ := box8 hbox; obtain ⟨hf0, hf1, hf2, hf3, hf4, hf5, hf6, hf7⟩ := frz8 hbox; clear hbox hb hg))
  have HB_ := Aside0.mk (show Below w.heap.size w (((((((((w2.setCell ⟨gb, 0, none⟩ (.int .i64 2)).setCell ⟨gb, 1, none⟩ (.int .i64 0)).setCell ⟨gb, 2, none⟩ (.int .i64 0)).setCell ⟨gb, 3, none⟩ (.int .i64 0)).setCell ⟨gb, 4, none⟩ (.int .i64 0)).setCell ⟨gb, 5, none⟩ (.int .i64 0)).setCell ⟨gb, 6, none⟩ (.slice none 0 0)).setCell ⟨gb, 7, none⟩ (.slice none 0 0))) from bel8 HB.out GB.out)
  have BX_ := Aside0.mk (show (((((((((w2.setCell ⟨gb, 0, none⟩ (.int .i64 2)).setCell ⟨gb, 1, none⟩ (.int .i64 0)).setCell ⟨gb, 2, none⟩ (.int .i64 0)).setCell ⟨gb, 3, none⟩ (.int .i64 0)).setCell ⟨gb, 4, none⟩ (.int .i64 0)).setCell ⟨gb, 5, none⟩ (.int .i64 0)).setCell ⟨gb, 6, none⟩ (.slice none 0 0)).setCell ⟨gb, 7, none⟩ (.slice none 0 0))).heap[gb]? = some (.cells #[.int .i64 2, .int .i64 0, .int .i64 0, .int .i64 0, .int .i64 0, .int .i64 0, .slice none 0 0, .slice none 0 0] 45 (0, 0)) from set8 BX.out)
  clear hz0 hz1 hz2 hz3 hz4 hz5 hz6 hz7 hf0 hf1 hf2 hf3 hf4 hf5 hf6 hf7
  clear HB BX
  generalize ((((((((w2.setCell ⟨gb, 0, none⟩ (.int .i64 2)).setCell ⟨gb, 1, none⟩ (.int .i64 0)).setCell ⟨gb, 2, none⟩ (.int .i64 0)).setCell ⟨gb, 3, none⟩ (.int .i64 0)).setCell ⟨gb, 4, none⟩ (.int .i64 0)).setCell ⟨gb, 5, none⟩ (.int .i64 0)).setCell ⟨gb, 6, none⟩ (.slice none 0 0)).setCell ⟨gb, 7, none⟩ (.slice none 0 0)) = w3 at HB_ BX_ ⊢
  have HB := HB_
  have BX := BX_
  clear HB_ BX_
  obtain ⟨hz0, hz1, hz2, hz3, hz4, hz5, hz6, hz7⟩ := box8 BX.out; obtain ⟨hf0, hf1, hf2, hf3, hf4, hf5, hf6, hf7⟩ := frz8 BX.out
  go_upto_region 25 with (go_at_call 18; (with_reducible refine (alive.calls k LB_ lv LV.out _).mono ?_); rintro e w1 ⟨rfl, hb_⟩; replace HB := Aside0.mk (belt hb_); clear hb_)
  have HB_ := Aside0.mk (show Below w.heap.size w (w3.setCell ⟨gb, 3, none⟩ (.int .i64 2147483647)) from below_set HB.out GB.out)
  have BX_ := Aside0.mk (show (w3.setCell ⟨gb, 3, none⟩ (.int .i64 2147483647)).heap[gb]? = some (.cells #[.int .i64 2, .int .i64 0, .int .i64 0, .int .i64 2147483647, .int .i64 0, .int .i64 0, .slice none 0 0, .slice none 0 0] 45 (0, 0)) from blk_put BX.out 3 _ rfl)
  clear hz0 hz1 hz2 hz3 hz4 hz5 hz6 hz7 hf0 hf1 hf2 hf3 hf4 hf5 hf6 hf7
  clear HB BX
  generalize (w3.setCell ⟨gb, 3, none⟩ (.int .i64 2147483647)) = w5 at HB_ BX_ ⊢
  have HB := HB_
  have BX := BX_
  clear HB_ BX_
  obtain ⟨hz0, hz1, hz2, hz3, hz4, hz5, hz6, hz7⟩ := box8 BX.out; obtain ⟨hf0, hf1, hf2, hf3, hf4, hf5, hf6, hf7⟩ := frz8 BX.out
  go_wp2_with (go_at_call 20; (refine (letter_Bytes.calls k 2 0 0 2147483647 0 0 none 0 [] none 0 [] X _ (Kd.C_nil _ _) (Nat.le_refl _) (Kd.C_nil _ _) (Nat.le_refl _) HX.out).mono ?_); rintro e w6 ⟨vb, rfl, ho_, hb_⟩; obtain ⟨Ab, cb, rfl, _, _⟩ := Kd.R_reads ho_; replace HB := Aside0.mk (belt hb_); clear ho_ hb_)
  go_ret
  exact ⟨by first | rfl | simp [*], bel⟩
theorem case31 (k : Nat) (LB_ : List Int) (lv : Nat → Int) (X : List Int) (w : World) (hlv : Live k LB_ lv) (hx : letter_Bytes.f k 2 0 0 2147483648 0 0 [] [] = some X) (hd : decide (0 < X.length) = !true) :
    Calls Try.prog 8 #[.int .i64 3, .bool true] w fun e w' => e = .returned (.bool true) ∧ Below w.heap.size w w' := by
  have hu45 := Try.underlying45
  have LV := Aside0.mk hlv
  have HX := Aside0.mk hx
  have HB := Aside0.mk (Below.refl w.heap.size w)
  obtain rfl : X = [] := by cases X with
    | nil => rfl
    | cons _ _ => simp at hd
  clear hx hlv hd
  go_enter Try.func8, Try.ntmps8
  go_upto_region 8 with (first | (go_at_call 18; (with_reducible refine (alive.calls k LB_ lv LV.out _).mono ?_); rintro e w1 ⟨rfl, hb_⟩; replace HB := Aside0.mk (belt hb_); clear hb_) | ((with_reducible refine gate_dst (N := 7) rfl ?_); refine box_event ?hg (N := 7) ?hd (cs := #[.int .i64 0, .int .i64 0, .int .i64 0, .int .i64 0, .int .i64 0, .int .i64 0, .slice none 0 0, .slice none 0 0]) (t := 45) ?hr ?_; (case hd => rfl); (case hg => rfl); (case hr => first | (go_simp; done) | (go_simp; rfl)); intro gb hg w2 hbox hb; have GB := Aside0.mk (by rw [hg]; exact bels : w.heap.size ≤ gb); replace HB := Aside0.mk (belt hb); have BX := Aside0.mk hbox; obtain ⟨hz0, hz1, hz2, hz3, hz4, hz5, hz6, hz7⟩ := box8 hbox; obtain ⟨hf0, hf1, hf2, hf3, hf4, hf5, hf6, hf7⟩ := frz8 hbox; clear hbox hb hg))
  have HB_ := Aside0.mk (show Below w.heap.size w (((((((((w2.setCell ⟨gb, 0, none⟩ (.int .i64 2)).setCell ⟨gb, 1, none⟩ (.int .i64 0)).setCell ⟨gb, 2, none⟩ (.int .i64 0)).setCell ⟨gb, 3, none⟩ (.int .i64 0)).setCell ⟨gb, 4, none⟩ (.int .i64 0)).setCell ⟨gb, 5, none⟩ (.int .i64 0)).setCell ⟨gb, 6, none⟩ (.slice none 0 0)).setCell ⟨gb, 7, none⟩ (.slice none 0 0))) from bel8 HB.out GB.out)
  have BX_ := Aside0.mk (show (((((((((w2.setCell ⟨gb, 0, none⟩ (.int .i64 2)).setCell ⟨gb, 1, none⟩ (.int .i64 0)).setCell ⟨gb, 2, none⟩ (.int .i64 0)).setCell ⟨gb, 3, none⟩ (.int .i64 0)).setCell ⟨gb, 4, none⟩ (.int .i64 0)).setCell ⟨gb, 5, none⟩ (.int .i64 0)).setCell ⟨gb, 6, none⟩ (.slice none 0 0)).setCell ⟨gb, 7, none⟩ (.slice none 0 0))).heap[gb]? = some (.cells #[.int .i64 2, .int .i64 0, .int .i64 0, .int .i64 0, .int .i64 0, .int .i64 0, .slice none 0 0, .slice none 0 0] 45 (0, 0)) from set8 BX.out)
  clear hz0 hz1 hz2 hz3 hz4 hz5 hz6 hz7 hf0 hf1 hf2 hf3 hf4 hf5 hf6 hf7
  clear HB BX
  generalize ((((((((w2.setCell ⟨gb, 0, none⟩ (.int .i64 2)).setCell ⟨gb, 1, none⟩ (.int .i64 0)).setCell ⟨gb, 2, none⟩ (.int .i64 0)).setCell ⟨gb, 3, none⟩ (.int .i64 0)).setCell ⟨gb, 4, none⟩ (.int .i64 0)).setCell ⟨gb, 5, none⟩ (.int .i64 0)).setCell ⟨gb, 6, none⟩ (.slice none 0 0)).setCell ⟨gb, 7, none⟩ (.slice none 0 0)) = w3 at HB_ BX_ ⊢
  have HB := HB_
  have BX := BX_
  clear HB_ BX_
  obtain ⟨hz0, hz1, hz2, hz3, hz4, hz5, hz6, hz7⟩ := box8 BX.out; obtain ⟨hf0, hf1, hf2, hf3, hf4, hf5, hf6, hf7⟩ := frz8 BX.out
  go_upto_region 25 with (go_at_call 18; (with_reducible refine (alive.calls k LB_ lv LV.out _).mono ?_); rintro e w1 ⟨rfl, hb_⟩; replace HB := Aside0.mk (belt hb_); clear hb_)
  have HB_ := Aside0.mk (show Below w.heap.size w (w3.setCell ⟨gb, 3, none⟩ (.int .i64 2147483648)) from below_set HB.out GB.out)
  have BX_ := Aside0.mk (show (w3.setCell ⟨gb, 3, none⟩ (.int .i64 2147483648)).heap[gb]? = some (.cells #[.int .i64 2, .int .i64 0, .int .i64 0, .int .i64 2147483648, .int .i64 0, .int .i64 0, .slice none 0 0, .slice none 0 0] 45 (0, 0)) from blk_put BX.out 3 _ rfl)
  clear hz0 hz1 hz2 hz3 hz4 hz5 hz6 hz7 hf0 hf1 hf2 hf3 hf4 hf5 hf6 hf7
  clear HB BX
  generalize (w3.setCell ⟨gb, 3, none⟩ (.int .i64 2147483648)) = w5 at HB_ BX_ ⊢
  have HB := HB_
  have BX := BX_
  clear HB_ BX_
  obtain ⟨hz0, hz1, hz2, hz3, hz4, hz5, hz6, hz7⟩ := box8 BX.out; obtain ⟨hf0, hf1, hf2, hf3, hf4, hf5, hf6, hf7⟩ := frz8 BX.out
  go_wp2_with (go_at_call 20; (refine (letter_Bytes.calls k 2 0 0 2147483648 0 0 none 0 [] none 0 [] [] _ (Kd.C_nil _ _) (Nat.le_refl _) (Kd.C_nil _ _) (Nat.le_refl _) HX.out).mono ?_); rintro e w6 ⟨vb, rfl, ho_, hb_⟩; obtain ⟨Ab, cb, rfl, _, _⟩ := Kd.R_reads ho_; replace HB := Aside0.mk (belt hb_); clear ho_ hb_)
  go_ret
  exact ⟨by first | rfl | simp [*], bel⟩
theorem case40 (k : Nat) (LB_ : List Int) (lv : Nat → Int) (X : List Int) (w : World) (hlv : Live k LB_ lv) (hx : letter_Bytes.f k 2 0 0 0 0 0 (List.replicate 255 (0 : Int)) [] = some X) (hd : decide (0 < X.length) = !false) :
    Calls Try.prog 8 #[.int .i64 4, .bool false] w fun e w' => e = .returned (.bool true) ∧ Below w.heap.size w w' := by
  have hu45 := Try.underlying45
  have LV := Aside0.mk hlv
  obtain ⟨ms, hms⟩ : ∃ ms, (List.replicate 255 (0 : Int)) = ms := ⟨_, rfl⟩
  rw [hms] at hx
  have MS := Aside0.mk hms
  clear hms
  have HX := Aside0.mk hx
  have HB := Aside0.mk (Below.refl w.heap.size w)
  have hp1 : 0 < X.length := of_decide_eq_true hd
  have hp2 : 0 < (X.length : Int) := by omega
  clear hx hlv hd
  go_enter Try.func8, Try.ntmps8
  go_upto_region 8 with (first | (go_at_call 18; (with_reducible refine (alive.calls k LB_ lv LV.out _).mono ?_); rintro e w1 ⟨rfl, hb_⟩; replace HB := Aside0.mk (belt hb_); clear hb_) | ((with_reducible refine gate_dst (N := 7) rfl ?_); refine box_event ?hg (N := 7) ?hd (cs := #[.int .i64 0, .int .i64 0, .int .i64 0, .int .i64 0, .int .i64 0, .int .i64 0, .slice none 0 0, .slice none 0 0]) (t := 45) ?hr ?_; (case hd => rfl); (case hg => rfl); (case hr => first | (go_simp; done) | (go_simp; rfl)); intro gb hg w2 hbox hb; have GB := Aside0.mk (by rw [hg]; exact bels : w.heap.size ≤ gb); replace HB := Aside0.mk (belt hb); have BX := Aside0.mk hbox; obtain ⟨hz0, hz1, hz2, hz3, hz4, hz5, hz6, hz7⟩ := box8 hbox; obtain ⟨hf0, hf1, hf2, hf3, hf4, hf5, hf6, hf7⟩ := frz8 hbox; clear hbox hb hg))
  have HB_ := Aside0.mk (show Below w.heap.size w (((((((((w2.setCell ⟨gb, 0, none⟩ (.int .i64 2)).setCell ⟨gb, 1, none⟩ (.int .i64 0)).setCell ⟨gb, 2, none⟩ (.int .i64 0)).setCell ⟨gb, 3, none⟩ (.int .i64 0)).setCell ⟨gb, 4, none⟩ (.int .i64 0)).setCell ⟨gb, 5, none⟩ (.int .i64 0)).setCell ⟨gb, 6, none⟩ (.slice none 0 0)).setCell ⟨gb, 7, none⟩ (.slice none 0 0))) from bel8 HB.out GB.out)
  have BX_ := Aside0.mk (show (((((((((w2.setCell ⟨gb, 0, none⟩ (.int .i64 2)).setCell ⟨gb, 1, none⟩ (.int .i64 0)).setCell ⟨gb, 2, none⟩ (.int .i64 0)).setCell ⟨gb, 3, none⟩ (.int .i64 0)).setCell ⟨gb, 4, none⟩ (.int .i64 0)).setCell ⟨gb, 5, none⟩ (.int .i64 0)).setCell ⟨gb, 6, none⟩ (.slice none 0 0)).setCell ⟨gb, 7, none⟩ (.slice none 0 0))).heap[gb]? = some (.cells #[.int .i64 2, .int .i64 0, .int .i64 0, .int .i64 0, .int .i64 0, .int .i64 0, .slice none 0 0, .slice none 0 0] 45 (0, 0)) from set8 BX.out)
  clear hz0 hz1 hz2 hz3 hz4 hz5 hz6 hz7 hf0 hf1 hf2 hf3 hf4 hf5 hf6 hf7
  clear HB BX
  generalize ((((((((w2.setCell ⟨gb, 0, none⟩ (.int .i64 2)).setCell ⟨gb, 1, none⟩ (.int .i64 0)).setCell ⟨gb, 2, none⟩ (.int .i64 0)).setCell ⟨gb, 3, none⟩ (.int .i64 0)).setCell ⟨gb, 4, none⟩ (.int .i64 0)).setCell ⟨gb, 5, none⟩ (.int .i64 0)).setCell ⟨gb, 6, none⟩ (.slice none 0 0)).setCell ⟨gb, 7, none⟩ (.slice none 0 0)) = w3 at HB_ BX_ ⊢
  have HB := HB_
  have BX := BX_
  clear HB_ BX_
  obtain ⟨hz0, hz1, hz2, hz3, hz4, hz5, hz6, hz7⟩ := box8 BX.out; obtain ⟨hf0, hf1, hf2, hf3, hf4, hf5, hf6, hf7⟩ := frz8 BX.out
  go_upto_region 25 with ((with_reducible refine gate_dst (N := 61) rfl ?_); refine Kd.R_make (Kd.int .i64) _ 3 rfl (N := 61) rfl 42 _ _ rfl 255 rfl rfl Try.underlying42 (.int .i64 0) 8 info3 rfl (by decide) (by omega) 0 (ok := fun _ => True) (okp := fun _ => True) rfl (fun _ hk => hk) trivial (by decide) (by decide) (Below.refl _ _) (Nat.le_refl _) ?_; intro vm w4 ho hb hg_ hnew_; rw [show List.replicate (255 : Int).toNat (0 : Int) = ms from MS.out] at ho; obtain ⟨Am, cm, rfl, lm_, Cm_⟩ := Kd.R_reads ho; have LM := Aside0.mk lm_; have CM := Aside0.mk Cm_; replace HB := Aside0.mk (belt hb); replace BX := Aside0.mk (blk_below BX.out hb); clear hz0 hz1 hz2 hz3 hz4 hz5 hz6 hz7 hf0 hf1 hf2 hf3 hf4 hf5 hf6 hf7; obtain ⟨hz0, hz1, hz2, hz3, hz4, hz5, hz6, hz7⟩ := box8 BX.out; obtain ⟨hf0, hf1, hf2, hf3, hf4, hf5, hf6, hf7⟩ := frz8 BX.out; have HO := Aside0.mk ho; clear ho hb hg_ hnew_ lm_ Cm_)
  have HB_ := Aside0.mk (show Below w.heap.size w (w4.setCell ⟨gb, 6, none⟩ (.slice Am ms.length cm)) from below_set HB.out GB.out)
  have BX_ := Aside0.mk (show (w4.setCell ⟨gb, 6, none⟩ (.slice Am ms.length cm)).heap[gb]? = some (.cells #[.int .i64 2, .int .i64 0, .int .i64 0, .int .i64 0, .int .i64 0, .int .i64 0, .slice Am ms.length cm, .slice none 0 0] 45 (0, 0)) from blk_put BX.out 6 _ rfl)
  have CM5_ := Aside0.mk (show (Kd.int .i64).C (w4.setCell ⟨gb, 6, none⟩ (.slice Am ms.length cm)) Am _ _ from (Kd.R_reads' (Kd.R_set HO.out BX.out (by decide) 6 (.slice Am ms.length cm))).2.2)
  clear hz0 hz1 hz2 hz3 hz4 hz5 hz6 hz7 hf0 hf1 hf2 hf3 hf4 hf5 hf6 hf7
  clear HB BX
  generalize (w4.setCell ⟨gb, 6, none⟩ (.slice Am ms.length cm)) = w5 at HB_ BX_ CM5_ ⊢
  have HB := HB_
  have BX := BX_
  clear HB_ BX_
  obtain ⟨hz0, hz1, hz2, hz3, hz4, hz5, hz6, hz7⟩ := box8 BX.out; obtain ⟨hf0, hf1, hf2, hf3, hf4, hf5, hf6, hf7⟩ := frz8 BX.out
  go_wp2_with (go_at_call 20; (refine (letter_Bytes.calls k 2 0 0 0 0 0 Am cm ms none 0 [] X _ CM5_.out LM.out (Kd.C_nil _ _) (Nat.le_refl _) HX.out).mono ?_); rintro e w6 ⟨vb, rfl, ho_, hb_⟩; obtain ⟨Ab, cb, rfl, _, _⟩ := Kd.R_reads ho_; replace HB := Aside0.mk (belt hb_); clear ho_ hb_)
  go_ret
  exact ⟨by first | rfl | simp [*], bel⟩
theorem case41 (k : Nat) (LB_ : List Int) (lv : Nat → Int) (X : List Int) (w : World) (hlv : Live k LB_ lv) (hx : letter_Bytes.f k 2 0 0 0 0 0 (List.replicate 256 (0 : Int)) [] = some X) (hd : decide (0 < X.length) = !true) :
    Calls Try.prog 8 #[.int .i64 4, .bool true] w fun e w' => e = .returned (.bool true) ∧ Below w.heap.size w w' := by
  have hu45 := Try.underlying45
  have LV := Aside0.mk hlv
  obtain ⟨ms, hms⟩ : ∃ ms, (List.replicate 256 (0 : Int)) = ms := ⟨_, rfl⟩
  rw [hms] at hx
  have MS := Aside0.mk hms
  clear hms
  have HX := Aside0.mk hx
  have HB := Aside0.mk (Below.refl w.heap.size w)
  obtain rfl : X = [] := by cases X with
    | nil => rfl
    | cons _ _ => simp at hd
  clear hx hlv hd
  go_enter Try.func8, Try.ntmps8
  go_upto_region 8 with (first | (go_at_call 18; (with_reducible refine (alive.calls k LB_ lv LV.out _).mono ?_); rintro e w1 ⟨rfl, hb_⟩; replace HB := Aside0.mk (belt hb_); clear hb_) | ((with_reducible refine gate_dst (N := 7) rfl ?_); refine box_event ?hg (N := 7) ?hd (cs := #[.int .i64 0, .int .i64 0, .int .i64 0, .int .i64 0, .int .i64 0, .int .i64 0, .slice none 0 0, .slice none 0 0]) (t := 45) ?hr ?_; (case hd => rfl); (case hg => rfl); (case hr => first | (go_simp; done) | (go_simp; rfl)); intro gb hg w2 hbox hb; have GB := Aside0.mk (by rw [hg]; exact bels : w.heap.size ≤ gb); replace HB := Aside0.mk (belt hb); have BX := Aside0.mk hbox; obtain ⟨hz0, hz1, hz2, hz3, hz4, hz5, hz6, hz7⟩ := box8 hbox; obtain ⟨hf0, hf1, hf2, hf3, hf4, hf5, hf6, hf7⟩ := frz8 hbox; clear hbox hb hg))
  have HB_ := Aside0.mk (show Below w.heap.size w (((((((((w2.setCell ⟨gb, 0, none⟩ (.int .i64 2)).setCell ⟨gb, 1, none⟩ (.int .i64 0)).setCell ⟨gb, 2, none⟩ (.int .i64 0)).setCell ⟨gb, 3, none⟩ (.int .i64 0)).setCell ⟨gb, 4, none⟩ (.int .i64 0)).setCell ⟨gb, 5, none⟩ (.int .i64 0)).setCell ⟨gb, 6, none⟩ (.slice none 0 0)).setCell ⟨gb, 7, none⟩ (.slice none 0 0))) from bel8 HB.out GB.out)
  have BX_ := Aside0.mk (show (((((((((w2.setCell ⟨gb, 0, none⟩ (.int .i64 2)).setCell ⟨gb, 1, none⟩ (.int .i64 0)).setCell ⟨gb, 2, none⟩ (.int .i64 0)).setCell ⟨gb, 3, none⟩ (.int .i64 0)).setCell ⟨gb, 4, none⟩ (.int .i64 0)).setCell ⟨gb, 5, none⟩ (.int .i64 0)).setCell ⟨gb, 6, none⟩ (.slice none 0 0)).setCell ⟨gb, 7, none⟩ (.slice none 0 0))).heap[gb]? = some (.cells #[.int .i64 2, .int .i64 0, .int .i64 0, .int .i64 0, .int .i64 0, .int .i64 0, .slice none 0 0, .slice none 0 0] 45 (0, 0)) from set8 BX.out)
  clear hz0 hz1 hz2 hz3 hz4 hz5 hz6 hz7 hf0 hf1 hf2 hf3 hf4 hf5 hf6 hf7
  clear HB BX
  generalize ((((((((w2.setCell ⟨gb, 0, none⟩ (.int .i64 2)).setCell ⟨gb, 1, none⟩ (.int .i64 0)).setCell ⟨gb, 2, none⟩ (.int .i64 0)).setCell ⟨gb, 3, none⟩ (.int .i64 0)).setCell ⟨gb, 4, none⟩ (.int .i64 0)).setCell ⟨gb, 5, none⟩ (.int .i64 0)).setCell ⟨gb, 6, none⟩ (.slice none 0 0)).setCell ⟨gb, 7, none⟩ (.slice none 0 0)) = w3 at HB_ BX_ ⊢
  have HB := HB_
  have BX := BX_
  clear HB_ BX_
  obtain ⟨hz0, hz1, hz2, hz3, hz4, hz5, hz6, hz7⟩ := box8 BX.out; obtain ⟨hf0, hf1, hf2, hf3, hf4, hf5, hf6, hf7⟩ := frz8 BX.out
  go_upto_region 25 with ((with_reducible refine gate_dst (N := 61) rfl ?_); refine Kd.R_make (Kd.int .i64) _ 3 rfl (N := 61) rfl 42 _ _ rfl 256 rfl rfl Try.underlying42 (.int .i64 0) 8 info3 rfl (by decide) (by omega) 0 (ok := fun _ => True) (okp := fun _ => True) rfl (fun _ hk => hk) trivial (by decide) (by decide) (Below.refl _ _) (Nat.le_refl _) ?_; intro vm w4 ho hb hg_ hnew_; rw [show List.replicate (256 : Int).toNat (0 : Int) = ms from MS.out] at ho; obtain ⟨Am, cm, rfl, lm_, Cm_⟩ := Kd.R_reads ho; have LM := Aside0.mk lm_; have CM := Aside0.mk Cm_; replace HB := Aside0.mk (belt hb); replace BX := Aside0.mk (blk_below BX.out hb); clear hz0 hz1 hz2 hz3 hz4 hz5 hz6 hz7 hf0 hf1 hf2 hf3 hf4 hf5 hf6 hf7; obtain ⟨hz0, hz1, hz2, hz3, hz4, hz5, hz6, hz7⟩ := box8 BX.out; obtain ⟨hf0, hf1, hf2, hf3, hf4, hf5, hf6, hf7⟩ := frz8 BX.out; have HO := Aside0.mk ho; clear ho hb hg_ hnew_ lm_ Cm_)
  have HB_ := Aside0.mk (show Below w.heap.size w (w4.setCell ⟨gb, 6, none⟩ (.slice Am ms.length cm)) from below_set HB.out GB.out)
  have BX_ := Aside0.mk (show (w4.setCell ⟨gb, 6, none⟩ (.slice Am ms.length cm)).heap[gb]? = some (.cells #[.int .i64 2, .int .i64 0, .int .i64 0, .int .i64 0, .int .i64 0, .int .i64 0, .slice Am ms.length cm, .slice none 0 0] 45 (0, 0)) from blk_put BX.out 6 _ rfl)
  have CM5_ := Aside0.mk (show (Kd.int .i64).C (w4.setCell ⟨gb, 6, none⟩ (.slice Am ms.length cm)) Am _ _ from (Kd.R_reads' (Kd.R_set HO.out BX.out (by decide) 6 (.slice Am ms.length cm))).2.2)
  clear hz0 hz1 hz2 hz3 hz4 hz5 hz6 hz7 hf0 hf1 hf2 hf3 hf4 hf5 hf6 hf7
  clear HB BX
  generalize (w4.setCell ⟨gb, 6, none⟩ (.slice Am ms.length cm)) = w5 at HB_ BX_ CM5_ ⊢
  have HB := HB_
  have BX := BX_
  clear HB_ BX_
  obtain ⟨hz0, hz1, hz2, hz3, hz4, hz5, hz6, hz7⟩ := box8 BX.out; obtain ⟨hf0, hf1, hf2, hf3, hf4, hf5, hf6, hf7⟩ := frz8 BX.out
  go_wp2_with (go_at_call 20; (refine (letter_Bytes.calls k 2 0 0 0 0 0 Am cm ms none 0 [] [] _ CM5_.out LM.out (Kd.C_nil _ _) (Nat.le_refl _) HX.out).mono ?_); rintro e w6 ⟨vb, rfl, ho_, hb_⟩; obtain ⟨Ab, cb, rfl, _, _⟩ := Kd.R_reads ho_; replace HB := Aside0.mk (belt hb_); clear ho_ hb_)
  go_ret
  exact ⟨by first | rfl | simp [*], bel⟩
theorem case50 (k : Nat) (LB_ : List Int) (lv : Nat → Int) (X : List Int) (w : World) (hlv : Live k LB_ lv) (hx : letter_Bytes.f k 2 0 0 0 0 0 [2147483647] [] = some X) (hd : decide (0 < X.length) = !false) :
    Calls Try.prog 8 #[.int .i64 5, .bool false] w fun e w' => e = .returned (.bool true) ∧ Below w.heap.size w w' := by
  have hu45 := Try.underlying45
  have LV := Aside0.mk hlv
  have HX := Aside0.mk hx
  have HB := Aside0.mk (Below.refl w.heap.size w)
  have hp1 : 0 < X.length := of_decide_eq_true hd
  have hp2 : 0 < (X.length : Int) := by omega
  clear hx hlv hd
  go_enter Try.func8, Try.ntmps8
  go_upto_region 8 with (first | (go_at_call 18; (with_reducible refine (alive.calls k LB_ lv LV.out _).mono ?_); rintro e w1 ⟨rfl, hb_⟩; replace HB := Aside0.mk (belt hb_); clear hb_) | ((with_reducible refine gate_dst (N := 7) rfl ?_); refine box_event ?hg (N := 7) ?hd (cs := #[.int .i64 0, .int .i64 0, .int .i64 0, .int .i64 0, .int .i64 0, .int .i64 0, .slice none 0 0, .slice none 0 0]) (t := 45) ?hr ?_; (case hd => rfl); (case hg => rfl); (case hr => first | (go_simp; done) | (go_simp; rfl)); intro gb hg w2 hbox hb; have GB := Aside0.mk (by rw [hg]; exact bels : w.heap.size ≤ gb); replace HB := Aside0.mk (belt hb); have BX := Aside0.mk hbox; obtain ⟨hz0, hz1, hz2, hz3, hz4, hz5, hz6, hz7⟩ := box8 hbox; obtain ⟨hf0, hf1, hf2, hf3, hf4, hf5, hf6, hf7⟩ := frz8 hbox; clear hbox hb hg))
  have HB_ := Aside0.mk (show Below w.heap.size w (((((((((w2.setCell ⟨gb, 0, none⟩ (.int .i64 2)).setCell ⟨gb, 1, none⟩ (.int .i64 0)).setCell ⟨gb, 2, none⟩ (.int .i64 0)).setCell ⟨gb, 3, none⟩ (.int .i64 0)).setCell ⟨gb, 4, none⟩ (.int .i64 0)).setCell ⟨gb, 5, none⟩ (.int .i64 0)).setCell ⟨gb, 6, none⟩ (.slice none 0 0)).setCell ⟨gb, 7, none⟩ (.slice none 0 0))) from bel8 HB.out GB.out)
  have BX_ := Aside0.mk (show (((((((((w2.setCell ⟨gb, 0, none⟩ (.int .i64 2)).setCell ⟨gb, 1, none⟩ (.int .i64 0)).setCell ⟨gb, 2, none⟩ (.int .i64 0)).setCell ⟨gb, 3, none⟩ (.int .i64 0)).setCell ⟨gb, 4, none⟩ (.int .i64 0)).setCell ⟨gb, 5, none⟩ (.int .i64 0)).setCell ⟨gb, 6, none⟩ (.slice none 0 0)).setCell ⟨gb, 7, none⟩ (.slice none 0 0))).heap[gb]? = some (.cells #[.int .i64 2, .int .i64 0, .int .i64 0, .int .i64 0, .int .i64 0, .int .i64 0, .slice none 0 0, .slice none 0 0] 45 (0, 0)) from set8 BX.out)
  clear hz0 hz1 hz2 hz3 hz4 hz5 hz6 hz7 hf0 hf1 hf2 hf3 hf4 hf5 hf6 hf7
  clear HB BX
  generalize ((((((((w2.setCell ⟨gb, 0, none⟩ (.int .i64 2)).setCell ⟨gb, 1, none⟩ (.int .i64 0)).setCell ⟨gb, 2, none⟩ (.int .i64 0)).setCell ⟨gb, 3, none⟩ (.int .i64 0)).setCell ⟨gb, 4, none⟩ (.int .i64 0)).setCell ⟨gb, 5, none⟩ (.int .i64 0)).setCell ⟨gb, 6, none⟩ (.slice none 0 0)).setCell ⟨gb, 7, none⟩ (.slice none 0 0)) = w3 at HB_ BX_ ⊢
  have HB := HB_
  have BX := BX_
  clear HB_ BX_
  obtain ⟨hz0, hz1, hz2, hz3, hz4, hz5, hz6, hz7⟩ := box8 BX.out; obtain ⟨hf0, hf1, hf2, hf3, hf4, hf5, hf6, hf7⟩ := frz8 BX.out
  go_upto_region 25 with ((with_reducible refine gate_dst (N := 67) rfl ?_); refine Kd.R_lit (Kd.int .i64) _ 3 ?hg (N := 67) ?hd (xs := ([2147483647] : List Int)) (inner := [.int .i64 2147483647]) (ok := fun _ => True) (okp := fun _ => True) ?hr ?hp (fun _ hk => hk) trivial (Below.refl _ _) (Nat.le_refl _) (by simp) ?_; (case hd => rfl); (case hg => rfl); (case hr => first | (go_simp; done) | (go_simp; rfl)); (case hp => exact Reps.one (show Kd.M (Kd.int .i64) _ _ _ 2147483647 [.int .i64 2147483647] from rfl) (Reps.none _ _)); intro vm w4 ho hb hg_ hnew_; obtain ⟨Am, cm, rfl, lm_, Cm_⟩ := Kd.R_reads ho; have LM := Aside0.mk lm_; have CM := Aside0.mk Cm_; replace HB := Aside0.mk (belt hb); replace BX := Aside0.mk (blk_below BX.out hb); clear hz0 hz1 hz2 hz3 hz4 hz5 hz6 hz7 hf0 hf1 hf2 hf3 hf4 hf5 hf6 hf7; obtain ⟨hz0, hz1, hz2, hz3, hz4, hz5, hz6, hz7⟩ := box8 BX.out; obtain ⟨hf0, hf1, hf2, hf3, hf4, hf5, hf6, hf7⟩ := frz8 BX.out; have HO := Aside0.mk ho; clear ho hb hg_ hnew_ lm_ Cm_)
  have HB_ := Aside0.mk (show Below w.heap.size w (w4.setCell ⟨gb, 6, none⟩ (.slice Am ([2147483647] : List Int).length cm)) from below_set HB.out GB.out)
  have BX_ := Aside0.mk (show (w4.setCell ⟨gb, 6, none⟩ (.slice Am ([2147483647] : List Int).length cm)).heap[gb]? = some (.cells #[.int .i64 2, .int .i64 0, .int .i64 0, .int .i64 0, .int .i64 0, .int .i64 0, .slice Am ([2147483647] : List Int).length cm, .slice none 0 0] 45 (0, 0)) from blk_put BX.out 6 _ rfl)
  have CM5_ := Aside0.mk (show (Kd.int .i64).C (w4.setCell ⟨gb, 6, none⟩ (.slice Am ([2147483647] : List Int).length cm)) Am _ _ from (Kd.R_reads' (Kd.R_set HO.out BX.out (by decide) 6 (.slice Am ([2147483647] : List Int).length cm))).2.2)
  clear hz0 hz1 hz2 hz3 hz4 hz5 hz6 hz7 hf0 hf1 hf2 hf3 hf4 hf5 hf6 hf7
  clear HB BX
  generalize (w4.setCell ⟨gb, 6, none⟩ (.slice Am ([2147483647] : List Int).length cm)) = w5 at HB_ BX_ CM5_ ⊢
  have HB := HB_
  have BX := BX_
  clear HB_ BX_
  obtain ⟨hz0, hz1, hz2, hz3, hz4, hz5, hz6, hz7⟩ := box8 BX.out; obtain ⟨hf0, hf1, hf2, hf3, hf4, hf5, hf6, hf7⟩ := frz8 BX.out
  go_wp2_with (go_at_call 20; (refine (letter_Bytes.calls k 2 0 0 0 0 0 Am cm [2147483647] none 0 [] X _ CM5_.out LM.out (Kd.C_nil _ _) (Nat.le_refl _) HX.out).mono ?_); rintro e w6 ⟨vb, rfl, ho_, hb_⟩; obtain ⟨Ab, cb, rfl, _, _⟩ := Kd.R_reads ho_; replace HB := Aside0.mk (belt hb_); clear ho_ hb_)
  go_ret
  exact ⟨by first | rfl | simp [*], bel⟩
theorem case51 (k : Nat) (LB_ : List Int) (lv : Nat → Int) (X : List Int) (w : World) (hlv : Live k LB_ lv) (hx : letter_Bytes.f k 2 0 0 0 0 0 [2147483648] [] = some X) (hd : decide (0 < X.length) = !true) :
    Calls Try.prog 8 #[.int .i64 5, .bool true] w fun e w' => e = .returned (.bool true) ∧ Below w.heap.size w w' := by
  have hu45 := Try.underlying45
  have LV := Aside0.mk hlv
  have HX := Aside0.mk hx
  have HB := Aside0.mk (Below.refl w.heap.size w)
  obtain rfl : X = [] := by cases X with
    | nil => rfl
    | cons _ _ => simp at hd
  clear hx hlv hd
  go_enter Try.func8, Try.ntmps8
  go_upto_region 8 with (first | (go_at_call 18; (with_reducible refine (alive.calls k LB_ lv LV.out _).mono ?_); rintro e w1 ⟨rfl, hb_⟩; replace HB := Aside0.mk (belt hb_); clear hb_) | ((with_reducible refine gate_dst (N := 7) rfl ?_); refine box_event ?hg (N := 7) ?hd (cs := #[.int .i64 0, .int .i64 0, .int .i64 0, .int .i64 0, .int .i64 0, .int .i64 0, .slice none 0 0, .slice none 0 0]) (t := 45) ?hr ?_; (case hd => rfl); (case hg => rfl); (case hr => first | (go_simp; done) | (go_simp; rfl)); intro gb hg w2 hbox hb; have GB := Aside0.mk (by rw [hg]; exact bels : w.heap.size ≤ gb); replace HB := Aside0.mk (belt hb); have BX := Aside0.mk hbox; obtain ⟨hz0, hz1, hz2, hz3, hz4, hz5, hz6, hz7⟩ := box8 hbox; obtain ⟨hf0, hf1, hf2, hf3, hf4, hf5, hf6, hf7⟩ := frz8 hbox; clear hbox hb hg))
  have HB_ := Aside0.mk (show Below w.heap.size w (((((((((w2.setCell ⟨gb, 0, none⟩ (.int .i64 2)).setCell ⟨gb, 1, none⟩ (.int .i64 0)).setCell ⟨gb, 2, none⟩ (.int .i64 0)).setCell ⟨gb, 3, none⟩ (.int .i64 0)).setCell ⟨gb, 4, none⟩ (.int .i64 0)).setCell ⟨gb, 5, none⟩ (.int .i64 0)).setCell ⟨gb, 6, none⟩ (.slice none 0 0)).setCell ⟨gb, 7, none⟩ (.slice none 0 0))) from bel8 HB.out GB.out)
  have BX_ := Aside0.mk (show (((((((((w2.setCell ⟨gb, 0, none⟩ (.int .i64 2)).setCell ⟨gb, 1, none⟩ (.int .i64 0)).setCell ⟨gb, 2, none⟩ (.int .i64 0)).setCell ⟨gb, 3, none⟩ (.int .i64 0)).setCell ⟨gb, 4, none⟩ (.int .i64 0)).setCell ⟨gb, 5, none⟩ (.int .i64 0)).setCell ⟨gb, 6, none⟩ (.slice none 0 0)).setCell ⟨gb, 7, none⟩ (.slice none 0 0))).heap[gb]? = some (.cells #[.int .i64 2, .int .i64 0, .int .i64 0, .int .i64 0, .int .i64 0, .int .i64 0, .slice none 0 0, .slice none 0 0] 45 (0, 0)) from set8 BX.out)
  clear hz0 hz1 hz2 hz3 hz4 hz5 hz6 hz7 hf0 hf1 hf2 hf3 hf4 hf5 hf6 hf7
  clear HB BX
  generalize ((((((((w2.setCell ⟨gb, 0, none⟩ (.int .i64 2)).setCell ⟨gb, 1, none⟩ (.int .i64 0)).setCell ⟨gb, 2, none⟩ (.int .i64 0)).setCell ⟨gb, 3, none⟩ (.int .i64 0)).setCell ⟨gb, 4, none⟩ (.int .i64 0)).setCell ⟨gb, 5, none⟩ (.int .i64 0)).setCell ⟨gb, 6, none⟩ (.slice none 0 0)).setCell ⟨gb, 7, none⟩ (.slice none 0 0)) = w3 at HB_ BX_ ⊢
  have HB := HB_
  have BX := BX_
  clear HB_ BX_
  obtain ⟨hz0, hz1, hz2, hz3, hz4, hz5, hz6, hz7⟩ := box8 BX.out; obtain ⟨hf0, hf1, hf2, hf3, hf4, hf5, hf6, hf7⟩ := frz8 BX.out
  go_upto_region 25 with ((with_reducible refine gate_dst (N := 67) rfl ?_); refine Kd.R_lit (Kd.int .i64) _ 3 ?hg (N := 67) ?hd (xs := ([2147483648] : List Int)) (inner := [.int .i64 2147483648]) (ok := fun _ => True) (okp := fun _ => True) ?hr ?hp (fun _ hk => hk) trivial (Below.refl _ _) (Nat.le_refl _) (by simp) ?_; (case hd => rfl); (case hg => rfl); (case hr => first | (go_simp; done) | (go_simp; rfl)); (case hp => exact Reps.one (show Kd.M (Kd.int .i64) _ _ _ 2147483648 [.int .i64 2147483648] from rfl) (Reps.none _ _)); intro vm w4 ho hb hg_ hnew_; obtain ⟨Am, cm, rfl, lm_, Cm_⟩ := Kd.R_reads ho; have LM := Aside0.mk lm_; have CM := Aside0.mk Cm_; replace HB := Aside0.mk (belt hb); replace BX := Aside0.mk (blk_below BX.out hb); clear hz0 hz1 hz2 hz3 hz4 hz5 hz6 hz7 hf0 hf1 hf2 hf3 hf4 hf5 hf6 hf7; obtain ⟨hz0, hz1, hz2, hz3, hz4, hz5, hz6, hz7⟩ := box8 BX.out; obtain ⟨hf0, hf1, hf2, hf3, hf4, hf5, hf6, hf7⟩ := frz8 BX.out; have HO := Aside0.mk ho; clear ho hb hg_ hnew_ lm_ Cm_)
  have HB_ := Aside0.mk (show Below w.heap.size w (w4.setCell ⟨gb, 6, none⟩ (.slice Am ([2147483648] : List Int).length cm)) from below_set HB.out GB.out)
  have BX_ := Aside0.mk (show (w4.setCell ⟨gb, 6, none⟩ (.slice Am ([2147483648] : List Int).length cm)).heap[gb]? = some (.cells #[.int .i64 2, .int .i64 0, .int .i64 0, .int .i64 0, .int .i64 0, .int .i64 0, .slice Am ([2147483648] : List Int).length cm, .slice none 0 0] 45 (0, 0)) from blk_put BX.out 6 _ rfl)
  have CM5_ := Aside0.mk (show (Kd.int .i64).C (w4.setCell ⟨gb, 6, none⟩ (.slice Am ([2147483648] : List Int).length cm)) Am _ _ from (Kd.R_reads' (Kd.R_set HO.out BX.out (by decide) 6 (.slice Am ([2147483648] : List Int).length cm))).2.2)
  clear hz0 hz1 hz2 hz3 hz4 hz5 hz6 hz7 hf0 hf1 hf2 hf3 hf4 hf5 hf6 hf7
  clear HB BX
  generalize (w4.setCell ⟨gb, 6, none⟩ (.slice Am ([2147483648] : List Int).length cm)) = w5 at HB_ BX_ CM5_ ⊢
  have HB := HB_
  have BX := BX_
  clear HB_ BX_
  obtain ⟨hz0, hz1, hz2, hz3, hz4, hz5, hz6, hz7⟩ := box8 BX.out; obtain ⟨hf0, hf1, hf2, hf3, hf4, hf5, hf6, hf7⟩ := frz8 BX.out
  go_wp2_with (go_at_call 20; (refine (letter_Bytes.calls k 2 0 0 0 0 0 Am cm [2147483648] none 0 [] [] _ CM5_.out LM.out (Kd.C_nil _ _) (Nat.le_refl _) HX.out).mono ?_); rintro e w6 ⟨vb, rfl, ho_, hb_⟩; obtain ⟨Ab, cb, rfl, _, _⟩ := Kd.R_reads ho_; replace HB := Aside0.mk (belt hb_); clear ho_ hb_)
  go_ret
  exact ⟨by first | rfl | simp [*], bel⟩
theorem case60 (k : Nat) (LB_ : List Int) (lv : Nat → Int) (X : List Int) (w : World) (hlv : Live k LB_ lv) (hx : letter_Bytes.f k 2 0 0 0 0 0 [] (List.replicate 255 rec1) = some X) (hd : decide (0 < X.length) = !false) :
    Calls Try.prog 8 #[.int .i64 6, .bool false] w fun e w' => e = .returned (.bool true) ∧ Below w.heap.size w w' := by
  have hu45 := Try.underlying45
  have LV := Aside0.mk hlv
  obtain ⟨ms, hms⟩ : ∃ ms, (List.replicate 255 rec1) = ms := ⟨_, rfl⟩
  rw [hms] at hx
  have MS := Aside0.mk hms
  clear hms
  have HX := Aside0.mk hx
  have HB := Aside0.mk (Below.refl w.heap.size w)
  have hp1 : 0 < X.length := of_decide_eq_true hd
  have hp2 : 0 < (X.length : Int) := by omega
  clear hx hlv hd
  go_enter Try.func8, Try.ntmps8
  go_upto_region 8 with (first | (go_at_call 18; (with_reducible refine (alive.calls k LB_ lv LV.out _).mono ?_); rintro e w1 ⟨rfl, hb_⟩; replace HB := Aside0.mk (belt hb_); clear hb_) | ((with_reducible refine gate_dst (N := 7) rfl ?_); refine box_event ?hg (N := 7) ?hd (cs := #[.int .i64 0, .int .i64 0, .int .i64 0, .int .i64 0, .int .i64 0, .int .i64 0, .slice none 0 0, .slice none 0 0]) (t := 45) ?hr ?_; (case hd => rfl); (case hg => rfl); (case hr => first | (go_simp; done) | (go_simp; rfl)); intro gb hg w2 hbox hb; have GB := Aside0.mk (by rw [hg]; exact bels : w.heap.size ≤ gb); replace HB := Aside0.mk (belt hb); have BX := Aside0.mk hbox; obtain ⟨hz0, hz1, hz2, hz3, hz4, hz5, hz6, hz7⟩ := box8 hbox; obtain ⟨hf0, hf1, hf2, hf3, hf4, hf5, hf6, hf7⟩ := frz8 hbox; clear hbox hb hg))
  have HB_ := Aside0.mk (show Below w.heap.size w (((((((((w2.setCell ⟨gb, 0, none⟩ (.int .i64 2)).setCell ⟨gb, 1, none⟩ (.int .i64 0)).setCell ⟨gb, 2, none⟩ (.int .i64 0)).setCell ⟨gb, 3, none⟩ (.int .i64 0)).setCell ⟨gb, 4, none⟩ (.int .i64 0)).setCell ⟨gb, 5, none⟩ (.int .i64 0)).setCell ⟨gb, 6, none⟩ (.slice none 0 0)).setCell ⟨gb, 7, none⟩ (.slice none 0 0))) from bel8 HB.out GB.out)
  have BX_ := Aside0.mk (show (((((((((w2.setCell ⟨gb, 0, none⟩ (.int .i64 2)).setCell ⟨gb, 1, none⟩ (.int .i64 0)).setCell ⟨gb, 2, none⟩ (.int .i64 0)).setCell ⟨gb, 3, none⟩ (.int .i64 0)).setCell ⟨gb, 4, none⟩ (.int .i64 0)).setCell ⟨gb, 5, none⟩ (.int .i64 0)).setCell ⟨gb, 6, none⟩ (.slice none 0 0)).setCell ⟨gb, 7, none⟩ (.slice none 0 0))).heap[gb]? = some (.cells #[.int .i64 2, .int .i64 0, .int .i64 0, .int .i64 0, .int .i64 0, .int .i64 0, .slice none 0 0, .slice none 0 0] 45 (0, 0)) from set8 BX.out)
  clear hz0 hz1 hz2 hz3 hz4 hz5 hz6 hz7 hf0 hf1 hf2 hf3 hf4 hf5 hf6 hf7
  clear HB BX
  generalize ((((((((w2.setCell ⟨gb, 0, none⟩ (.int .i64 2)).setCell ⟨gb, 1, none⟩ (.int .i64 0)).setCell ⟨gb, 2, none⟩ (.int .i64 0)).setCell ⟨gb, 3, none⟩ (.int .i64 0)).setCell ⟨gb, 4, none⟩ (.int .i64 0)).setCell ⟨gb, 5, none⟩ (.int .i64 0)).setCell ⟨gb, 6, none⟩ (.slice none 0 0)).setCell ⟨gb, 7, none⟩ (.slice none 0 0)) = w3 at HB_ BX_ ⊢
  have HB := HB_
  have BX := BX_
  clear HB_ BX_
  obtain ⟨hz0, hz1, hz2, hz3, hz4, hz5, hz6, hz7⟩ := box8 BX.out; obtain ⟨hf0, hf1, hf2, hf3, hf4, hf5, hf6, hf7⟩ := frz8 BX.out
  have SN := Aside0.mk (Kd.S_nil k28 28 w3 w.heap.size (fun _ => True))
  go_wp2
  go_loopg [8] 255 (fun gg v8 wr_ => ∃ (i : Nat) (u : Value), v8 = .int .i64 (i : Int) ∧ Aside0 (i + gg = 255) ∧ Aside0 (wr_.heap[gb]? = some (.cells #[.int .i64 2, .int .i64 0, .int .i64 0, .int .i64 0, .int .i64 0, .int .i64 0, .slice none 0 0, u] 45 (0, 0))) ∧ Aside0 (Kd.S k28 28 wr_ w.heap.size (fun _ => True) u (List.replicate i rec1)) ∧ Aside0 (Below w.heap.size w wr_))
  case atStart => exact ⟨0, .slice none 0 0, by simp, ⟨Nat.zero_add _⟩, ⟨BX.out⟩, ⟨SN.out⟩, ⟨HB.out⟩⟩
  case round =>
    clear hz0 hz1 hz2 hz3 hz4 hz5 hz6 hz7 hf0 hf1 hf2 hf3 hf4 hf5 hf6 hf7
    clear BX HB SN
    obtain ⟨i, u, rfl, E1, BX, SU, HB⟩ := hrel
    obtain ⟨hz0, hz1, hz2, hz3, hz4, hz5, hz6, hz7⟩ := box8 BX.out; obtain ⟨hf0, hf1, hf2, hf3, hf4, hf5, hf6, hf7⟩ := frz8 BX.out
    cases gk with
    | succ d =>
      have hlt : (i : Int) < 255 := by have := E1.out; omega
      go_wp2_with ((with_reducible refine gate_builtin (b := .append) (xs := #[.tmp 31, .tmp 34]) rfl ?_); at_builtin; refine Kd.S_append k28 (w0 := w) w.heap.size rfl (.tmp 31) (.tmp 34) 43 28 (.agg #[(.int .i64 0), (.int .i64 0), (.int .i64 0), (.int .i64 0), (.int .i64 0), (.int .i64 0), (.int .i64 0), (.bool false), (.int .i64 0), (.slice none 0 0)]) 96 rfl Try.underlying43 info28 rfl (by decide) (by omega) u (List.replicate i rec1) rec1 [.int .i64 0, .int .i64 1, .int .i64 0, .int .i64 0, .int .i64 0, .int .i64 0, .int .i64 0, .bool true, .int .i64 0, .slice none 0 0] (fun _ => True) (fun _ => False) rfl rfl ?aP (fun _ hk => hk.elim) ?aF ?aO ?aB ?aS ?aL ?_; (case aP => exact k28_mkM _ _ _ rec1 (Kd.R_nil _ _ _ _ _)); (case aB => exact bel); (case aF => exact (fun _ _ => trivial)); (case aO => exact (S_g (Kd.S_mono SU.out (fun _ _ => ⟨trivial, fun h => h⟩)))); (case aS => exact bels); (case aL => rw [List.length_replicate]; omega); intro u' w7 ho hb hg hat; replace BX := Aside0.mk (blk_grown (blk_g BX.out) hg (Kd.S_ne SU.out BX.out (by decide))); replace SU := Aside0.mk ho; replace HB := Aside0.mk hb; clear hz0 hz1 hz2 hz3 hz4 hz5 hz6 hz7 hf0 hf1 hf2 hf3 hf4 hf5 hf6 hf7; obtain ⟨hz0, hz1, hz2, hz3, hz4, hz5, hz6, hz7⟩ := box8 BX.out; obtain ⟨hf0, hf1, hf2, hf3, hf4, hf5, hf6, hf7⟩ := frz8 BX.out; obtain ⟨As, cs, rfl, _, _⟩ := Kd.S_reads ho; clear ho hb hg hat)
      go_roundg d
      case measure => omega
      case rel => exact ⟨i + 1, _, by go_num, ⟨by have := E1.out; omega⟩, ⟨blk_put BX.out 7 _ rfl⟩, ⟨by have hS := Kd.S_set SU.out BX.out (by decide) 7 (.slice As (i + 1) cs); rw [show (List.replicate i rec1 ++ [rec1]).length = i + 1 from by simp] at hS; rw [List.replicate_succ']; exact hS⟩, ⟨below_set HB.out GB.out⟩⟩
    | zero =>
      obtain rfl : i = 255 := by have := E1.out; omega
      obtain ⟨Ar, cr, rfl, lr_, Cr_⟩ := Kd.S_reads SU.out
      rw [MS.out] at lr_ Cr_
      have LR := Aside0.mk lr_
      have CR := Aside0.mk Cr_
      clear lr_ Cr_ SU E1
      rw [MS.out] at hz7
      go_wp2_with (go_at_call 20; (refine (letter_Bytes.calls k 2 0 0 0 0 0 none 0 [] Ar cr ms X _ (Kd.C_nil _ _) (Nat.le_refl _) CR.out LR.out HX.out).mono ?_); rintro e w6 ⟨vb, rfl, ho_, hb_⟩; obtain ⟨Ab, cb, rfl, _, _⟩ := Kd.R_reads ho_; replace HB := Aside0.mk (belt hb_); clear ho_ hb_)
      go_ret
      exact ⟨by first | rfl | simp [*], bel⟩
theorem case61 (k : Nat) (LB_ : List Int) (lv : Nat → Int) (X : List Int) (w : World) (hlv : Live k LB_ lv) (hx : letter_Bytes.f k 2 0 0 0 0 0 [] (List.replicate 256 rec1) = some X) (hd : decide (0 < X.length) = !true) :
    Calls Try.prog 8 #[.int .i64 6, .bool true] w fun e w' => e = .returned (.bool true) ∧ Below w.heap.size w w' := by
  have hu45 := Try.underlying45
  have LV := Aside0.mk hlv
  obtain ⟨ms, hms⟩ : ∃ ms, (List.replicate 256 rec1) = ms := ⟨_, rfl⟩
  rw [hms] at hx
  have MS := Aside0.mk hms
  clear hms
  have HX := Aside0.mk hx
  have HB := Aside0.mk (Below.refl w.heap.size w)
  obtain rfl : X = [] := by cases X with
    | nil => rfl
    | cons _ _ => simp at hd
  clear hx hlv hd
  go_enter Try.func8, Try.ntmps8
  go_upto_region 8 with (first | (go_at_call 18; (with_reducible refine (alive.calls k LB_ lv LV.out _).mono ?_); rintro e w1 ⟨rfl, hb_⟩; replace HB := Aside0.mk (belt hb_); clear hb_) | ((with_reducible refine gate_dst (N := 7) rfl ?_); refine box_event ?hg (N := 7) ?hd (cs := #[.int .i64 0, .int .i64 0, .int .i64 0, .int .i64 0, .int .i64 0, .int .i64 0, .slice none 0 0, .slice none 0 0]) (t := 45) ?hr ?_; (case hd => rfl); (case hg => rfl); (case hr => first | (go_simp; done) | (go_simp; rfl)); intro gb hg w2 hbox hb; have GB := Aside0.mk (by rw [hg]; exact bels : w.heap.size ≤ gb); replace HB := Aside0.mk (belt hb); have BX := Aside0.mk hbox; obtain ⟨hz0, hz1, hz2, hz3, hz4, hz5, hz6, hz7⟩ := box8 hbox; obtain ⟨hf0, hf1, hf2, hf3, hf4, hf5, hf6, hf7⟩ := frz8 hbox; clear hbox hb hg))
  have HB_ := Aside0.mk (show Below w.heap.size w (((((((((w2.setCell ⟨gb, 0, none⟩ (.int .i64 2)).setCell ⟨gb, 1, none⟩ (.int .i64 0)).setCell ⟨gb, 2, none⟩ (.int .i64 0)).setCell ⟨gb, 3, none⟩ (.int .i64 0)).setCell ⟨gb, 4, none⟩ (.int .i64 0)).setCell ⟨gb, 5, none⟩ (.int .i64 0)).setCell ⟨gb, 6, none⟩ (.slice none 0 0)).setCell ⟨gb, 7, none⟩ (.slice none 0 0))) from bel8 HB.out GB.out)
  have BX_ := Aside0.mk (show (((((((((w2.setCell ⟨gb, 0, none⟩ (.int .i64 2)).setCell ⟨gb, 1, none⟩ (.int .i64 0)).setCell ⟨gb, 2, none⟩ (.int .i64 0)).setCell ⟨gb, 3, none⟩ (.int .i64 0)).setCell ⟨gb, 4, none⟩ (.int .i64 0)).setCell ⟨gb, 5, none⟩ (.int .i64 0)).setCell ⟨gb, 6, none⟩ (.slice none 0 0)).setCell ⟨gb, 7, none⟩ (.slice none 0 0))).heap[gb]? = some (.cells #[.int .i64 2, .int .i64 0, .int .i64 0, .int .i64 0, .int .i64 0, .int .i64 0, .slice none 0 0, .slice none 0 0] 45 (0, 0)) from set8 BX.out)
  clear hz0 hz1 hz2 hz3 hz4 hz5 hz6 hz7 hf0 hf1 hf2 hf3 hf4 hf5 hf6 hf7
  clear HB BX
  generalize ((((((((w2.setCell ⟨gb, 0, none⟩ (.int .i64 2)).setCell ⟨gb, 1, none⟩ (.int .i64 0)).setCell ⟨gb, 2, none⟩ (.int .i64 0)).setCell ⟨gb, 3, none⟩ (.int .i64 0)).setCell ⟨gb, 4, none⟩ (.int .i64 0)).setCell ⟨gb, 5, none⟩ (.int .i64 0)).setCell ⟨gb, 6, none⟩ (.slice none 0 0)).setCell ⟨gb, 7, none⟩ (.slice none 0 0)) = w3 at HB_ BX_ ⊢
  have HB := HB_
  have BX := BX_
  clear HB_ BX_
  obtain ⟨hz0, hz1, hz2, hz3, hz4, hz5, hz6, hz7⟩ := box8 BX.out; obtain ⟨hf0, hf1, hf2, hf3, hf4, hf5, hf6, hf7⟩ := frz8 BX.out
  have SN := Aside0.mk (Kd.S_nil k28 28 w3 w.heap.size (fun _ => True))
  go_wp2
  go_loopg [8] 256 (fun gg v8 wr_ => ∃ (i : Nat) (u : Value), v8 = .int .i64 (i : Int) ∧ Aside0 (i + gg = 256) ∧ Aside0 (wr_.heap[gb]? = some (.cells #[.int .i64 2, .int .i64 0, .int .i64 0, .int .i64 0, .int .i64 0, .int .i64 0, .slice none 0 0, u] 45 (0, 0))) ∧ Aside0 (Kd.S k28 28 wr_ w.heap.size (fun _ => True) u (List.replicate i rec1)) ∧ Aside0 (Below w.heap.size w wr_))
  case atStart => exact ⟨0, .slice none 0 0, by simp, ⟨Nat.zero_add _⟩, ⟨BX.out⟩, ⟨SN.out⟩, ⟨HB.out⟩⟩
  case round =>
    clear hz0 hz1 hz2 hz3 hz4 hz5 hz6 hz7 hf0 hf1 hf2 hf3 hf4 hf5 hf6 hf7
    clear BX HB SN
    obtain ⟨i, u, rfl, E1, BX, SU, HB⟩ := hrel
    obtain ⟨hz0, hz1, hz2, hz3, hz4, hz5, hz6, hz7⟩ := box8 BX.out; obtain ⟨hf0, hf1, hf2, hf3, hf4, hf5, hf6, hf7⟩ := frz8 BX.out
    cases gk with
    | succ d =>
      have hlt : (i : Int) < 256 := by have := E1.out; omega
      go_wp2_with ((with_reducible refine gate_builtin (b := .append) (xs := #[.tmp 31, .tmp 34]) rfl ?_); at_builtin; refine Kd.S_append k28 (w0 := w) w.heap.size rfl (.tmp 31) (.tmp 34) 43 28 (.agg #[(.int .i64 0), (.int .i64 0), (.int .i64 0), (.int .i64 0), (.int .i64 0), (.int .i64 0), (.int .i64 0), (.bool false), (.int .i64 0), (.slice none 0 0)]) 96 rfl Try.underlying43 info28 rfl (by decide) (by omega) u (List.replicate i rec1) rec1 [.int .i64 0, .int .i64 1, .int .i64 0, .int .i64 0, .int .i64 0, .int .i64 0, .int .i64 0, .bool true, .int .i64 0, .slice none 0 0] (fun _ => True) (fun _ => False) rfl rfl ?aP (fun _ hk => hk.elim) ?aF ?aO ?aB ?aS ?aL ?_; (case aP => exact k28_mkM _ _ _ rec1 (Kd.R_nil _ _ _ _ _)); (case aB => exact bel); (case aF => exact (fun _ _ => trivial)); (case aO => exact (S_g (Kd.S_mono SU.out (fun _ _ => ⟨trivial, fun h => h⟩)))); (case aS => exact bels); (case aL => rw [List.length_replicate]; omega); intro u' w7 ho hb hg hat; replace BX := Aside0.mk (blk_grown (blk_g BX.out) hg (Kd.S_ne SU.out BX.out (by decide))); replace SU := Aside0.mk ho; replace HB := Aside0.mk hb; clear hz0 hz1 hz2 hz3 hz4 hz5 hz6 hz7 hf0 hf1 hf2 hf3 hf4 hf5 hf6 hf7; obtain ⟨hz0, hz1, hz2, hz3, hz4, hz5, hz6, hz7⟩ := box8 BX.out; obtain ⟨hf0, hf1, hf2, hf3, hf4, hf5, hf6, hf7⟩ := frz8 BX.out; obtain ⟨As, cs, rfl, _, _⟩ := Kd.S_reads ho; clear ho hb hg hat)
      go_roundg d
      case measure => omega
      case rel => exact ⟨i + 1, _, by go_num, ⟨by have := E1.out; omega⟩, ⟨blk_put BX.out 7 _ rfl⟩, ⟨by have hS := Kd.S_set SU.out BX.out (by decide) 7 (.slice As (i + 1) cs); rw [show (List.replicate i rec1 ++ [rec1]).length = i + 1 from by simp] at hS; rw [List.replicate_succ']; exact hS⟩, ⟨below_set HB.out GB.out⟩⟩
    | zero =>
      obtain rfl : i = 256 := by have := E1.out; omega
      obtain ⟨Ar, cr, rfl, lr_, Cr_⟩ := Kd.S_reads SU.out
      rw [MS.out] at lr_ Cr_
      have LR := Aside0.mk lr_
      have CR := Aside0.mk Cr_
      clear lr_ Cr_ SU E1
      rw [MS.out] at hz7
      go_wp2_with (go_at_call 20; (refine (letter_Bytes.calls k 2 0 0 0 0 0 none 0 [] Ar cr ms [] _ (Kd.C_nil _ _) (Nat.le_refl _) CR.out LR.out HX.out).mono ?_); rintro e w6 ⟨vb, rfl, ho_, hb_⟩; obtain ⟨Ab, cb, rfl, _, _⟩ := Kd.R_reads ho_; replace HB := Aside0.mk (belt hb_); clear ho_ hb_)
      go_ret
      exact ⟨by first | rfl | simp [*], bel⟩
theorem fountainlaw22_LetterLimits.calls (k : Nat) (a0 : Int) (a1 : Bool) (r : Bool) (w : World) (h : fountainlaw22_LetterLimits.f k a0 a1 = some r) :
    Calls Try.prog 8 #[.int .i64 a0, .bool a1] w fun e w' => e = .returned (.bool r) ∧ Below w.heap.size w w' := by
  unfold fountainlaw22_LetterLimits.f at h
  by_cases hy : Hyp k a0 a1
  rotate_left
  · rw [if_neg hy] at h; cases h
  rw [if_pos hy] at h
  obtain rfl : true = r := Option.some.inj h
  obtain ⟨⟨LB_, lv, hlv⟩, hy⟩ := hy
  have LV := Aside0.mk hlv
  clear h
  by_cases q1 : a0 < 0
  · have HB := Aside0.mk (Below.refl w.heap.size w)
    clear hy hlv
    go_enter Try.func8, Try.ntmps8
    go_wp2_with (go_at_call 18; (with_reducible refine (alive.calls k LB_ lv LV.out _).mono ?_); rintro e w1 ⟨rfl, hb_⟩; replace HB := Aside0.mk (belt hb_); clear hb_)
    go_ret
    exact ⟨rfl, bel⟩
  by_cases q2 : 6 < a0
  · have HB := Aside0.mk (Below.refl w.heap.size w)
    clear hy hlv
    go_enter Try.func8, Try.ntmps8
    go_wp2_with (go_at_call 18; (with_reducible refine (alive.calls k LB_ lv LV.out _).mono ?_); rintro e w1 ⟨rfl, hb_⟩; replace HB := Aside0.mk (belt hb_); clear hb_)
    go_ret
    exact ⟨rfl, bel⟩
  rcases hy with hy | hy | ⟨i, hi, rfl, X, hx, hd⟩
  · exact absurd hy q1
  · exact absurd hy q2
  clear q1 q2
  rcases (by omega : i = 0 ∨ i = 1 ∨ i = 2 ∨ i = 3 ∨ i = 4 ∨ i = 5 ∨ i = 6) with rfl | rfl | rfl | rfl | rfl | rfl | rfl <;> cases a1
  · exact case00 k LB_ lv X w hlv hx hd
  · exact case01 k LB_ lv X w hlv hx hd
  · exact case10 k LB_ lv X w hlv hx hd
  · exact case11 k LB_ lv X w hlv hx hd
  · exact case20 k LB_ lv X w hlv hx hd
  · exact case21 k LB_ lv X w hlv hx hd
  · exact case30 k LB_ lv X w hlv hx hd
  · exact case31 k LB_ lv X w hlv hx hd
  · exact case40 k LB_ lv X w hlv hx hd
  · exact case41 k LB_ lv X w hlv hx hd
  · exact case50 k LB_ lv X w hlv hx hd
  · exact case51 k LB_ lv X w hlv hx hd
  · exact case60 k LB_ lv X w hlv hx hd
  · exact case61 k LB_ lv X w hlv hx hd
end Go.Proofs.Ytjcfmfdkligmoaa.Ll
