/- fountainlaw11.alive: true, if the program's decode is what the document's example says. Conditions: those that stand in the theorems. -/
import Derived.Test.YtbfhinfblepidaaPd
import Derived.Test.YtbfhinfblepidaaXw
set_option maxHeartbeats 8000000
set_option maxRecDepth 100000
namespace Go.Proofs.Ytbfhinfblepidaa.Da
open Go.RowKit Go.Lib Go.Proofs.Ytbfhinfblepidaa.PSolveTells Go.Proofs.Ytbfhinfblepidaa.PSeedTells Go.Proofs.Ytbfhinfblepidaa.PBlockTells Go.Proofs.Ytbfhinfblepidaa.PDecodeTells Go.Proofs.YtbfhinfblepidaaW.PrintWords Go.Proofs.YtbfhinfblepidaaW.PrintLast Go.Proofs.YtbfhinfblepidaaW.PrintMore Go.Proofs.Ytbfhinfblepidaa.Mt
set_option linter.unusedVariables false
set_option linter.unusedSimpArgs false
theorem C0 (w : World) : (Kd.int .i64).C w none ([] : List Int).length [] := ⟨rfl, by simp, fun h => absurd h (Nat.lt_irrefl 0)⟩
theorem lit_S {w : World} {x : S111} {A : Option Addr} {c : Nat} (hl : x.f1.length ≤ c) (h : RowC w A x.f1) : k111.C (w.alloc (.cells #[.int .i64 x.f0, .slice A x.f1.length c] 111)) (some ⟨w.heap.size, 0, none⟩) [x].length [x] := by
  refine ⟨rfl, by simp, fun _ => ⟨_, rfl, fun j p hj => ?_⟩⟩
  cases j with
  | succ j => simp at hj
  | zero =>
    obtain rfl : x = p := by simpa using hj
    refine ⟨[.int .i64 x.f0, .slice A x.f1.length c], rfl, k111_mk _ x hl (Kd.C_below h (below_alloc (Below.refl _ _) _)), fun i u hu => ?_⟩
    rw [add_at', Nat.zero_mul, Nat.zero_add, Nat.zero_add]
    exact (blk_cell (heap_alloc_new w _) i).trans (by simpa using hu)
theorem alive.calls (w : World) (h1 : Pd.dblock.f 1 1 [⟨0, [97]⟩] = some ([[97]], 0)) (h2 : Pd.denough.f 1 [] = some false) :
    Calls Try.prog 54 #[] w fun e w' => e = .returned (.bool true) ∧ Below w.heap.size w w' := by
  have hu111 := Try.underlying111
  have H1 := zA h1
  have H2 := zA h2
  have HB := zA (Below.refl w.heap.size w)
  clear h1 h2
  go_enter Try.func54, Try.ntmps54
  go_upto_region 2 with (first | ((with_reducible refine gate_dst (N := 4) rfl ?_); refine Kd.R_lit (Kd.int .u8) _ 5 ?hg (N := 4) ?hd (xs := ([97] : List Int)) (inner := [.int .u8 97]) (ok := fun _ => True) (okp := fun _ => True) ?hr ?hp (fun _ hk => hk) trivial (Below.refl _ _) (Nat.le_refl _) (by simp) ?_; (case hd => rfl); (case hg => rfl); (case hr => first | (go_simp; done) | (go_simp; rfl)); (case hp => exact (Reps.one (show Kd.M (Kd.int .u8) _ _ _ 97 [.int .u8 97] from rfl) (Reps.none _ _))); intro v12 w2 ho hb hg_ hnew_; obtain ⟨A0, c0, rfl⟩ := Kd.R_slice ho; obtain ⟨w3, hcv_, hV, hB2, _⟩ := Xw.conv_bytes Try.underlying30 Try.underlying5 ho (by decide); have hcv : (convert 30 30 (.slice A0 1 c0)).run Try.prog w2 = .ok (.slice A0 1 c0) w3 := hcv_; clear hcv_; have CR := zA (Kd.V_reads' hV).2.2; have CL := zA (Kd.V_reads' hV).2.1; have n0_ := zA (below_step HB.out (hb.trans hB2)); clear HB hb hB2 hV ho hg_ hnew_; have HB := n0_; clear n0_) | (go_at_call 55; (refine (Pd.dblock.calls 1 1 _ 1 [⟨0, [97]⟩] [[97]] 0 _ (lit_S (x := ⟨0, [97]⟩) CL.out CR.out) (Nat.le_refl _) H1.out).mono ?_); rintro e w4 ⟨v, rfl, ho_, hb⟩; obtain ⟨A5, c5, rfl, l5_, C5_⟩ := Kd.R_reads (Kd.S_R ho_); have C5 := zA C5_; have n0_ := zA (below_step (show Below w.heap.size w _ from bel) hb); clear HB hb ho_ C5_ l5_ hcv; have HB := n0_; clear n0_))
  obtain ⟨ad, A6, c6, e, x0, l6_, C6_⟩ := Cf.at_L1 C5.out 0 (by decide) (by decide)
  cases e
  have X0 := zA (show w4.cell? ad = some (.slice A6 [97].length c6) from x0)
  have C6 := zA (show RowC w4 A6 [97] from C6_)
  clear x0 l6_ C6_
  go_wp2_with (first | (go_at_call 59; (refine (Pd.denough.calls 1 none 0 [] false _ (C0 _) (Nat.le_refl _) H2.out).mono ?_); rintro e w6 ⟨rfl, hb⟩; have n0_ := zA (below_step HB.out hb); have n1_ := zA ((hb.cell (World.block_lt_of_cell? w4 _ X0.out)).trans X0.out); have n2_ := zA (Kd.C_below C6.out hb); clear HB hb X0 C6; have HB := n0_; have X0 := n1_; have C6 := n2_; clear n0_ n1_ n2_; have x0 : w6.cell? ad = some (.slice A6 1 c6) := X0.out; have hcv9n : ∀ m_ : Nat, (convert 31 9 (.slice A6 1 c6)).run Try.prog (w6.drewN m_) = .ok (.string ⟨#[97]⟩) (w6.drewN m_) := fun m_ => Kd.C_string (P := Try.prog) (A := A6) (c := c6) Try.underlying31 Try.underlying5 Try.underlying9 (Kd.C_drewN C6.out m_)) | (go_at_call 58; (try (refine gate_guard (by rfl) ?_; dsimp only)); (with_reducible refine (fountainlaw11_num.calls 0 0 _ rfl).mono ?_); rintro e w' ⟨rfl, ⟨nd, rfl⟩⟩))
  go_ret
  exact ⟨rfl, bel⟩
end Go.Proofs.Ytbfhinfblepidaa.Da
