/- letter.Read of any bytes. Conditions: those that stand in the theorems. Written by mklg.py. -/
import Derived.Test.YtjcfmfdkligmoaaLq
import Derived.Test.YtjcfmfdkligmoaaPRecordTellsx8
namespace Go.Proofs.Ytjcfmfdkligmoaa.Lg
open Go.RowKit Go.Lib Go.Proofs.Ytjcfmfdkligmoaa.PRecordTells Go.Proofs.Ytjcfmfdkligmoaa.PLetterLimits Go.Proofs.Ytjcfmfdkligmoaa.Lt Go.Proofs.Ytjcfmfdkligmoaa.Lr Go.Proofs.Ytjcfmfdkligmoaa.Lq Go.Proofs.YtjcfmfdkligmoaaW.PrintWords Go.Proofs.YtjcfmfdkligmoaaW.PrintLast Go.Proofs.YtjcfmfdkligmoaaW.PrintMore
set_option linter.unusedVariables false
set_option linter.unusedSimpArgs false
set_option maxHeartbeats 8000000
set_option maxRecDepth 100000
def ps (s : List Int × Bool) : Nat → List Int × Bool
  | 0 => s
  | i + 1 => (tk 4 (ps s i)).2
theorem peer.calls (k : Nat) (w0 : World) (g : Nat) (s : List Int × Bool) (i : Nat) (v : Int) (w : World) (hS : RS w0 w g (ps s i)) (h : record_Whole.f k (tk 4 (ps s i)).1 = some v) :
    Calls Try.prog 41 #[.pointer (some ⟨g, 0, none⟩), .int .i64 4] w fun e w' => e = .returned (.int .i64 v) ∧ RS w0 w' g (ps s (i + 1)) ∧ KeepBut w w' g none := number.calls k w0 g (ps s i) 4 v w hS (by decide) h
section
variable {w w0 : World} {g k : Nat} {t : TypeId} {a b c d e f p q r s x0 x1 x2 x3 x4 x5 x6 x7 x8 x9 : Value}
theorem set10 (h : w.heap[g]? = some (.cells #[x0, x1, x2, x3, x4, x5, x6, x7, x8, x9] t (0, 0))) : (((((((((((w.setCell ⟨g, 0, none⟩ (a)).setCell ⟨g, 1, none⟩ (b)).setCell ⟨g, 2, none⟩ (c)).setCell ⟨g, 3, none⟩ (d)).setCell ⟨g, 4, none⟩ (e)).setCell ⟨g, 5, none⟩ (f)).setCell ⟨g, 6, none⟩ (p)).setCell ⟨g, 7, none⟩ (q)).setCell ⟨g, 8, none⟩ (r)).setCell ⟨g, 9, none⟩ (s))).heap[g]? = some (.cells #[a, b, c, d, e, f, p, q, r, s] t (0, 0)) := by
  have h0 := blk_put (cs' := #[a, x1, x2, x3, x4, x5, x6, x7, x8, x9]) h 0 a rfl
  have h1 := blk_put (cs' := #[a, b, x2, x3, x4, x5, x6, x7, x8, x9]) h0 1 b rfl
  have h2 := blk_put (cs' := #[a, b, c, x3, x4, x5, x6, x7, x8, x9]) h1 2 c rfl
  have h3 := blk_put (cs' := #[a, b, c, d, x4, x5, x6, x7, x8, x9]) h2 3 d rfl
  have h4 := blk_put (cs' := #[a, b, c, d, e, x5, x6, x7, x8, x9]) h3 4 e rfl
  have h5 := blk_put (cs' := #[a, b, c, d, e, f, x6, x7, x8, x9]) h4 5 f rfl
  have h6 := blk_put (cs' := #[a, b, c, d, e, f, p, x7, x8, x9]) h5 6 p rfl
  have h7 := blk_put (cs' := #[a, b, c, d, e, f, p, q, x8, x9]) h6 7 q rfl
  have h8 := blk_put (cs' := #[a, b, c, d, e, f, p, q, r, x9]) h7 8 r rfl
  have h9 := blk_put (cs' := #[a, b, c, d, e, f, p, q, r, s]) h8 9 s rfl
  exact h9
theorem oth10 (h : k ≠ g) : (((((((((((w.setCell ⟨g, 0, none⟩ (a)).setCell ⟨g, 1, none⟩ (b)).setCell ⟨g, 2, none⟩ (c)).setCell ⟨g, 3, none⟩ (d)).setCell ⟨g, 4, none⟩ (e)).setCell ⟨g, 5, none⟩ (f)).setCell ⟨g, 6, none⟩ (p)).setCell ⟨g, 7, none⟩ (q)).setCell ⟨g, 8, none⟩ (r)).setCell ⟨g, 9, none⟩ (s))).heap[k]? = w.heap[k]? := by
  simp only [Below.heap_setCell _ (⟨g, _, none⟩ : Addr) _ k h]
theorem bel10 (h : Below w0.heap.size w0 w) (hg : w0.heap.size ≤ g) : Below w0.heap.size w0 (((((((((((w.setCell ⟨g, 0, none⟩ (a)).setCell ⟨g, 1, none⟩ (b)).setCell ⟨g, 2, none⟩ (c)).setCell ⟨g, 3, none⟩ (d)).setCell ⟨g, 4, none⟩ (e)).setCell ⟨g, 5, none⟩ (f)).setCell ⟨g, 6, none⟩ (p)).setCell ⟨g, 7, none⟩ (q)).setCell ⟨g, 8, none⟩ (r)).setCell ⟨g, 9, none⟩ (s))) :=
  below_set (below_set (below_set (below_set (below_set (below_set (below_set (below_set (below_set (below_set h hg) hg) hg) hg) hg) hg) hg) hg) hg) hg
end
theorem frz10 {w : World} {g : Nat} {t : TypeId} {cs : Array Value} (h : w.heap[g]? = some (.cells cs t (0, 0))) : w.frozen? ⟨g, 0, none⟩ = false ∧ w.frozen? ⟨g, 1, none⟩ = false ∧ w.frozen? ⟨g, 2, none⟩ = false ∧ w.frozen? ⟨g, 3, none⟩ = false ∧ w.frozen? ⟨g, 4, none⟩ = false ∧ w.frozen? ⟨g, 5, none⟩ = false ∧ w.frozen? ⟨g, 6, none⟩ = false ∧ w.frozen? ⟨g, 7, none⟩ = false ∧ w.frozen? ⟨g, 8, none⟩ = false ∧ w.frozen? ⟨g, 9, none⟩ = false :=
  ⟨blk_frozen h 0, blk_frozen h 1, blk_frozen h 2, blk_frozen h 3, blk_frozen h 4, blk_frozen h 5, blk_frozen h 6, blk_frozen h 7, blk_frozen h 8, blk_frozen h 9⟩
theorem one.calls (k : Nat) (w0 : World) (g : Nat) (s : List Int × Bool) (v : Int) (w : World) (hS : RS w0 w g s) (h : record_Whole.f k (tk 1 s).1 = some v) :
    Calls Try.prog 41 #[.pointer (some ⟨g, 0, none⟩), .int .i64 1] w fun e w' => e = .returned (.int .i64 v) ∧ RS w0 w' g (tk 1 s).2 ∧ KeepBut w w' g none := number.calls k w0 g s 1 v w hS (by decide) h
theorem twoB.calls (k : Nat) (w0 : World) (g : Nat) (s : List Int × Bool) (v : Int) (w : World) (hS : RS w0 w g s) (h : record_Whole.f k (tk 2 s).1 = some v) :
    Calls Try.prog 41 #[.pointer (some ⟨g, 0, none⟩), .int .i64 2] w fun e w' => e = .returned (.int .i64 v) ∧ RS w0 w' g (tk 2 s).2 ∧ KeepBut w w' g none := number.calls k w0 g s 2 v w hS (by decide) h
theorem info28 : (Try.prog.info? 28).map (fun i => (i.zero, i.size, i.bytes)) = some (some (.agg #[(.int .i64 0), (.int .i64 0), (.int .i64 0), (.int .i64 0), (.int .i64 0), (.int .i64 0), (.int .i64 0), (.bool false), (.int .i64 0), (.slice none 0 0)]), 10, 96) := by kernel_rfl
def RecStep (k : Nat) (s s' : List Int × Bool) (x : S28) : Prop :=
  ∃ (n : Nat) (e : Int), n ≤ 65535 ∧ record_Whole.f k (tk 2 s).1 = some (n : Int) ∧ record_Read.f k (tk n (tk 2 s).2).1 = some (x.f0.f0, x.f0.f1, x.f1.f0, x.f1.f1, x.f1.f2, x.f2, x.f3, x.f4, x.f5, x.f6, e) ∧ s' = ((tk n (tk 2 s).2).2.1, (tk n (tk 2 s).2).2.2 || decide (e ≠ 0))
def ans2 (s : List Int × Bool) (v : Nat → Int) (q : Bool) (up ur : Value) : Value := if s.2 = true ∨ s.1 ≠ [] ∨ q = false then .tuple #[.agg #[.int .i64 0, .int .i64 0, .int .i64 0, .int .i64 0, .int .i64 0, .int .i64 0, .slice none 0 0, .slice none 0 0], .int .i64 2] else .tuple #[.agg #[.int .i64 (v 0), .int .i64 (v 1), .int .i64 (v 2), .int .i64 (v 3), .int .i64 (v 4), .int .i64 (v 5), up, ur], .int .i64 0]
def T10 : Bool × List (List Nat × List Nat) := (true, [([], []), ([0], [0]), ([], []), ([2], [2]), ([3], [3]), ([1, 4, 3], [1, 4]), ([0, 1, 2, 3, 4, 5], []), ([6, 5, 5, 0, 1, 2, 3, 4, 5], [5, 6])])
def B10 : List Nat := [0, 1, 0, 4, 12, 31, 63, 127]
theorem tab10 : rtab .any (opsOf Try.f21 10) = T10 := by kernel_rfl
theorem bits10 : waitsOk T10.2 B10 = true := by kernel_rfl
theorem read.calls (k : Nat) (A : Option Addr) (c : Nat) (bs : List Int) (v : Nat → Int) (P : List Int) (Rs : List S28) (sr : Nat → List Int × Bool) (q : Bool) (w : World) (hC : (Kd.int .u8).C w A bs.length bs) (hl : bs.length ≤ c) (hv : ∀ i, i < 7 → vw k bs i = some (v i)) (h6 : v 6 = (P.length : Int)) (hP : ∀ i : Nat, i < P.length → record_Whole.f k (tk 4 (ps (st bs 7) i)).1 = some (P.getD i 0)) (hPl : P.length ≤ 255)
    (h7 : record_Whole.f k (tk 1 (ps (st bs 7) P.length)).1 = some (Rs.length : Int)) (hs0 : sr 0 = (tk 1 (ps (st bs 7) P.length)).2) (hR : ∀ i : Nat, i < Rs.length → RecStep k (sr i) (sr (i + 1)) (Rs.getD i z28)) (hRl : Rs.length ≤ 255) (hq : right.f (v 0) (v 1) (v 2) (v 3) (v 4) (v 5) P Rs = some q) :
    Calls Try.prog 21 #[.slice A bs.length c] w fun e w' => ∃ up ur : Value, e = .returned (ans2 (sr Rs.length) v q up ur) ∧ Kd.R (Kd.int .i64) 3 w' w.heap.size (fun _ => True) up P ∧ Kd.S k28 28 w' w.heap.size (fun _ => True) ur Rs ∧ Below w.heap.size w w' := by
  have hu28 := Try.underlying28
  have hu45 := Try.underlying45
  have HC := Aside0.mk hC
  have HL := Aside0.mk hl
  have HV := Aside0.mk hv
  have V6 := Aside0.mk h6
  have HP := Aside0.mk hP
  have PL := Aside0.mk hPl
  have H7 := Aside0.mk h7
  have S0 := Aside0.mk hs0
  have HRS := Aside0.mk hR
  have RL := Aside0.mk hRl
  have HQ := Aside0.mk hq
  have HB := Aside0.mk (Below.refl w.heap.size w)
  clear hC hl hv h6 hP hPl h7 hs0 hR hRl hq
  go_enter Try.func21, Try.ntmps21
  go_upto_region 3 with (first | ((with_reducible refine gate_dst (N := 2) rfl ?_); refine box_event ?hg (N := 2) ?hd (cs := #[.int .i64 0, .int .i64 0, .int .i64 0, .int .i64 0, .int .i64 0, .int .i64 0, .slice none 0 0, .slice none 0 0]) (t := 45) ?hr ?_; (case hd => rfl); (case hg => rfl); (case hr => first | (go_simp; done) | (go_simp; rfl)); intro g2 hg w2 hbox hb; have BR := Aside0.mk hbox; have G2 := Aside0.mk (by rw [hg]; exact bels : w.heap.size ≤ g2); replace HB := Aside0.mk (belt hb); clear hbox hb hg) | ((with_reducible refine gate_dst (N := 12) rfl ?_); refine box_event ?hg (N := 12) ?hd (cs := #[.slice A bs.length c, .bool false]) (t := 73) ?hr ?_; (case hd => rfl); (case hg => rfl); (case hr => first | (go_simp; done) | (go_simp; rfl)); intro gr hg w3 hbox hb; have NE1 := Aside0.mk (by have := blk_lt BR.out; rw [hg]; omega : g2 ≠ gr); replace BR := Aside0.mk (blk_below BR.out hb); have GR := Aside0.mk (by rw [hg]; exact bels : w.heap.size ≤ gr); replace HB := Aside0.mk (belt hb); have HS := Aside0.mk (⟨⟨A, c, hbox, HC.out, HL.out⟩, HB.out, GR.out⟩ : RS w _ gr (st bs 0)); clear hbox hb hg) | (go_at_call 41; (with_reducible refine (num.calls k w gr bs 0 1 (v 0) _ ?sS ?sz (HV.out 0 ?si)).mono ?_); (case sS => exact HS.out); (case sz => rfl); (case si => omega); rintro e w4 ⟨rfl, hS_, hk_⟩; replace BR := Aside0.mk (hk_.blk BR.out NE1.out (by simp)); replace HS := Aside0.mk hS_; replace HB := Aside0.mk hS_.bel; clear hS_ hk_) | ((with_reducible refine gate_dst (N := 5) rfl ?_); refine box_event ?hg (N := 5) ?hd (cs := #[.int .i64 0, .int .i64 0, .int .i64 0, .int .i64 0, .int .i64 0, .int .i64 0, .slice none 0 0, .slice none 0 0]) (t := 45) ?hr ?_; (case hd => rfl); (case hg => rfl); (case hr => first | (go_simp; done) | (go_simp; rfl)); intro gl hg w5 hbox hb; have NE2 := Aside0.mk (by have := blk_lt BR.out; rw [hg]; omega : g2 ≠ gl); have NE3 := Aside0.mk (by obtain ⟨_, _, hx_, _⟩ := HS.out.box; have := blk_lt hx_; rw [hg]; omega : gr ≠ gl); replace BR := Aside0.mk (blk_below BR.out hb); have GL := Aside0.mk (by rw [hg]; exact bels : w.heap.size ≤ gl); replace HS := Aside0.mk (HS.out.keep (by obtain ⟨_, _, hx_, _⟩ := HS.out.box; exact hb.block _ (blk_lt hx_)) (belt hb)); replace HB := Aside0.mk HS.out.bel; have BL := Aside0.mk hbox; obtain ⟨hz0, hz1, hz2, hz3, hz4, hz5, hz6, hz7⟩ := box8 hbox; obtain ⟨hf0, hf1, hf2, hf3, hf4, hf5, hf6, hf7⟩ := frz8 hbox; clear hbox hb hg))
  have BL_ := Aside0.mk (show (((((((((w5.setCell ⟨gl, 0, none⟩ (.int .i64 (v 0))).setCell ⟨gl, 1, none⟩ (.int .i64 0)).setCell ⟨gl, 2, none⟩ (.int .i64 0)).setCell ⟨gl, 3, none⟩ (.int .i64 0)).setCell ⟨gl, 4, none⟩ (.int .i64 0)).setCell ⟨gl, 5, none⟩ (.int .i64 0)).setCell ⟨gl, 6, none⟩ (.slice none 0 0)).setCell ⟨gl, 7, none⟩ (.slice none 0 0))).heap[gl]? = some (.cells #[.int .i64 (v 0), .int .i64 0, .int .i64 0, .int .i64 0, .int .i64 0, .int .i64 0, .slice none 0 0, .slice none 0 0] 45 (0, 0)) from set8 BL.out)
  have HS_ := Aside0.mk (show RS w (((((((((w5.setCell ⟨gl, 0, none⟩ (.int .i64 (v 0))).setCell ⟨gl, 1, none⟩ (.int .i64 0)).setCell ⟨gl, 2, none⟩ (.int .i64 0)).setCell ⟨gl, 3, none⟩ (.int .i64 0)).setCell ⟨gl, 4, none⟩ (.int .i64 0)).setCell ⟨gl, 5, none⟩ (.int .i64 0)).setCell ⟨gl, 6, none⟩ (.slice none 0 0)).setCell ⟨gl, 7, none⟩ (.slice none 0 0))) gr (st bs 1) from HS.out.keep (oth8 NE3.out) (bel8 HB.out GL.out))
  have BR_ := Aside0.mk (show (((((((((w5.setCell ⟨gl, 0, none⟩ (.int .i64 (v 0))).setCell ⟨gl, 1, none⟩ (.int .i64 0)).setCell ⟨gl, 2, none⟩ (.int .i64 0)).setCell ⟨gl, 3, none⟩ (.int .i64 0)).setCell ⟨gl, 4, none⟩ (.int .i64 0)).setCell ⟨gl, 5, none⟩ (.int .i64 0)).setCell ⟨gl, 6, none⟩ (.slice none 0 0)).setCell ⟨gl, 7, none⟩ (.slice none 0 0))).heap[g2]? = some (.cells #[.int .i64 0, .int .i64 0, .int .i64 0, .int .i64 0, .int .i64 0, .int .i64 0, .slice none 0 0, .slice none 0 0] 45 (0, 0)) from (oth8 NE2.out).trans BR.out)
  clear BL HS BR HB hz0 hz1 hz2 hz3 hz4 hz5 hz6 hz7 hf0 hf1 hf2 hf3 hf4 hf5 hf6 hf7
  generalize ((((((((w5.setCell ⟨gl, 0, none⟩ (.int .i64 (v 0))).setCell ⟨gl, 1, none⟩ (.int .i64 0)).setCell ⟨gl, 2, none⟩ (.int .i64 0)).setCell ⟨gl, 3, none⟩ (.int .i64 0)).setCell ⟨gl, 4, none⟩ (.int .i64 0)).setCell ⟨gl, 5, none⟩ (.int .i64 0)).setCell ⟨gl, 6, none⟩ (.slice none 0 0)).setCell ⟨gl, 7, none⟩ (.slice none 0 0)) = w6 at BL_ HS_ BR_ ⊢
  go_wp2
  obtain ⟨gp, hgp⟩ : ∃ gp, w6.heap.size = gp := ⟨_, rfl⟩
  have lt_gr : gr < w6.heap.size := by obtain ⟨_, _, hx_, _⟩ := HS_.out.box; exact blk_lt hx_
  have lt_gl := blk_lt BL_.out
  have lt_g2 := blk_lt BR_.out
  have NE4 := Aside0.mk (show gp ≠ gr by omega)
  have NE5 := Aside0.mk (show gp ≠ gl by omega)
  have W7 : Below w6.heap.size w6 (w6.alloc (.cells #[.pointer (some ⟨gl, 1, none⟩), .pointer (some ⟨gl, 2, none⟩), .pointer (some ⟨gl, 3, none⟩), .pointer (some ⟨gl, 4, none⟩), .pointer (some ⟨gl, 5, none⟩)] 74)) := below_alloc (Below.refl _ _) _
  have GP := Aside0.mk (show (w6.alloc (.cells #[.pointer (some ⟨gl, 1, none⟩), .pointer (some ⟨gl, 2, none⟩), .pointer (some ⟨gl, 3, none⟩), .pointer (some ⟨gl, 4, none⟩), .pointer (some ⟨gl, 5, none⟩)] 74)).heap[gp]? = some (.cells #[.pointer (some ⟨gl, 1, none⟩), .pointer (some ⟨gl, 2, none⟩), .pointer (some ⟨gl, 3, none⟩), .pointer (some ⟨gl, 4, none⟩), .pointer (some ⟨gl, 5, none⟩)] 74 (0, 0)) from by rw [← hgp]; exact blk_new w6 _)
  have BL := Aside0.mk (blk_below BL_.out W7)
  have BR := Aside0.mk (blk_below BR_.out W7)
  have HS := Aside0.mk (HS_.out.keep (W7.block _ lt_gr) (below_step HS_.out.bel W7))
  rw [hgp]
  clear BL_ BR_ HS_ lt_gr lt_gl lt_g2 hgp
  generalize w6.alloc (.cells #[.pointer (some ⟨gl, 1, none⟩), .pointer (some ⟨gl, 2, none⟩), .pointer (some ⟨gl, 3, none⟩), .pointer (some ⟨gl, 4, none⟩), .pointer (some ⟨gl, 5, none⟩)] 74) = w7 at W7 GP BL BR HS ⊢
  clear W7
  go_loopg [7, 25] 5 (fun gg v7 v25 wr_ => ∃ i : Nat, v25 = .int .i64 (i : Int) ∧ Aside0 (i + gg = 5) ∧ Aside0 (RS w wr_ gr (st bs (i + 1))) ∧ Aside0 (wr_.heap[gl]? = some (.cells (cellAt v i) 45 (0, 0))) ∧ Aside0 (wr_.heap[g2]? = some (.cells #[.int .i64 0, .int .i64 0, .int .i64 0, .int .i64 0, .int .i64 0, .int .i64 0, .slice none 0 0, .slice none 0 0] 45 (0, 0))) ∧ Aside0 (wr_.heap[gp]? = some (.cells #[.pointer (some ⟨gl, 1, none⟩), .pointer (some ⟨gl, 2, none⟩), .pointer (some ⟨gl, 3, none⟩), .pointer (some ⟨gl, 4, none⟩), .pointer (some ⟨gl, 5, none⟩)] 74 (0, 0))))
  case atStart => exact ⟨0, by simp, ⟨rfl⟩, ⟨HS.out⟩, ⟨BL.out⟩, ⟨BR.out⟩, ⟨GP.out⟩⟩
  case round =>
    clear HS BL BR GP
    obtain ⟨i, rfl, E1, HS, BL, BR, GP⟩ := hrel
    cases gk with
    | succ d =>
      rcases (by have := E1.out; omega : i = 0 ∨ i = 1 ∨ i = 2 ∨ i = 3 ∨ i = 4) with rfl | rfl | rfl | rfl | rfl
      · have p0 : wr.cell? ⟨gp, 0, none⟩ = some (.pointer (some ⟨gl, 1, none⟩)) := (blk_cell GP.out 0).trans rfl
        go_wp2_with (go_at_call 41; (with_reducible refine (num.calls k w gr bs 1 4 (v 1) _ ?sS ?sz (HV.out 1 ?si)).mono ?_); (case sS => exact HS.out); (case sz => rfl); (case si => omega); rintro e w8 ⟨rfl, hS_, hk_⟩; replace BL := Aside0.mk (hk_.blk BL.out NE3.out.symm (by simp)); replace BR := Aside0.mk (hk_.blk BR.out NE1.out (by simp)); replace GP := Aside0.mk (hk_.blk GP.out NE4.out (by simp)); replace HS := Aside0.mk hS_; have hz := (blk_cell BL.out 1).trans (rfl : (cellAt v 0)[1]? = some (.int .i64 0)); have hf := blk_frozen BL.out 1; clear hS_ hk_)
        go_roundg d
        case measure => omega
        case rel => exact ⟨1, by go_num, ⟨by have := E1.out; omega⟩, ⟨HS.out.keep (Below.heap_setCell _ _ _ _ NE3.out) (below_set HS.out.bel GL.out)⟩, ⟨blk_put BL.out 1 _ rfl⟩, ⟨(Below.heap_setCell _ _ _ _ NE2.out).trans BR.out⟩, ⟨(Below.heap_setCell _ _ _ _ NE5.out).trans GP.out⟩⟩
      · have p0 : wr.cell? ⟨gp, 1, none⟩ = some (.pointer (some ⟨gl, 2, none⟩)) := (blk_cell GP.out 1).trans rfl
        go_wp2_with (go_at_call 41; (with_reducible refine (num.calls k w gr bs 2 4 (v 2) _ ?sS ?sz (HV.out 2 ?si)).mono ?_); (case sS => exact HS.out); (case sz => rfl); (case si => omega); rintro e w8 ⟨rfl, hS_, hk_⟩; replace BL := Aside0.mk (hk_.blk BL.out NE3.out.symm (by simp)); replace BR := Aside0.mk (hk_.blk BR.out NE1.out (by simp)); replace GP := Aside0.mk (hk_.blk GP.out NE4.out (by simp)); replace HS := Aside0.mk hS_; have hz := (blk_cell BL.out 2).trans (rfl : (cellAt v 1)[2]? = some (.int .i64 0)); have hf := blk_frozen BL.out 2; clear hS_ hk_)
        go_roundg d
        case measure => omega
        case rel => exact ⟨2, by go_num, ⟨by have := E1.out; omega⟩, ⟨HS.out.keep (Below.heap_setCell _ _ _ _ NE3.out) (below_set HS.out.bel GL.out)⟩, ⟨blk_put BL.out 2 _ rfl⟩, ⟨(Below.heap_setCell _ _ _ _ NE2.out).trans BR.out⟩, ⟨(Below.heap_setCell _ _ _ _ NE5.out).trans GP.out⟩⟩
      · have p0 : wr.cell? ⟨gp, 2, none⟩ = some (.pointer (some ⟨gl, 3, none⟩)) := (blk_cell GP.out 2).trans rfl
        go_wp2_with (go_at_call 41; (with_reducible refine (num.calls k w gr bs 3 4 (v 3) _ ?sS ?sz (HV.out 3 ?si)).mono ?_); (case sS => exact HS.out); (case sz => rfl); (case si => omega); rintro e w8 ⟨rfl, hS_, hk_⟩; replace BL := Aside0.mk (hk_.blk BL.out NE3.out.symm (by simp)); replace BR := Aside0.mk (hk_.blk BR.out NE1.out (by simp)); replace GP := Aside0.mk (hk_.blk GP.out NE4.out (by simp)); replace HS := Aside0.mk hS_; have hz := (blk_cell BL.out 3).trans (rfl : (cellAt v 2)[3]? = some (.int .i64 0)); have hf := blk_frozen BL.out 3; clear hS_ hk_)
        go_roundg d
        case measure => omega
        case rel => exact ⟨3, by go_num, ⟨by have := E1.out; omega⟩, ⟨HS.out.keep (Below.heap_setCell _ _ _ _ NE3.out) (below_set HS.out.bel GL.out)⟩, ⟨blk_put BL.out 3 _ rfl⟩, ⟨(Below.heap_setCell _ _ _ _ NE2.out).trans BR.out⟩, ⟨(Below.heap_setCell _ _ _ _ NE5.out).trans GP.out⟩⟩
      · have p0 : wr.cell? ⟨gp, 3, none⟩ = some (.pointer (some ⟨gl, 4, none⟩)) := (blk_cell GP.out 3).trans rfl
        go_wp2_with (go_at_call 41; (with_reducible refine (num.calls k w gr bs 4 4 (v 4) _ ?sS ?sz (HV.out 4 ?si)).mono ?_); (case sS => exact HS.out); (case sz => rfl); (case si => omega); rintro e w8 ⟨rfl, hS_, hk_⟩; replace BL := Aside0.mk (hk_.blk BL.out NE3.out.symm (by simp)); replace BR := Aside0.mk (hk_.blk BR.out NE1.out (by simp)); replace GP := Aside0.mk (hk_.blk GP.out NE4.out (by simp)); replace HS := Aside0.mk hS_; have hz := (blk_cell BL.out 4).trans (rfl : (cellAt v 3)[4]? = some (.int .i64 0)); have hf := blk_frozen BL.out 4; clear hS_ hk_)
        go_roundg d
        case measure => omega
        case rel => exact ⟨4, by go_num, ⟨by have := E1.out; omega⟩, ⟨HS.out.keep (Below.heap_setCell _ _ _ _ NE3.out) (below_set HS.out.bel GL.out)⟩, ⟨blk_put BL.out 4 _ rfl⟩, ⟨(Below.heap_setCell _ _ _ _ NE2.out).trans BR.out⟩, ⟨(Below.heap_setCell _ _ _ _ NE5.out).trans GP.out⟩⟩
      · have p0 : wr.cell? ⟨gp, 4, none⟩ = some (.pointer (some ⟨gl, 5, none⟩)) := (blk_cell GP.out 4).trans rfl
        go_wp2_with (go_at_call 41; (with_reducible refine (num.calls k w gr bs 5 4 (v 5) _ ?sS ?sz (HV.out 5 ?si)).mono ?_); (case sS => exact HS.out); (case sz => rfl); (case si => omega); rintro e w8 ⟨rfl, hS_, hk_⟩; replace BL := Aside0.mk (hk_.blk BL.out NE3.out.symm (by simp)); replace BR := Aside0.mk (hk_.blk BR.out NE1.out (by simp)); replace GP := Aside0.mk (hk_.blk GP.out NE4.out (by simp)); replace HS := Aside0.mk hS_; have hz := (blk_cell BL.out 5).trans (rfl : (cellAt v 4)[5]? = some (.int .i64 0)); have hf := blk_frozen BL.out 5; clear hS_ hk_)
        go_roundg d
        case measure => omega
        case rel => exact ⟨5, by go_num, ⟨by have := E1.out; omega⟩, ⟨HS.out.keep (Below.heap_setCell _ _ _ _ NE3.out) (below_set HS.out.bel GL.out)⟩, ⟨blk_put BL.out 5 _ rfl⟩, ⟨(Below.heap_setCell _ _ _ _ NE2.out).trans BR.out⟩, ⟨(Below.heap_setCell _ _ _ _ NE5.out).trans GP.out⟩⟩
    | zero =>
      obtain rfl : i = 5 := by have := E1.out; omega
      have BL := Aside0.mk (show wr.heap[gl]? = some (.cells (let8 v) 45 (0, 0)) from BL.out)
      have HV6 := Aside0.mk ((HV.out 6 (by omega)).trans (congrArg some V6.out))
      clear E1 GP NE4 NE5
      go_wp2_with (go_at_call 41; (with_reducible refine (num.calls k w gr bs 6 1 (P.length : Int) _ ?sS ?sz HV6.out).mono ?_); (case sS => exact HS.out); (case sz => rfl); rintro e w8 ⟨rfl, hS_, hk_⟩; replace BL := Aside0.mk (hk_.blk BL.out NE3.out.symm (by simp)); replace BR := Aside0.mk (hk_.blk BR.out NE1.out (by simp)); replace HS := Aside0.mk hS_; clear hS_ hk_)
      go_loopg [36] P.length (fun gg v36 wr_ => ∃ (i : Nat) (u : Value), v36 = .int .i64 (i : Int) ∧ Aside0 (i + gg = P.length) ∧ Aside0 (RS w wr_ gr (ps (st bs 7) i)) ∧ Aside0 (wr_.heap[gl]? = some (.cells #[.int .i64 (v 0), .int .i64 (v 1), .int .i64 (v 2), .int .i64 (v 3), .int .i64 (v 4), .int .i64 (v 5), u, .slice none 0 0] 45 (0, 0))) ∧ Aside0 (wr_.heap[g2]? = some (.cells #[.int .i64 0, .int .i64 0, .int .i64 0, .int .i64 0, .int .i64 0, .int .i64 0, .slice none 0 0, .slice none 0 0] 45 (0, 0))) ∧ Aside0 (Kd.R (Kd.int .i64) 3 wr_ w.heap.size (fun k_ => k_ ≠ gr) u (P.take i)))
      case atStart => exact ⟨0, _, by simp, ⟨Nat.zero_add _⟩, ⟨HS.out⟩, ⟨BL.out⟩, ⟨BR.out⟩, ⟨Kd.R_nil _ _ _ _ _⟩⟩
      case round =>
        clear HS BL BR
        obtain ⟨i, u, rfl, E1, HS, BL, BR, HI⟩ := hrel
        cases gk with
        | succ d =>
          have hlt : (i : Int) < (P.length : Int) := by have := E1.out; omega
          have DP := Aside0.mk (HP.out i (by omega))
          have T1 := Aside0.mk (show P.take (i + 1) = P.take i ++ [P.getD i 0] from by rw [List.take_add_one, List.getD_eq_getElem?_getD, List.getElem?_eq_getElem (by omega)]; rfl)
          obtain ⟨p, hp⟩ : ∃ p, P.getD i 0 = p := ⟨_, rfl⟩
          rw [hp] at DP T1
          clear hp
          obtain ⟨Q, hQ⟩ : ∃ Q, P.take i ++ [p] = Q := ⟨_, rfl⟩
          rw [hQ] at T1
          have QE := Aside0.mk hQ
          clear hQ
          have hpl := PL.out
          have hz6 : wr.cell? ⟨gl, 6, none⟩ = some u := (blk_cell BL.out 6).trans rfl
          go_wp2
          refine start_ (n := 8) (S := fun w' => w'.cell? ⟨gl, 6, none⟩ = some u) (ds := [7]) (ms 8 0) (by kernel_rfl) rfl rfl hz6 (fun hHeld => ?_); refine with_tabW tab10 bits10 (fun HT_ HW_ => ?_)
          have HS_ := Aside0.mk (show RS w wr.drew gr (ps (st bs 7) i) from HS.out.keep rfl HS.out.bel.drew)
          have BL_ := Aside0.mk (show wr.drew.heap[gl]? = _ from BL.out)
          have BR_ := Aside0.mk (show wr.drew.heap[g2]? = _ from BR.out)
          have HI_ := Aside0.mk (Kd.R_drew HI.out)
          clear HS BL BR HI hz6
          generalize wr.drew = wd at hHeld HS_ BL_ BR_ HI_ ⊢
          have HS := HS_
          have BL := BL_
          have BR := BR_
          have HI := HI_
          clear HS_ BL_ BR_ HI_
          refine run_ [(0, false, some 38), (1, true, some 39), (2, false, some 40)] (n := 3) (ms 8 7) rfl HT_.out HW_.out (by kernel_rfl) (fun _ _ _ _ h => h) hHeld ?_
          repeat (first | (refine Run.p (v := ?_) (a' := ?_) rfl rfl (Or.inl ⟨by rfl, ?_⟩) ?_ ?_; rotate_left; (focus intro w'; go_simp; with_reducible rfl); rotate_left; (focus simp only [Act.put, List.setIfInBounds_toArray, List.set_cons_zero, List.set_cons_succ, i64_w, i32_w]; rfl)) | (refine Run.t (v := ?_) (a' := ?_) rfl rfl (Or.inl ⟨by rfl, ?_⟩) ?_ ?_; rotate_left; (focus intro w' hS; go_simp; with_reducible rfl); rotate_left; (focus simp only [Act.put, List.setIfInBounds_toArray, List.set_cons_zero, List.set_cons_succ, i64_w, i32_w]; rfl)))
          refine Run.nil ?_
          refine one_ (i := 3) (N := some 41) (ms 8 15) rfl rfl (one_of HT_.out (by kernel_rfl)) (by decide) (fun K hK => ?_)
          refine goes_ Try.func41 (by kernel_rfl) rfl #[.pointer (some ⟨gr, 0, none⟩), .int .i64 4] (by rfl) rfl rfl agl ?_
          with_reducible refine (peer.calls k w gr (st bs 7) i p _ HS.out DP.out).mono ?_
          rintro e w9 ⟨rfl, hS_, hk_⟩
          refine ⟨_, rfl, ?_⟩
          replace BL := Aside0.mk (hk_.blk BL.out NE3.out.symm (by simp))
          replace BR := Aside0.mk (hk_.blk BR.out NE1.out (by simp))
          replace HI := Aside0.mk (Kd.R_keep HI.out hk_ (fun _ h => h))
          replace HS := Aside0.mk hS_
          clear hS_ hk_
          refine hK.out _ _ ((blk_cell BL.out 6).trans rfl) (fun hHeld => ?_)
          clear hK
          refine norm_ (a' := ?_) ?_ ?_
          rotate_left
          · show Act.put _ (some 41) _ = _
            simp only [Act.put, List.setIfInBounds_toArray, List.set_cons_zero, List.set_cons_succ, i64_w, i32_w]
            rfl
          refine one_ (i := 4) (N := some 42) (ms 8 31) rfl rfl (one_of HT_.out (by kernel_rfl)) (by decide) (fun K hK => ?_)
          refine value_ (w1 := ?_) (v := ?_) (by rfl) rfl ?_ ?_
          rotate_left 2
          · go_simp
            constructor
            · rfl
            · rfl
          refine hK.out _ _ ((World.cell?_alloc_lt _ _ _ (World.block_lt_of_cell? _ _ ((blk_cell BL.out 6).trans rfl : w9.cell? ⟨gl, 6, none⟩ = some u))).trans ((blk_cell BL.out 6).trans rfl)) (fun hHeld => ?_)
          clear hK
          refine norm_ (a' := ?_) ?_ ?_
          rotate_left
          · show Act.put _ (some 42) _ = _
            simp only [Act.put, List.setIfInBounds_toArray, List.set_cons_zero, List.set_cons_succ, i64_w, i32_w]
            rfl
          refine one_ (i := 5) (N := some 43) (ms 8 63) rfl rfl (one_of HT_.out (by kernel_rfl)) (by decide) (fun K hK => ?_)
          have lt_gr : gr < w9.heap.size := by obtain ⟨_, _, hx_, _⟩ := HS.out.box; exact blk_lt hx_
          refine Kd.R_append_step (Kd.int .i64) (w0 := w) w.heap.size (by rfl) (.tmp 39) (.tmp 42) 42 3 (.int .i64 0) 8 rfl Try.underlying42 info3 rfl (by decide) (by omega) u (P.take i) p [.int .i64 p] (fun k_ => k_ ≠ gr) (fun _ => False) rfl rfl ?aP (fun _ hk => hk.elim) ?aF ?aO ?aB ?aS ?aL ?_
          (case aP => exact rfl)
          (case aF => exact (fun k_ hk => by omega))
          (case aO => exact HI.out)
          (case aB => exact HS.out.bel)
          (case aS => exact HS.out.bel.size)
          (case aL => rw [List.length_take]; have := PL.out; omega)
          intro u2 w10 ho hb hg hat
          rw [QE.out] at ho
          have ne_gr : some gr ≠ u.ownBlock := by obtain ⟨_, _, hx_, _⟩ := HS.out.box; exact Kd.R_ne HI.out hx_ (by decide)
          replace BL := Aside0.mk (blk_grown BL.out hg (Kd.R_ne HI.out BL.out (by decide)))
          replace BR := Aside0.mk (blk_grown BR.out hg (Kd.R_ne HI.out BR.out (by decide)))
          replace HS := Aside0.mk (HS.out.keep (hg.block _ lt_gr ne_gr) hb)
          replace HI := Aside0.mk ho
          obtain ⟨Au, cu, rfl, _, _⟩ := Kd.R_reads ho
          clear ho hb hg hat ne_gr lt_gr
          refine hK.out _ _ ((blk_cell BL.out 6).trans rfl) (fun hHeld => ?_)
          clear hK
          refine norm_ (a' := ?_) ?_ ?_
          rotate_left
          · show Act.put _ (some 43) _ = _
            simp only [Act.put, List.setIfInBounds_toArray, List.set_cons_zero, List.set_cons_succ, i64_w, i32_w]
            rfl
          refine pure_ (i := 6) (N := some 44) (v := ?_) (a' := ?_) (ms 8 127) rfl rfl (any_of HT_.out (by kernel_rfl)) (fun _ _ _ h => h) (Or.inl ⟨by rfl, ?_⟩) ?_ ?_
          rotate_left
          · intro w'
            go_simp
            with_reducible rfl
          rotate_left
          · simp only [Act.put, List.setIfInBounds_toArray, List.set_cons_zero, List.set_cons_succ, i64_w, i32_w]
            rfl
          have hz6 : w10.cell? ⟨gl, 6, none⟩ = some u := (blk_cell BL.out 6).trans rfl
          have hf6 := blk_frozen BL.out 6
          refine last_ (i := 7) (N := none) (ms 8 255) rfl rfl (one_of HT_.out (by kernel_rfl)) (by decide) (fun K hK => ?_)
          refine skip_ (w1 := ?_) (by rfl) rfl ?_ ?_
          rotate_left
          · go_simp
            rfl
          refine hK.out _ _ ?_
          clear hK K
          refine done_ (done_of HT_.out (by kernel_rfl)) ?_
          clear HT_ HW_ hHeld
          try go_wp2
          go_roundg d
          case measure => omega
          case rel => exact ⟨i + 1, _, by go_num, ⟨by have := E1.out; omega⟩, ⟨HS.out.keep (Below.heap_setCell _ _ _ _ NE3.out) (below_set HS.out.bel GL.out)⟩, ⟨blk_put BL.out 6 _ rfl⟩, ⟨(Below.heap_setCell _ _ _ _ NE2.out).trans BR.out⟩, ⟨by rw [T1.out]; exact Kd.R_set HI.out BL.out (by decide) 6 _⟩⟩
        | zero =>
          obtain rfl : i = P.length := by have := E1.out; omega
          have hI := HI.out
          rw [List.take_of_length_le (Nat.le_refl _)] at hI
          obtain ⟨Au, cu, rfl, _, _⟩ := Kd.R_reads hI
          replace HI := Aside0.mk hI
          clear hI E1 HP PL HV HV6
          go_wp2_with (go_at_call 41; (with_reducible refine (one.calls k w gr (ps (st bs 7) P.length) (Rs.length : Int) _ HS.out H7.out).mono ?_); rintro e5 w9 ⟨rfl, hS_, hk_⟩; replace BL := Aside0.mk (hk_.blk BL.out NE3.out.symm (by simp)); replace BR := Aside0.mk (hk_.blk BR.out NE1.out (by simp)); replace HI := Aside0.mk (Kd.R_keep HI.out hk_ (fun _ h => h)); replace HS := Aside0.mk hS_; clear hS_ hk_)
          rw [← S0.out] at HS
          have SN0 := Aside0.mk (Kd.S_nil k28 28 w9 w.heap.size (fun k_ => k_ ≠ gr))
          clear S0 H7
          go_loopg [8, 9, 48] Rs.length (fun gg v8 v9 v48 wr_ => ∃ (i : Nat) (ur : Value), v48 = .int .i64 (i : Int) ∧ Aside0 (i + gg = Rs.length) ∧ Aside0 (RS w wr_ gr (sr i)) ∧ Aside0 (wr_.heap[gl]? = some (.cells #[.int .i64 (v 0), .int .i64 (v 1), .int .i64 (v 2), .int .i64 (v 3), .int .i64 (v 4), .int .i64 (v 5), .slice Au P.length cu, ur] 45 (0, 0))) ∧ Aside0 (wr_.heap[g2]? = some (.cells #[.int .i64 0, .int .i64 0, .int .i64 0, .int .i64 0, .int .i64 0, .int .i64 0, .slice none 0 0, .slice none 0 0] 45 (0, 0))) ∧ Aside0 (Kd.R (Kd.int .i64) 3 wr_ w.heap.size (fun k_ => k_ ≠ gr) (.slice Au P.length cu) P) ∧ Aside0 (Kd.S k28 28 wr_ w.heap.size (fun k_ => k_ ≠ gr) ur (Rs.take i)))
          case atStart => exact ⟨0, _, by simp, ⟨Nat.zero_add _⟩, ⟨HS.out⟩, ⟨BL.out⟩, ⟨BR.out⟩, ⟨HI.out⟩, ⟨SN0.out⟩⟩
          case round =>
            clear HS BL BR HI SN0
            obtain ⟨i, ur, rfl, E1, HS, BL, BR, HI, HU⟩ := hrel
            cases gk with
            | succ d =>
              have hlt : (i : Int) < (Rs.length : Int) := by have := E1.out; omega
              have hpl := RL.out
              obtain ⟨n, e, hn_, hw2_, hrd_, hsn_⟩ := HRS.out i (by omega)
              have T1 := Aside0.mk (show Rs.take (i + 1) = Rs.take i ++ [Rs.getD i z28] from by rw [List.take_add_one, List.getD_eq_getElem?_getD, List.getElem?_eq_getElem (by omega)]; rfl)
              obtain ⟨x, hx⟩ : ∃ x, Rs.getD i z28 = x := ⟨_, rfl⟩
              rw [hx] at hrd_ T1
              obtain ⟨Q, hQ⟩ : ∃ Q, Rs.take i ++ [x] = Q := ⟨_, rfl⟩
              rw [hQ] at T1
              have QE := Aside0.mk hQ
              have TKC := Aside0.mk (fun W (h : RS w W gr (tk 2 (sr i)).2) => take.calls w gr (tk 2 (sr i)).2 n W h (by omega))
              obtain ⟨tt, htt⟩ : ∃ tt, tk n (tk 2 (sr i)).2 = tt := ⟨_, rfl⟩
              simp only [htt] at TKC hrd_ hsn_
              have HW2 := Aside0.mk hw2_
              have HRd := Aside0.mk hrd_
              have SN := Aside0.mk hsn_
              clear hx hQ htt hw2_ hrd_ hsn_
              go_upto_region 15 with (first | (go_at_call 41; (with_reducible refine (twoB.calls k w gr (sr i) (n : Int) _ HS.out HW2.out).mono ?_); rintro e5 w9 ⟨rfl, hS_, hk_⟩; replace BL := Aside0.mk (hk_.blk BL.out NE3.out.symm (by simp)); replace BR := Aside0.mk (hk_.blk BR.out NE1.out (by simp)); replace HI := Aside0.mk (Kd.R_keep HI.out hk_ (fun _ h => h)); replace HU := Aside0.mk (Kd.S_keep HU.out hk_ (fun _ h => h)); replace HS := Aside0.mk hS_; clear hS_ hk_) | (go_at_call 42; (with_reducible refine (TKC.out _ HS.out).mono ?_); rintro e5 w10 ⟨At, ct, rfl, hCt_, hlt_, hS_, hk_⟩; replace BL := Aside0.mk (hk_.blk BL.out NE3.out.symm (by simp)); replace BR := Aside0.mk (hk_.blk BR.out NE1.out (by simp)); replace HI := Aside0.mk (Kd.R_keep HI.out hk_ (fun _ h => h)); replace HU := Aside0.mk (Kd.S_keep HU.out hk_ (fun _ h => h)); replace HS := Aside0.mk hS_; have CT := Aside0.mk hCt_; have LT := Aside0.mk hlt_; clear hS_ hk_ hCt_ hlt_) | (go_at_call 12; (with_reducible refine (record_Read.calls k At ct tt.1 _ _ _ _ _ _ _ _ _ _ _ _ ?s1 LT.out HRd.out).mono ?_); (case s1 => exact Kd.C_below CT.out HS.out.bel); rintro e5 w11 ⟨v9, rfl, ho_, hb_⟩; obtain ⟨A9, c9, rfl, _, _⟩ := Kd.R_reads ho_; have lt_gr := Aside0.mk (by obtain ⟨_, _, hx_, _⟩ := HS.out.box; exact blk_lt hx_ : gr < w10.heap.size); replace BL := Aside0.mk (blk_below BL.out hb_); replace BR := Aside0.mk (blk_below BR.out hb_); replace HI := Aside0.mk (Kd.R_below HI.out hb_); replace HU := Aside0.mk (Kd.S_elder' HU.out (Kd.R_base ho_) hb_); have HX := Aside0.mk (Kd.R_lower (Kd.R_mono (ok' := fun k_ => k_ ≠ gr) (Kd.R_bound ho_) (fun k_ hk_ => by have := lt_gr.out; have := hk_.2.1; omega)) HS.out.bel.size); replace HS := Aside0.mk (HS.out.keep (hb_.block _ lt_gr.out) (below_step HS.out.bel hb_)); clear ho_ hb_ lt_gr) | ((with_reducible refine gate_dst (N := 8) rfl ?_); refine box_event ?hg (N := 8) ?hd (cs := #[.int .i64 0, .int .i64 0, .int .i64 0, .int .i64 0, .int .i64 0, .int .i64 0, .int .i64 0, .bool false, .int .i64 0, .slice none 0 0]) (t := 28) ?hr ?_; (case hd => rfl); (case hg => rfl); (case hr => first | (go_simp; done) | (go_simp; rfl)); intro g8 hg w12 hbox hb; have NB1 := Aside0.mk (by have := blk_lt BL.out; rw [hg]; omega : gl ≠ g8); have NB2 := Aside0.mk (by have := blk_lt BR.out; rw [hg]; omega : g2 ≠ g8); have lt_gr := Aside0.mk (by obtain ⟨_, _, hx_, _⟩ := HS.out.box; exact blk_lt hx_ : gr < w11.heap.size); have NB3 := Aside0.mk (by have := lt_gr.out; rw [hg]; omega : gr ≠ g8); have G8 := Aside0.mk (by rw [hg]; exact HS.out.bel.size : w.heap.size ≤ g8); replace BL := Aside0.mk (blk_below BL.out hb); replace BR := Aside0.mk (blk_below BR.out hb); replace HI := Aside0.mk (Kd.R_below (Kd.R_elderB HI.out g8 (Nat.le_of_eq hg.symm)) hb); replace HU := Aside0.mk (Kd.S_below (Kd.S_elderB HU.out g8 (Nat.le_of_eq hg.symm)) hb); replace HX := Aside0.mk (Kd.R_below (Kd.R_elderB HX.out g8 (Nat.le_of_eq hg.symm)) hb); replace HS := Aside0.mk (HS.out.keep (hb.block _ lt_gr.out) (below_step HS.out.bel hb)); have BX := Aside0.mk hbox; obtain ⟨hz0, hz1, hz2, hz3, hz4, hz5, hz6, hz7, hz8, hz9⟩ := box10 hbox; obtain ⟨hf0, hf1, hf2, hf3, hf4, hf5, hf6, hf7, hf8, hf9⟩ := frz10 hbox; clear hbox hb hg lt_gr))
              have BX_ := Aside0.mk (show ((((((((((w12.setCell ⟨g8, 0, none⟩ (.int .i64 x.f0.f0)).setCell ⟨g8, 1, none⟩ (.int .i64 x.f0.f1)).setCell ⟨g8, 2, none⟩ (.int .i64 x.f1.f0)).setCell ⟨g8, 3, none⟩ (.int .i64 x.f1.f1)).setCell ⟨g8, 4, none⟩ (.int .i64 x.f1.f2)).setCell ⟨g8, 5, none⟩ (.int .i64 x.f2)).setCell ⟨g8, 6, none⟩ (.int .i64 x.f3)).setCell ⟨g8, 7, none⟩ (.bool x.f4)).setCell ⟨g8, 8, none⟩ (.int .i64 x.f5)).setCell ⟨g8, 9, none⟩ (.slice A9 x.f6.length c9)).heap[g8]? = some (.cells #[.int .i64 x.f0.f0, .int .i64 x.f0.f1, .int .i64 x.f1.f0, .int .i64 x.f1.f1, .int .i64 x.f1.f2, .int .i64 x.f2, .int .i64 x.f3, .bool x.f4, .int .i64 x.f5, .slice A9 x.f6.length c9] 28 (0, 0)) from set10 BX.out)
              have BL_ := Aside0.mk ((oth10 NB1.out).trans BL.out : ((((((((((w12.setCell ⟨g8, 0, none⟩ (.int .i64 x.f0.f0)).setCell ⟨g8, 1, none⟩ (.int .i64 x.f0.f1)).setCell ⟨g8, 2, none⟩ (.int .i64 x.f1.f0)).setCell ⟨g8, 3, none⟩ (.int .i64 x.f1.f1)).setCell ⟨g8, 4, none⟩ (.int .i64 x.f1.f2)).setCell ⟨g8, 5, none⟩ (.int .i64 x.f2)).setCell ⟨g8, 6, none⟩ (.int .i64 x.f3)).setCell ⟨g8, 7, none⟩ (.bool x.f4)).setCell ⟨g8, 8, none⟩ (.int .i64 x.f5)).setCell ⟨g8, 9, none⟩ (.slice A9 x.f6.length c9)).heap[gl]? = _)
              have BR_ := Aside0.mk ((oth10 NB2.out).trans BR.out : ((((((((((w12.setCell ⟨g8, 0, none⟩ (.int .i64 x.f0.f0)).setCell ⟨g8, 1, none⟩ (.int .i64 x.f0.f1)).setCell ⟨g8, 2, none⟩ (.int .i64 x.f1.f0)).setCell ⟨g8, 3, none⟩ (.int .i64 x.f1.f1)).setCell ⟨g8, 4, none⟩ (.int .i64 x.f1.f2)).setCell ⟨g8, 5, none⟩ (.int .i64 x.f2)).setCell ⟨g8, 6, none⟩ (.int .i64 x.f3)).setCell ⟨g8, 7, none⟩ (.bool x.f4)).setCell ⟨g8, 8, none⟩ (.int .i64 x.f5)).setCell ⟨g8, 9, none⟩ (.slice A9 x.f6.length c9)).heap[g2]? = _)
              have HS_ := Aside0.mk (show RS w ((((((((((w12.setCell ⟨g8, 0, none⟩ (.int .i64 x.f0.f0)).setCell ⟨g8, 1, none⟩ (.int .i64 x.f0.f1)).setCell ⟨g8, 2, none⟩ (.int .i64 x.f1.f0)).setCell ⟨g8, 3, none⟩ (.int .i64 x.f1.f1)).setCell ⟨g8, 4, none⟩ (.int .i64 x.f1.f2)).setCell ⟨g8, 5, none⟩ (.int .i64 x.f2)).setCell ⟨g8, 6, none⟩ (.int .i64 x.f3)).setCell ⟨g8, 7, none⟩ (.bool x.f4)).setCell ⟨g8, 8, none⟩ (.int .i64 x.f5)).setCell ⟨g8, 9, none⟩ (.slice A9 x.f6.length c9)) gr tt.2 from HS.out.keep (oth10 NB3.out) (bel10 HS.out.bel G8.out))
              have HI_ := Aside0.mk (show Kd.R (Kd.int .i64) 3 ((((((((((w12.setCell ⟨g8, 0, none⟩ (.int .i64 x.f0.f0)).setCell ⟨g8, 1, none⟩ (.int .i64 x.f0.f1)).setCell ⟨g8, 2, none⟩ (.int .i64 x.f1.f0)).setCell ⟨g8, 3, none⟩ (.int .i64 x.f1.f1)).setCell ⟨g8, 4, none⟩ (.int .i64 x.f1.f2)).setCell ⟨g8, 5, none⟩ (.int .i64 x.f2)).setCell ⟨g8, 6, none⟩ (.int .i64 x.f3)).setCell ⟨g8, 7, none⟩ (.bool x.f4)).setCell ⟨g8, 8, none⟩ (.int .i64 x.f5)).setCell ⟨g8, 9, none⟩ (.slice A9 x.f6.length c9)) _ _ _ _ from Kd.R_step HI.out (fun k_ hk_ _ => oth10 hk_.2))
              have HX_ := Aside0.mk (show Kd.R (Kd.int .u8) 5 ((((((((((w12.setCell ⟨g8, 0, none⟩ (.int .i64 x.f0.f0)).setCell ⟨g8, 1, none⟩ (.int .i64 x.f0.f1)).setCell ⟨g8, 2, none⟩ (.int .i64 x.f1.f0)).setCell ⟨g8, 3, none⟩ (.int .i64 x.f1.f1)).setCell ⟨g8, 4, none⟩ (.int .i64 x.f1.f2)).setCell ⟨g8, 5, none⟩ (.int .i64 x.f2)).setCell ⟨g8, 6, none⟩ (.int .i64 x.f3)).setCell ⟨g8, 7, none⟩ (.bool x.f4)).setCell ⟨g8, 8, none⟩ (.int .i64 x.f5)).setCell ⟨g8, 9, none⟩ (.slice A9 x.f6.length c9)) _ _ _ _ from Kd.R_step HX.out (fun k_ hk_ _ => oth10 hk_.2))
              have HU_ := Aside0.mk (show Kd.S k28 28 ((((((((((w12.setCell ⟨g8, 0, none⟩ (.int .i64 x.f0.f0)).setCell ⟨g8, 1, none⟩ (.int .i64 x.f0.f1)).setCell ⟨g8, 2, none⟩ (.int .i64 x.f1.f0)).setCell ⟨g8, 3, none⟩ (.int .i64 x.f1.f1)).setCell ⟨g8, 4, none⟩ (.int .i64 x.f1.f2)).setCell ⟨g8, 5, none⟩ (.int .i64 x.f2)).setCell ⟨g8, 6, none⟩ (.int .i64 x.f3)).setCell ⟨g8, 7, none⟩ (.bool x.f4)).setCell ⟨g8, 8, none⟩ (.int .i64 x.f5)).setCell ⟨g8, 9, none⟩ (.slice A9 x.f6.length c9)) _ _ _ _ from Kd.S_step HU.out (fun k_ hk_ _ => oth10 hk_.2))
              clear HS BL BR BX HI HX HU hz0 hz1 hz2 hz3 hz4 hz5 hz6 hz7 hz8 hz9 hf0 hf1 hf2 hf3 hf4 hf5 hf6 hf7 hf8 hf9
              generalize ((((((((((w12.setCell ⟨g8, 0, none⟩ (.int .i64 x.f0.f0)).setCell ⟨g8, 1, none⟩ (.int .i64 x.f0.f1)).setCell ⟨g8, 2, none⟩ (.int .i64 x.f1.f0)).setCell ⟨g8, 3, none⟩ (.int .i64 x.f1.f1)).setCell ⟨g8, 4, none⟩ (.int .i64 x.f1.f2)).setCell ⟨g8, 5, none⟩ (.int .i64 x.f2)).setCell ⟨g8, 6, none⟩ (.int .i64 x.f3)).setCell ⟨g8, 7, none⟩ (.bool x.f4)).setCell ⟨g8, 8, none⟩ (.int .i64 x.f5)).setCell ⟨g8, 9, none⟩ (.slice A9 x.f6.length c9)) = w13 at BX_ BL_ BR_ HS_ HI_ HX_ HU_ ⊢
              have HS := HS_
              have BL := BL_
              have BR := BR_
              have BX := BX_
              have HI := HI_
              have HX := HX_
              have HU := HU_
              clear HS_ BL_ BR_ BX_ HI_ HX_ HU_
              obtain ⟨Ar, cr, hrb_, hrc_, hrl_⟩ := HS.out.box
              have RB := Aside0.mk hrb_
              have RC := Aside0.mk hrc_
              have RLn := Aside0.mk hrl_
              obtain ⟨s0, s1, t0, t1⟩ := box2 hrb_
              clear hrb_ hrc_ hrl_ HW2 HRd TKC
              obtain ⟨t1_, t2_, t3_⟩ := tt
              dsimp only at *
              cases t3_ with
              | true =>
                go_upto_region 16 with (go_at_call 41; exact HS.out)
                have HS_ := Aside0.mk (show RS w (w13.setCell ⟨gr, 1, none⟩ (.bool true)) gr (sr (i + 1)) from by
                  rw [SN.out]
                  exact ⟨⟨Ar, cr, blk_put RB.out 1 _ rfl, RC.out, RLn.out⟩, below_set HS.out.bel GR.out, GR.out⟩)
                have BL_ := Aside0.mk ((Below.heap_setCell w13 (⟨gr, 1, none⟩ : Addr) (.bool true) gl NE3.out.symm).trans BL.out)
                have BR_ := Aside0.mk ((Below.heap_setCell w13 (⟨gr, 1, none⟩ : Addr) (.bool true) g2 NE1.out).trans BR.out)
                have BX_ := Aside0.mk ((Below.heap_setCell w13 (⟨gr, 1, none⟩ : Addr) (.bool true) g8 NB3.out.symm).trans BX.out)
                have HI_ := Aside0.mk (Kd.R_far (p := ⟨gr, 1, none⟩) HI.out (fun k_ hk_ => hk_.1) (.bool true))
                have HX_ := Aside0.mk (Kd.R_far (p := ⟨gr, 1, none⟩) HX.out (fun k_ hk_ => hk_.1) (.bool true))
                have HU_ := Aside0.mk (Kd.S_far (p := ⟨gr, 1, none⟩) HU.out (fun k_ hk_ => hk_.1.1) (.bool true))
                clear HS BL BR BX HI HX HU RB RC RLn
                generalize w13.setCell ⟨gr, 1, none⟩ (.bool true) = w14 at HS_ BL_ BR_ BX_ HI_ HX_ HU_ ⊢
                have HS := HS_
                have BL := BL_
                have BR := BR_
                have BX := BX_
                have HI := HI_
                have HX := HX_
                have HU := HU_
                clear HS_ BL_ BR_ BX_ HI_ HX_ HU_ s0 s1 t0 t1
                obtain ⟨hz0, hz1, hz2, hz3, hz4, hz5, hz6, hz7, hz8, hz9⟩ := box10 BX.out
                have y7 : w14.cell? ⟨gl, 7, none⟩ = some ur := (blk_cell BL.out 7).trans rfl
                go_wp2_with ((with_reducible refine gate_builtin (b := .append) (xs := #[.tmp 70, .tmp 72]) rfl ?_); at_builtin; refine Kd.S_append k28 (w0 := w) w.heap.size rfl (.tmp 70) (.tmp 72) 43 28 (.agg #[(.int .i64 0), (.int .i64 0), (.int .i64 0), (.int .i64 0), (.int .i64 0), (.int .i64 0), (.int .i64 0), (.bool false), (.int .i64 0), (.slice none 0 0)]) 96 rfl Try.underlying43 info28 rfl (by decide) (by omega) ur (Rs.take i) x [.int .i64 x.f0.f0, .int .i64 x.f0.f1, .int .i64 x.f1.f0, .int .i64 x.f1.f1, .int .i64 x.f1.f2, .int .i64 x.f2, .int .i64 x.f3, .bool x.f4, .int .i64 x.f5, .slice A9 x.f6.length c9] (fun k_ => k_ ≠ gr ∧ k_ ≠ g8) (fun k_ => some k_ = (.slice A9 x.f6.length c9 : Value).ownBlock) rfl rfl ?aP (fun k_ hk_ => (Kd.R_mono (ok' := fun k_ => (fun k_ => k_ ≠ gr ∧ k_ ≠ g8) k_ ∧ some k_ ≠ (ur : Value).ownBlock) (Kd.R_apart' HX.out (Kd.S_typed HU.out) (by decide)) (fun k_ hk => ⟨hk.1, hk.2⟩)).1 k_ hk_.symm) ?aF ?aO ?aB ?aS ?aL ?_; (case aP => exact k28_mkM _ _ _ x (Kd.R_mono (Kd.R_tight rfl (Kd.R_mono (ok' := fun k_ => (fun k_ => k_ ≠ gr ∧ k_ ≠ g8) k_ ∧ some k_ ≠ (ur : Value).ownBlock) (Kd.R_apart' HX.out (Kd.S_typed HU.out) (by decide)) (fun k_ hk => ⟨hk.1, hk.2⟩))) (fun _ h_ => h_))); (case aB => exact HS.out.bel); (case aF => exact (fun k_ hk_ => by have h1 := blk_lt BX.out; obtain ⟨_, _, hx_, _⟩ := HS.out.box; have h2 := blk_lt hx_; omega)); (case aO => exact Kd.S_mono HU.out (fun k_ hk => ⟨⟨hk.1.1, hk.2⟩, fun e_ => hk.1.2 e_⟩)); (case aS => exact HS.out.bel.size); (case aL => rw [List.length_take]; have := RL.out; omega); intro u2 w15 ho hb hg hat; rw [QE.out] at ho; have lt_gr := Aside0.mk (by obtain ⟨_, _, hx_, _⟩ := HS.out.box; exact blk_lt hx_ : gr < w14.heap.size); have ne_gr := Aside0.mk (by obtain ⟨_, _, hx_, _⟩ := HS.out.box; exact Kd.S_ne HU.out hx_ (by decide) : some gr ≠ (ur : Value).ownBlock); replace HI := Aside0.mk (Kd.R_over' HI.out (Kd.S_typed HU.out) (by decide) hg); replace BL := Aside0.mk (blk_grown BL.out hg (Kd.S_ne HU.out BL.out (by decide))); replace BR := Aside0.mk (blk_grown BR.out hg (Kd.S_ne HU.out BR.out (by decide))); replace HS := Aside0.mk (HS.out.keep (hg.block _ lt_gr.out ne_gr.out) hb); replace HU := Aside0.mk ho; obtain ⟨Au2, cu2, rfl, _, _⟩ := Kd.S_reads ho; clear y7; have y7 : w15.cell? ⟨gl, 7, none⟩ = some ur := (blk_cell BL.out 7).trans rfl; have y8 := blk_frozen BL.out 7; clear ho hb hg hat lt_gr ne_gr)
                go_roundg d
                case measure => omega
                case rel => exact ⟨i + 1, _, by go_num, ⟨by have := E1.out; omega⟩, ⟨HS.out.keep (Below.heap_setCell _ _ _ _ NE3.out) (below_set HS.out.bel GL.out)⟩, ⟨blk_put BL.out 7 _ rfl⟩, ⟨(Below.heap_setCell _ _ _ _ NE2.out).trans BR.out⟩, ⟨Kd.R_mono (Kd.R_set HI.out BL.out (by decide) 7 _) (fun _ h => h.1)⟩, ⟨by rw [T1.out]; exact Kd.S_mono (Kd.S_set HU.out BL.out (by decide) 7 _) (fun _ h => h.1)⟩⟩
              | false =>
                by_cases he : e = 0
                · subst he
                  go_upto_region 16 with (go_at_call 41; exact HS.out)
                  have HS_ := Aside0.mk (show RS w (w13.setCell ⟨gr, 1, none⟩ (.bool false)) gr (sr (i + 1)) from by
                    rw [SN.out]
                    exact ⟨⟨Ar, cr, blk_put RB.out 1 _ rfl, RC.out, RLn.out⟩, below_set HS.out.bel GR.out, GR.out⟩)
                  have BL_ := Aside0.mk ((Below.heap_setCell w13 (⟨gr, 1, none⟩ : Addr) (.bool false) gl NE3.out.symm).trans BL.out)
                  have BR_ := Aside0.mk ((Below.heap_setCell w13 (⟨gr, 1, none⟩ : Addr) (.bool false) g2 NE1.out).trans BR.out)
                  have BX_ := Aside0.mk ((Below.heap_setCell w13 (⟨gr, 1, none⟩ : Addr) (.bool false) g8 NB3.out.symm).trans BX.out)
                  have HI_ := Aside0.mk (Kd.R_far (p := ⟨gr, 1, none⟩) HI.out (fun k_ hk_ => hk_.1) (.bool false))
                  have HX_ := Aside0.mk (Kd.R_far (p := ⟨gr, 1, none⟩) HX.out (fun k_ hk_ => hk_.1) (.bool false))
                  have HU_ := Aside0.mk (Kd.S_far (p := ⟨gr, 1, none⟩) HU.out (fun k_ hk_ => hk_.1.1) (.bool false))
                  clear HS BL BR BX HI HX HU RB RC RLn
                  generalize w13.setCell ⟨gr, 1, none⟩ (.bool false) = w14 at HS_ BL_ BR_ BX_ HI_ HX_ HU_ ⊢
                  have HS := HS_
                  have BL := BL_
                  have BR := BR_
                  have BX := BX_
                  have HI := HI_
                  have HX := HX_
                  have HU := HU_
                  clear HS_ BL_ BR_ BX_ HI_ HX_ HU_ s0 s1 t0 t1
                  obtain ⟨hz0, hz1, hz2, hz3, hz4, hz5, hz6, hz7, hz8, hz9⟩ := box10 BX.out
                  have y7 : w14.cell? ⟨gl, 7, none⟩ = some ur := (blk_cell BL.out 7).trans rfl
                  go_wp2_with ((with_reducible refine gate_builtin (b := .append) (xs := #[.tmp 70, .tmp 72]) rfl ?_); at_builtin; refine Kd.S_append k28 (w0 := w) w.heap.size rfl (.tmp 70) (.tmp 72) 43 28 (.agg #[(.int .i64 0), (.int .i64 0), (.int .i64 0), (.int .i64 0), (.int .i64 0), (.int .i64 0), (.int .i64 0), (.bool false), (.int .i64 0), (.slice none 0 0)]) 96 rfl Try.underlying43 info28 rfl (by decide) (by omega) ur (Rs.take i) x [.int .i64 x.f0.f0, .int .i64 x.f0.f1, .int .i64 x.f1.f0, .int .i64 x.f1.f1, .int .i64 x.f1.f2, .int .i64 x.f2, .int .i64 x.f3, .bool x.f4, .int .i64 x.f5, .slice A9 x.f6.length c9] (fun k_ => k_ ≠ gr ∧ k_ ≠ g8) (fun k_ => some k_ = (.slice A9 x.f6.length c9 : Value).ownBlock) rfl rfl ?aP (fun k_ hk_ => (Kd.R_mono (ok' := fun k_ => (fun k_ => k_ ≠ gr ∧ k_ ≠ g8) k_ ∧ some k_ ≠ (ur : Value).ownBlock) (Kd.R_apart' HX.out (Kd.S_typed HU.out) (by decide)) (fun k_ hk => ⟨hk.1, hk.2⟩)).1 k_ hk_.symm) ?aF ?aO ?aB ?aS ?aL ?_; (case aP => exact k28_mkM _ _ _ x (Kd.R_mono (Kd.R_tight rfl (Kd.R_mono (ok' := fun k_ => (fun k_ => k_ ≠ gr ∧ k_ ≠ g8) k_ ∧ some k_ ≠ (ur : Value).ownBlock) (Kd.R_apart' HX.out (Kd.S_typed HU.out) (by decide)) (fun k_ hk => ⟨hk.1, hk.2⟩))) (fun _ h_ => h_))); (case aB => exact HS.out.bel); (case aF => exact (fun k_ hk_ => by have h1 := blk_lt BX.out; obtain ⟨_, _, hx_, _⟩ := HS.out.box; have h2 := blk_lt hx_; omega)); (case aO => exact Kd.S_mono HU.out (fun k_ hk => ⟨⟨hk.1.1, hk.2⟩, fun e_ => hk.1.2 e_⟩)); (case aS => exact HS.out.bel.size); (case aL => rw [List.length_take]; have := RL.out; omega); intro u2 w15 ho hb hg hat; rw [QE.out] at ho; have lt_gr := Aside0.mk (by obtain ⟨_, _, hx_, _⟩ := HS.out.box; exact blk_lt hx_ : gr < w14.heap.size); have ne_gr := Aside0.mk (by obtain ⟨_, _, hx_, _⟩ := HS.out.box; exact Kd.S_ne HU.out hx_ (by decide) : some gr ≠ (ur : Value).ownBlock); replace HI := Aside0.mk (Kd.R_over' HI.out (Kd.S_typed HU.out) (by decide) hg); replace BL := Aside0.mk (blk_grown BL.out hg (Kd.S_ne HU.out BL.out (by decide))); replace BR := Aside0.mk (blk_grown BR.out hg (Kd.S_ne HU.out BR.out (by decide))); replace HS := Aside0.mk (HS.out.keep (hg.block _ lt_gr.out ne_gr.out) hb); replace HU := Aside0.mk ho; obtain ⟨Au2, cu2, rfl, _, _⟩ := Kd.S_reads ho; clear y7; have y7 : w15.cell? ⟨gl, 7, none⟩ = some ur := (blk_cell BL.out 7).trans rfl; have y8 := blk_frozen BL.out 7; clear ho hb hg hat lt_gr ne_gr)
                  go_roundg d
                  case measure => omega
                  case rel => exact ⟨i + 1, _, by go_num, ⟨by have := E1.out; omega⟩, ⟨HS.out.keep (Below.heap_setCell _ _ _ _ NE3.out) (below_set HS.out.bel GL.out)⟩, ⟨blk_put BL.out 7 _ rfl⟩, ⟨(Below.heap_setCell _ _ _ _ NE2.out).trans BR.out⟩, ⟨Kd.R_mono (Kd.R_set HI.out BL.out (by decide) 7 _) (fun _ h => h.1)⟩, ⟨by rw [T1.out]; exact Kd.S_mono (Kd.S_set HU.out BL.out (by decide) 7 _) (fun _ h => h.1)⟩⟩
                · have he2 : (e != 0) = true := bne_iff_ne.2 he
                  replace SN := Aside0.mk (show sr (i + 1) = (t2_, true) from by rw [SN.out, decide_eq_true (show e ≠ 0 from he)]; rfl)
                  go_upto_region 16 with (go_at_call 41; exact HS.out)
                  have HS_ := Aside0.mk (show RS w (w13.setCell ⟨gr, 1, none⟩ (.bool true)) gr (sr (i + 1)) from by
                    rw [SN.out]
                    exact ⟨⟨Ar, cr, blk_put RB.out 1 _ rfl, RC.out, RLn.out⟩, below_set HS.out.bel GR.out, GR.out⟩)
                  have BL_ := Aside0.mk ((Below.heap_setCell w13 (⟨gr, 1, none⟩ : Addr) (.bool true) gl NE3.out.symm).trans BL.out)
                  have BR_ := Aside0.mk ((Below.heap_setCell w13 (⟨gr, 1, none⟩ : Addr) (.bool true) g2 NE1.out).trans BR.out)
                  have BX_ := Aside0.mk ((Below.heap_setCell w13 (⟨gr, 1, none⟩ : Addr) (.bool true) g8 NB3.out.symm).trans BX.out)
                  have HI_ := Aside0.mk (Kd.R_far (p := ⟨gr, 1, none⟩) HI.out (fun k_ hk_ => hk_.1) (.bool true))
                  have HX_ := Aside0.mk (Kd.R_far (p := ⟨gr, 1, none⟩) HX.out (fun k_ hk_ => hk_.1) (.bool true))
                  have HU_ := Aside0.mk (Kd.S_far (p := ⟨gr, 1, none⟩) HU.out (fun k_ hk_ => hk_.1.1) (.bool true))
                  clear HS BL BR BX HI HX HU RB RC RLn
                  generalize w13.setCell ⟨gr, 1, none⟩ (.bool true) = w14 at HS_ BL_ BR_ BX_ HI_ HX_ HU_ ⊢
                  have HS := HS_
                  have BL := BL_
                  have BR := BR_
                  have BX := BX_
                  have HI := HI_
                  have HX := HX_
                  have HU := HU_
                  clear HS_ BL_ BR_ BX_ HI_ HX_ HU_ s0 s1 t0 t1
                  obtain ⟨hz0, hz1, hz2, hz3, hz4, hz5, hz6, hz7, hz8, hz9⟩ := box10 BX.out
                  have y7 : w14.cell? ⟨gl, 7, none⟩ = some ur := (blk_cell BL.out 7).trans rfl
                  go_wp2_with ((with_reducible refine gate_builtin (b := .append) (xs := #[.tmp 70, .tmp 72]) rfl ?_); at_builtin; refine Kd.S_append k28 (w0 := w) w.heap.size rfl (.tmp 70) (.tmp 72) 43 28 (.agg #[(.int .i64 0), (.int .i64 0), (.int .i64 0), (.int .i64 0), (.int .i64 0), (.int .i64 0), (.int .i64 0), (.bool false), (.int .i64 0), (.slice none 0 0)]) 96 rfl Try.underlying43 info28 rfl (by decide) (by omega) ur (Rs.take i) x [.int .i64 x.f0.f0, .int .i64 x.f0.f1, .int .i64 x.f1.f0, .int .i64 x.f1.f1, .int .i64 x.f1.f2, .int .i64 x.f2, .int .i64 x.f3, .bool x.f4, .int .i64 x.f5, .slice A9 x.f6.length c9] (fun k_ => k_ ≠ gr ∧ k_ ≠ g8) (fun k_ => some k_ = (.slice A9 x.f6.length c9 : Value).ownBlock) rfl rfl ?aP (fun k_ hk_ => (Kd.R_mono (ok' := fun k_ => (fun k_ => k_ ≠ gr ∧ k_ ≠ g8) k_ ∧ some k_ ≠ (ur : Value).ownBlock) (Kd.R_apart' HX.out (Kd.S_typed HU.out) (by decide)) (fun k_ hk => ⟨hk.1, hk.2⟩)).1 k_ hk_.symm) ?aF ?aO ?aB ?aS ?aL ?_; (case aP => exact k28_mkM _ _ _ x (Kd.R_mono (Kd.R_tight rfl (Kd.R_mono (ok' := fun k_ => (fun k_ => k_ ≠ gr ∧ k_ ≠ g8) k_ ∧ some k_ ≠ (ur : Value).ownBlock) (Kd.R_apart' HX.out (Kd.S_typed HU.out) (by decide)) (fun k_ hk => ⟨hk.1, hk.2⟩))) (fun _ h_ => h_))); (case aB => exact HS.out.bel); (case aF => exact (fun k_ hk_ => by have h1 := blk_lt BX.out; obtain ⟨_, _, hx_, _⟩ := HS.out.box; have h2 := blk_lt hx_; omega)); (case aO => exact Kd.S_mono HU.out (fun k_ hk => ⟨⟨hk.1.1, hk.2⟩, fun e_ => hk.1.2 e_⟩)); (case aS => exact HS.out.bel.size); (case aL => rw [List.length_take]; have := RL.out; omega); intro u2 w15 ho hb hg hat; rw [QE.out] at ho; have lt_gr := Aside0.mk (by obtain ⟨_, _, hx_, _⟩ := HS.out.box; exact blk_lt hx_ : gr < w14.heap.size); have ne_gr := Aside0.mk (by obtain ⟨_, _, hx_, _⟩ := HS.out.box; exact Kd.S_ne HU.out hx_ (by decide) : some gr ≠ (ur : Value).ownBlock); replace HI := Aside0.mk (Kd.R_over' HI.out (Kd.S_typed HU.out) (by decide) hg); replace BL := Aside0.mk (blk_grown BL.out hg (Kd.S_ne HU.out BL.out (by decide))); replace BR := Aside0.mk (blk_grown BR.out hg (Kd.S_ne HU.out BR.out (by decide))); replace HS := Aside0.mk (HS.out.keep (hg.block _ lt_gr.out ne_gr.out) hb); replace HU := Aside0.mk ho; obtain ⟨Au2, cu2, rfl, _, _⟩ := Kd.S_reads ho; clear y7; have y7 : w15.cell? ⟨gl, 7, none⟩ = some ur := (blk_cell BL.out 7).trans rfl; have y8 := blk_frozen BL.out 7; clear ho hb hg hat lt_gr ne_gr)
                  go_roundg d
                  case measure => omega
                  case rel => exact ⟨i + 1, _, by go_num, ⟨by have := E1.out; omega⟩, ⟨HS.out.keep (Below.heap_setCell _ _ _ _ NE3.out) (below_set HS.out.bel GL.out)⟩, ⟨blk_put BL.out 7 _ rfl⟩, ⟨(Below.heap_setCell _ _ _ _ NE2.out).trans BR.out⟩, ⟨Kd.R_mono (Kd.R_set HI.out BL.out (by decide) 7 _) (fun _ h => h.1)⟩, ⟨by rw [T1.out]; exact Kd.S_mono (Kd.S_set HU.out BL.out (by decide) 7 _) (fun _ h => h.1)⟩⟩
            | zero =>
              obtain rfl : i = Rs.length := by have := E1.out; omega
              have hU := HU.out
              rw [List.take_of_length_le (Nat.le_refl _)] at hU
              obtain ⟨Aq, cq, rfl, _, _⟩ := Kd.S_reads hU
              replace HU := Aside0.mk (Kd.S_mono (Kd.S_types hU BR.out (by decide)) (fun _ h => h) : Kd.S k28 28 wr w.heap.size (fun k_ => k_ ≠ gr ∧ k_ ≠ g2) _ Rs)
              replace HI := Aside0.mk (Kd.R_types HI.out BR.out (by decide) : Kd.R (Kd.int .i64) 3 wr w.heap.size (fun k_ => k_ ≠ gr ∧ k_ ≠ g2) _ P)
              clear hU E1 HRS RL
              obtain ⟨s8, hs8⟩ : ∃ s, sr Rs.length = s := ⟨_, rfl⟩
              obtain ⟨rest, bad⟩ := s8
              have hS := HS.out
              rw [hs8] at hS
              obtain ⟨⟨Ar, cr, hr_, hCr_, _⟩, hB_, _⟩ := hS
              dsimp only at hr_ hCr_
              have hbig : rest.length ≤ 9223372036854775807 := hCr_.2.1
              have HB := Aside0.mk hB_
              have E8 := Aside0.mk hs8
              obtain ⟨s0, s1, _, _⟩ := box2 hr_
              clear HS hr_ hCr_ hB_ HC HL hs8
              obtain ⟨z0, z1, z2, z3, z4, z5, z6, z7⟩ := box8 BL.out
              obtain ⟨y0, y1, y2, y3, y4, y5, y6, y7⟩ := frz8 BR.out
              obtain ⟨x0, x1, x2, x3, x4, x5, x6, x7⟩ := box8 BR.out
              cases bad with
              | true =>
                have EA := Aside0.mk (show ans2 (sr Rs.length) v q (.slice Au P.length cu) (.slice Aq Rs.length cq) = .tuple #[.agg #[.int .i64 0, .int .i64 0, .int .i64 0, .int .i64 0, .int .i64 0, .int .i64 0, .slice none 0 0, .slice none 0 0], .int .i64 2] from by rw [E8.out]; unfold ans2; rw [if_pos (.inl rfl)])
                go_wp2
                refine bodyPost_ret (results_ct rfl _ _ g2 45 #[.int .i64 0, .int .i64 0, .int .i64 0, .int .i64 0, .int .i64 0, .int .i64 0, .slice none 0 0, .slice none 0 0] (0, 0) _ rfl (set8 BR.out) Try.underlying45 rfl (by kernel_rfl)) rfl ?_
                exact ⟨_, _, (congrArg Ending.returned EA.out).symm, Kd.R_mono (Kd.R_step HI.out (fun k_ hk_ _ => oth8 (fun e_ => hk_.2 e_))) (fun _ _ => trivial), Kd.S_mono (Kd.S_step HU.out (fun k_ hk_ _ => oth8 (fun e_ => hk_.2 e_))) (fun _ _ => trivial), bel8 HB.out G2.out⟩
              | false =>
                by_cases hrest : rest = []
                · subst hrest
                  cases q with
                  | false =>
                    have EA := Aside0.mk (show ans2 (sr Rs.length) v false (.slice Au P.length cu) (.slice Aq Rs.length cq) = .tuple #[.agg #[.int .i64 0, .int .i64 0, .int .i64 0, .int .i64 0, .int .i64 0, .int .i64 0, .slice none 0 0, .slice none 0 0], .int .i64 2] from by rw [E8.out]; unfold ans2; rw [if_pos (.inr (.inr rfl))])
                    go_wp2_with (go_at_call 39; (try (refine gate_guard (by rfl) ?_; dsimp only)); (with_reducible refine (right.calls (v 0) (v 1) (v 2) (v 3) (v 4) (v 5) Au cu P Aq cq Rs false _ (Kd.R_reads' HI.out).2.2 (Kd.R_reads' HI.out).2.1 (Kd.S_reads' HU.out).2.2 (Kd.S_reads' HU.out).2.1 HQ.out).mono ?_); rintro e5 w20 ⟨rfl, hb_⟩; replace BL := Aside0.mk (blk_below BL.out hb_); replace BR := Aside0.mk (blk_below BR.out hb_); replace HI := Aside0.mk (Kd.R_below HI.out hb_); replace HU := Aside0.mk (Kd.S_below HU.out hb_); replace HB := Aside0.mk (below_step HB.out hb_); clear hb_ z0 z1 z2 z3 z4 z5 z6 z7 y0 y1 y2 y3 y4 y5 y6 y7 x0 x1 x2 x3 x4 x5 x6 x7; obtain ⟨z0, z1, z2, z3, z4, z5, z6, z7⟩ := box8 BL.out; obtain ⟨y0, y1, y2, y3, y4, y5, y6, y7⟩ := frz8 BR.out; obtain ⟨x0, x1, x2, x3, x4, x5, x6, x7⟩ := box8 BR.out)
                    refine bodyPost_ret (results_ct rfl _ _ g2 45 #[.int .i64 0, .int .i64 0, .int .i64 0, .int .i64 0, .int .i64 0, .int .i64 0, .slice none 0 0, .slice none 0 0] (0, 0) _ rfl (set8 BR.out) Try.underlying45 rfl (by kernel_rfl)) rfl ?_
                    exact ⟨_, _, (congrArg Ending.returned EA.out).symm, Kd.R_mono (Kd.R_step HI.out (fun k_ hk_ _ => oth8 (fun e_ => hk_.2 e_))) (fun _ _ => trivial), Kd.S_mono (Kd.S_step HU.out (fun k_ hk_ _ => oth8 (fun e_ => hk_.2 e_))) (fun _ _ => trivial), bel8 HB.out G2.out⟩
                  | true =>
                    have EA := Aside0.mk (show ans2 (sr Rs.length) v true (.slice Au P.length cu) (.slice Aq Rs.length cq) = .tuple #[.agg #[.int .i64 (v 0), .int .i64 (v 1), .int .i64 (v 2), .int .i64 (v 3), .int .i64 (v 4), .int .i64 (v 5), .slice Au P.length cu, .slice Aq Rs.length cq], .int .i64 0] from by rw [E8.out]; unfold ans2; rw [if_neg (by simp)])
                    go_wp2_with (go_at_call 39; (try (refine gate_guard (by rfl) ?_; dsimp only)); (with_reducible refine (right.calls (v 0) (v 1) (v 2) (v 3) (v 4) (v 5) Au cu P Aq cq Rs true _ (Kd.R_reads' HI.out).2.2 (Kd.R_reads' HI.out).2.1 (Kd.S_reads' HU.out).2.2 (Kd.S_reads' HU.out).2.1 HQ.out).mono ?_); rintro e5 w20 ⟨rfl, hb_⟩; replace BL := Aside0.mk (blk_below BL.out hb_); replace BR := Aside0.mk (blk_below BR.out hb_); replace HI := Aside0.mk (Kd.R_below HI.out hb_); replace HU := Aside0.mk (Kd.S_below HU.out hb_); replace HB := Aside0.mk (below_step HB.out hb_); clear hb_ z0 z1 z2 z3 z4 z5 z6 z7 y0 y1 y2 y3 y4 y5 y6 y7 x0 x1 x2 x3 x4 x5 x6 x7; obtain ⟨z0, z1, z2, z3, z4, z5, z6, z7⟩ := box8 BL.out; obtain ⟨y0, y1, y2, y3, y4, y5, y6, y7⟩ := frz8 BR.out; obtain ⟨x0, x1, x2, x3, x4, x5, x6, x7⟩ := box8 BR.out)
                    refine bodyPost_ret (results_ct rfl _ _ g2 45 #[.int .i64 (v 0), .int .i64 (v 1), .int .i64 (v 2), .int .i64 (v 3), .int .i64 (v 4), .int .i64 (v 5), .slice Au P.length cu, .slice Aq Rs.length cq] (0, 0) _ rfl (set8 BR.out) Try.underlying45 rfl (by kernel_rfl)) rfl ?_
                    exact ⟨_, _, (congrArg Ending.returned EA.out).symm, Kd.R_mono (Kd.R_step HI.out (fun k_ hk_ _ => oth8 (fun e_ => hk_.2 e_))) (fun _ _ => trivial), Kd.S_mono (Kd.S_step HU.out (fun k_ hk_ _ => oth8 (fun e_ => hk_.2 e_))) (fun _ _ => trivial), bel8 HB.out G2.out⟩
                · have hpos2 : 0 < rest.length := List.length_pos_iff.2 hrest
                  have hpos : 0 < (rest.length : Int) := by omega
                  have hpd : decide (0 < (rest.length : Int)) = true := decide_eq_true hpos
                  have hpe : decide (0 < rest.length) = true := decide_eq_true hpos2
                  have EA := Aside0.mk (show ans2 (sr Rs.length) v q (.slice Au P.length cu) (.slice Aq Rs.length cq) = .tuple #[.agg #[.int .i64 0, .int .i64 0, .int .i64 0, .int .i64 0, .int .i64 0, .int .i64 0, .slice none 0 0, .slice none 0 0], .int .i64 2] from by rw [E8.out]; unfold ans2; rw [if_pos (.inr (.inl hrest))])
                  go_wp2
                  refine bodyPost_ret (results_ct rfl _ _ g2 45 #[.int .i64 0, .int .i64 0, .int .i64 0, .int .i64 0, .int .i64 0, .int .i64 0, .slice none 0 0, .slice none 0 0] (0, 0) _ rfl (set8 BR.out) Try.underlying45 rfl (by kernel_rfl)) rfl ?_
                  exact ⟨_, _, (congrArg Ending.returned EA.out).symm, Kd.R_mono (Kd.R_step HI.out (fun k_ hk_ _ => oth8 (fun e_ => hk_.2 e_))) (fun _ _ => trivial), Kd.S_mono (Kd.S_step HU.out (fun k_ hk_ _ => oth8 (fun e_ => hk_.2 e_))) (fun _ _ => trivial), bel8 HB.out G2.out⟩
end Go.Proofs.Ytjcfmfdkligmoaa.Lg
