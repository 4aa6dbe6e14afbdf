/- letter.Read of bytes that tell neither peers nor records. Conditions: those that stand in the theorems. Written by mklq.py. -/
import Derived.Test.YtjcfmfdkligmoaaLr
namespace Go.Proofs.Ytjcfmfdkligmoaa.Lq
open Go.RowKit Go.Lib Go.Proofs.Ytjcfmfdkligmoaa.PRecordTells Go.Proofs.Ytjcfmfdkligmoaa.PLetterLimits Go.Proofs.Ytjcfmfdkligmoaa.Lt Go.Proofs.Ytjcfmfdkligmoaa.Lr Go.Proofs.YtjcfmfdkligmoaaW.PrintWords Go.Proofs.YtjcfmfdkligmoaaW.PrintLast Go.Proofs.YtjcfmfdkligmoaaW.PrintMore
set_option linter.unusedVariables false
set_option linter.unusedSimpArgs false
set_option maxHeartbeats 8000000
set_option maxRecDepth 100000
section
variable {w w0 : World} {g k : Nat} {t : TypeId} {a b c d e f p q x0 x1 x2 x3 x4 x5 x6 x7 : Value}
theorem set8 (h : w.heap[g]? = some (.cells #[x0, x1, x2, x3, x4, x5, x6, x7] t (0, 0))) : (((((((((w.setCell ⟨g, 0, none⟩ (a)).setCell ⟨g, 1, none⟩ (b)).setCell ⟨g, 2, none⟩ (c)).setCell ⟨g, 3, none⟩ (d)).setCell ⟨g, 4, none⟩ (e)).setCell ⟨g, 5, none⟩ (f)).setCell ⟨g, 6, none⟩ (p)).setCell ⟨g, 7, none⟩ (q))).heap[g]? = some (.cells #[a, b, c, d, e, f, p, q] t (0, 0)) :=
  blk_put (blk_put (blk_put (blk_put (blk_put (blk_put (blk_put (blk_put h 0 a rfl) 1 b rfl) 2 c rfl) 3 d rfl) 4 e rfl) 5 f rfl) 6 p rfl) 7 q rfl
theorem oth8 (h : k ≠ g) : (((((((((w.setCell ⟨g, 0, none⟩ (a)).setCell ⟨g, 1, none⟩ (b)).setCell ⟨g, 2, none⟩ (c)).setCell ⟨g, 3, none⟩ (d)).setCell ⟨g, 4, none⟩ (e)).setCell ⟨g, 5, none⟩ (f)).setCell ⟨g, 6, none⟩ (p)).setCell ⟨g, 7, none⟩ (q))).heap[k]? = w.heap[k]? := by
  simp only [Below.heap_setCell _ (⟨g, _, none⟩ : Addr) _ k h]
theorem bel8 (h : Below w0.heap.size w0 w) (hg : w0.heap.size ≤ g) : Below w0.heap.size w0 (((((((((w.setCell ⟨g, 0, none⟩ (a)).setCell ⟨g, 1, none⟩ (b)).setCell ⟨g, 2, none⟩ (c)).setCell ⟨g, 3, none⟩ (d)).setCell ⟨g, 4, none⟩ (e)).setCell ⟨g, 5, none⟩ (f)).setCell ⟨g, 6, none⟩ (p)).setCell ⟨g, 7, none⟩ (q))) :=
  below_set (below_set (below_set (below_set (below_set (below_set (below_set (below_set h hg) hg) hg) hg) hg) hg) hg) hg
end
theorem frz8 {w : World} {g : Nat} {t : TypeId} {cs : Array Value} (h : w.heap[g]? = some (.cells cs t (0, 0))) : w.frozen? ⟨g, 0, none⟩ = false ∧ w.frozen? ⟨g, 1, none⟩ = false ∧ w.frozen? ⟨g, 2, none⟩ = false ∧ w.frozen? ⟨g, 3, none⟩ = false ∧ w.frozen? ⟨g, 4, none⟩ = false ∧ w.frozen? ⟨g, 5, none⟩ = false ∧ w.frozen? ⟨g, 6, none⟩ = false ∧ w.frozen? ⟨g, 7, none⟩ = false :=
  ⟨blk_frozen h 0, blk_frozen h 1, blk_frozen h 2, blk_frozen h 3, blk_frozen h 4, blk_frozen h 5, blk_frozen h 6, blk_frozen h 7⟩
def wd (i : Nat) : Nat := if i = 0 ∨ 6 ≤ i then 1 else 4
def st (bs : List Int) : Nat → List Int × Bool
  | 0 => (bs, false)
  | i + 1 => (tk (wd i) (st bs i)).2
def vw (k : Nat) (bs : List Int) (i : Nat) : Option Int := record_Whole.f k (tk (wd i) (st bs i)).1
theorem num.calls (k : Nat) (w0 : World) (g : Nat) (bs : List Int) (i : Nat) (z : Int) (v : Int) (w : World) (hS : RS w0 w g (st bs i)) (hz : z = ((wd i : Nat) : Int)) (h : vw k bs i = some v) :
    Calls Try.prog 41 #[.pointer (some ⟨g, 0, none⟩), .int .i64 z] w fun e w' => e = .returned (.int .i64 v) ∧ RS w0 w' g (st bs (i + 1)) ∧ KeepBut w w' g none := by
  subst hz
  exact number.calls k w0 g (st bs i) (wd i) v w hS (by unfold wd; split <;> decide) h
abbrev let8 (v : Nat → Int) : Array Value := #[.int .i64 (v 0), .int .i64 (v 1), .int .i64 (v 2), .int .i64 (v 3), .int .i64 (v 4), .int .i64 (v 5), .slice none 0 0, .slice none 0 0]
def cellAt (v : Nat → Int) (i : Nat) : Array Value := #[.int .i64 (v 0), .int .i64 (if 1 ≤ i then v 1 else 0), .int .i64 (if 2 ≤ i then v 2 else 0), .int .i64 (if 3 ≤ i then v 3 else 0), .int .i64 (if 4 ≤ i then v 4 else 0), .int .i64 (if 5 ≤ i then v 5 else 0), .slice none 0 0, .slice none 0 0]
def ans (bs : List Int) (v : Nat → Int) (q : Bool) : Value := if (st bs 8).2 = true ∨ (st bs 8).1 ≠ [] ∨ q = false then .tuple #[.agg #[.int .i64 0, .int .i64 0, .int .i64 0, .int .i64 0, .int .i64 0, .int .i64 0, .slice none 0 0, .slice none 0 0], .int .i64 2] else .tuple #[.agg (let8 v), .int .i64 0]
theorem read0.calls (k : Nat) (A : Option Addr) (c : Nat) (bs : List Int) (v : Nat → Int) (q : Bool) (w : World) (hC : (Kd.int .u8).C w A bs.length bs) (hl : bs.length ≤ c) (hv : ∀ i, i < 8 → vw k bs i = some (v i)) (h6 : v 6 = 0) (h7 : v 7 = 0) (hq : right.f (v 0) (v 1) (v 2) (v 3) (v 4) (v 5) [] [] = some q) :
    Calls Try.prog 21 #[.slice A bs.length c] w fun e w' => e = .returned (ans bs v q) ∧ Below w.heap.size w w' := by
  have hu45 := Try.underlying45
  have HC := Aside0.mk hC
  have HL := Aside0.mk hl
  have HV := Aside0.mk hv
  have HQ := Aside0.mk hq
  have V6 := Aside0.mk h6
  have V7 := Aside0.mk h7
  have HB := Aside0.mk (Below.refl w.heap.size w)
  clear hC hl hv hq h6 h7
  go_enter Try.func21, Try.ntmps21
  go_upto_region 3 with (first | ((with_reducible refine gate_dst (N := 2) rfl ?_); refine box_event ?hg (N := 2) ?hd (cs := #[.int .i64 0, .int .i64 0, .int .i64 0, .int .i64 0, .int .i64 0, .int .i64 0, .slice none 0 0, .slice none 0 0]) (t := 45) ?hr ?_; (case hd => rfl); (case hg => rfl); (case hr => first | (go_simp; done) | (go_simp; rfl)); intro g2 hg w2 hbox hb; have BR := Aside0.mk hbox; have G2 := Aside0.mk (by rw [hg]; exact bels : w.heap.size ≤ g2); replace HB := Aside0.mk (belt hb); clear hbox hb hg) | ((with_reducible refine gate_dst (N := 12) rfl ?_); refine box_event ?hg (N := 12) ?hd (cs := #[.slice A bs.length c, .bool false]) (t := 73) ?hr ?_; (case hd => rfl); (case hg => rfl); (case hr => first | (go_simp; done) | (go_simp; rfl)); intro gr hg w3 hbox hb; have NE1 := Aside0.mk (by have := blk_lt BR.out; rw [hg]; omega : g2 ≠ gr); replace BR := Aside0.mk (blk_below BR.out hb); have GR := Aside0.mk (by rw [hg]; exact bels : w.heap.size ≤ gr); replace HB := Aside0.mk (belt hb); have HS := Aside0.mk (⟨⟨A, c, hbox, HC.out, HL.out⟩, HB.out, GR.out⟩ : RS w _ gr (st bs 0)); clear hbox hb hg) | (go_at_call 41; (with_reducible refine (num.calls k w gr bs 0 1 (v 0) _ ?sS ?sz (HV.out 0 ?si)).mono ?_); (case sS => exact HS.out); (case sz => rfl); (case si => omega); rintro e w4 ⟨rfl, hS_, hk_⟩; replace BR := Aside0.mk (hk_.blk BR.out NE1.out (by simp)); replace HS := Aside0.mk hS_; replace HB := Aside0.mk hS_.bel; clear hS_ hk_) | ((with_reducible refine gate_dst (N := 5) rfl ?_); refine box_event ?hg (N := 5) ?hd (cs := #[.int .i64 0, .int .i64 0, .int .i64 0, .int .i64 0, .int .i64 0, .int .i64 0, .slice none 0 0, .slice none 0 0]) (t := 45) ?hr ?_; (case hd => rfl); (case hg => rfl); (case hr => first | (go_simp; done) | (go_simp; rfl)); intro gl hg w5 hbox hb; have NE2 := Aside0.mk (by have := blk_lt BR.out; rw [hg]; omega : g2 ≠ gl); have NE3 := Aside0.mk (by obtain ⟨_, _, hx_, _⟩ := HS.out.box; have := blk_lt hx_; rw [hg]; omega : gr ≠ gl); replace BR := Aside0.mk (blk_below BR.out hb); have GL := Aside0.mk (by rw [hg]; exact bels : w.heap.size ≤ gl); replace HS := Aside0.mk (HS.out.keep (by obtain ⟨_, _, hx_, _⟩ := HS.out.box; exact hb.block _ (blk_lt hx_)) (belt hb)); replace HB := Aside0.mk HS.out.bel; have BL := Aside0.mk hbox; obtain ⟨hz0, hz1, hz2, hz3, hz4, hz5, hz6, hz7⟩ := box8 hbox; obtain ⟨hf0, hf1, hf2, hf3, hf4, hf5, hf6, hf7⟩ := frz8 hbox; clear hbox hb hg))
  have BL_ := Aside0.mk (show (((((((((w5.setCell ⟨gl, 0, none⟩ (.int .i64 (v 0))).setCell ⟨gl, 1, none⟩ (.int .i64 0)).setCell ⟨gl, 2, none⟩ (.int .i64 0)).setCell ⟨gl, 3, none⟩ (.int .i64 0)).setCell ⟨gl, 4, none⟩ (.int .i64 0)).setCell ⟨gl, 5, none⟩ (.int .i64 0)).setCell ⟨gl, 6, none⟩ (.slice none 0 0)).setCell ⟨gl, 7, none⟩ (.slice none 0 0))).heap[gl]? = some (.cells #[.int .i64 (v 0), .int .i64 0, .int .i64 0, .int .i64 0, .int .i64 0, .int .i64 0, .slice none 0 0, .slice none 0 0] 45 (0, 0)) from set8 BL.out)
  have HS_ := Aside0.mk (show RS w (((((((((w5.setCell ⟨gl, 0, none⟩ (.int .i64 (v 0))).setCell ⟨gl, 1, none⟩ (.int .i64 0)).setCell ⟨gl, 2, none⟩ (.int .i64 0)).setCell ⟨gl, 3, none⟩ (.int .i64 0)).setCell ⟨gl, 4, none⟩ (.int .i64 0)).setCell ⟨gl, 5, none⟩ (.int .i64 0)).setCell ⟨gl, 6, none⟩ (.slice none 0 0)).setCell ⟨gl, 7, none⟩ (.slice none 0 0))) gr (st bs 1) from HS.out.keep (oth8 NE3.out) (bel8 HB.out GL.out))
  have BR_ := Aside0.mk (show (((((((((w5.setCell ⟨gl, 0, none⟩ (.int .i64 (v 0))).setCell ⟨gl, 1, none⟩ (.int .i64 0)).setCell ⟨gl, 2, none⟩ (.int .i64 0)).setCell ⟨gl, 3, none⟩ (.int .i64 0)).setCell ⟨gl, 4, none⟩ (.int .i64 0)).setCell ⟨gl, 5, none⟩ (.int .i64 0)).setCell ⟨gl, 6, none⟩ (.slice none 0 0)).setCell ⟨gl, 7, none⟩ (.slice none 0 0))).heap[g2]? = some (.cells #[.int .i64 0, .int .i64 0, .int .i64 0, .int .i64 0, .int .i64 0, .int .i64 0, .slice none 0 0, .slice none 0 0] 45 (0, 0)) from (oth8 NE2.out).trans BR.out)
  clear BL HS BR HB hz0 hz1 hz2 hz3 hz4 hz5 hz6 hz7 hf0 hf1 hf2 hf3 hf4 hf5 hf6 hf7
  generalize ((((((((w5.setCell ⟨gl, 0, none⟩ (.int .i64 (v 0))).setCell ⟨gl, 1, none⟩ (.int .i64 0)).setCell ⟨gl, 2, none⟩ (.int .i64 0)).setCell ⟨gl, 3, none⟩ (.int .i64 0)).setCell ⟨gl, 4, none⟩ (.int .i64 0)).setCell ⟨gl, 5, none⟩ (.int .i64 0)).setCell ⟨gl, 6, none⟩ (.slice none 0 0)).setCell ⟨gl, 7, none⟩ (.slice none 0 0)) = w6 at BL_ HS_ BR_ ⊢
  go_wp2
  obtain ⟨gp, hgp⟩ : ∃ gp, w6.heap.size = gp := ⟨_, rfl⟩
  have lt_gr : gr < w6.heap.size := by obtain ⟨_, _, hx_, _⟩ := HS_.out.box; exact blk_lt hx_
  have lt_gl := blk_lt BL_.out
  have lt_g2 := blk_lt BR_.out
  have NE4 := Aside0.mk (show gp ≠ gr by omega)
  have NE5 := Aside0.mk (show gp ≠ gl by omega)
  have W7 : Below w6.heap.size w6 (w6.alloc (.cells #[.pointer (some ⟨gl, 1, none⟩), .pointer (some ⟨gl, 2, none⟩), .pointer (some ⟨gl, 3, none⟩), .pointer (some ⟨gl, 4, none⟩), .pointer (some ⟨gl, 5, none⟩)] 74)) := below_alloc (Below.refl _ _) _
  have GP := Aside0.mk (show (w6.alloc (.cells #[.pointer (some ⟨gl, 1, none⟩), .pointer (some ⟨gl, 2, none⟩), .pointer (some ⟨gl, 3, none⟩), .pointer (some ⟨gl, 4, none⟩), .pointer (some ⟨gl, 5, none⟩)] 74)).heap[gp]? = some (.cells #[.pointer (some ⟨gl, 1, none⟩), .pointer (some ⟨gl, 2, none⟩), .pointer (some ⟨gl, 3, none⟩), .pointer (some ⟨gl, 4, none⟩), .pointer (some ⟨gl, 5, none⟩)] 74 (0, 0)) from by rw [← hgp]; exact blk_new w6 _)
  have BL := Aside0.mk (blk_below BL_.out W7)
  have BR := Aside0.mk (blk_below BR_.out W7)
  have HS := Aside0.mk (HS_.out.keep (W7.block _ lt_gr) (below_step HS_.out.bel W7))
  rw [hgp]
  clear BL_ BR_ HS_ lt_gr lt_gl lt_g2 hgp
  generalize w6.alloc (.cells #[.pointer (some ⟨gl, 1, none⟩), .pointer (some ⟨gl, 2, none⟩), .pointer (some ⟨gl, 3, none⟩), .pointer (some ⟨gl, 4, none⟩), .pointer (some ⟨gl, 5, none⟩)] 74) = w7 at W7 GP BL BR HS ⊢
  clear W7
  go_loopg [7, 25] 5 (fun gg v7 v25 wr_ => ∃ i : Nat, v25 = .int .i64 (i : Int) ∧ Aside0 (i + gg = 5) ∧ Aside0 (RS w wr_ gr (st bs (i + 1))) ∧ Aside0 (wr_.heap[gl]? = some (.cells (cellAt v i) 45 (0, 0))) ∧ Aside0 (wr_.heap[g2]? = some (.cells #[.int .i64 0, .int .i64 0, .int .i64 0, .int .i64 0, .int .i64 0, .int .i64 0, .slice none 0 0, .slice none 0 0] 45 (0, 0))) ∧ Aside0 (wr_.heap[gp]? = some (.cells #[.pointer (some ⟨gl, 1, none⟩), .pointer (some ⟨gl, 2, none⟩), .pointer (some ⟨gl, 3, none⟩), .pointer (some ⟨gl, 4, none⟩), .pointer (some ⟨gl, 5, none⟩)] 74 (0, 0))))
  case atStart => exact ⟨0, by simp, ⟨rfl⟩, ⟨HS.out⟩, ⟨BL.out⟩, ⟨BR.out⟩, ⟨GP.out⟩⟩
  case round =>
    clear HS BL BR GP
    obtain ⟨i, rfl, E1, HS, BL, BR, GP⟩ := hrel
    cases gk with
    | succ d =>
      rcases (by have := E1.out; omega : i = 0 ∨ i = 1 ∨ i = 2 ∨ i = 3 ∨ i = 4) with rfl | rfl | rfl | rfl | rfl
      · have p0 : wr.cell? ⟨gp, 0, none⟩ = some (.pointer (some ⟨gl, 1, none⟩)) := (blk_cell GP.out 0).trans rfl
        go_wp2_with (go_at_call 41; (with_reducible refine (num.calls k w gr bs 1 4 (v 1) _ ?sS ?sz (HV.out 1 ?si)).mono ?_); (case sS => exact HS.out); (case sz => rfl); (case si => omega); rintro e w8 ⟨rfl, hS_, hk_⟩; replace BL := Aside0.mk (hk_.blk BL.out NE3.out.symm (by simp)); replace BR := Aside0.mk (hk_.blk BR.out NE1.out (by simp)); replace GP := Aside0.mk (hk_.blk GP.out NE4.out (by simp)); replace HS := Aside0.mk hS_; have hz := (blk_cell BL.out 1).trans (rfl : (cellAt v 0)[1]? = some (.int .i64 0)); have hf := blk_frozen BL.out 1; clear hS_ hk_)
        go_roundg d
        case measure => omega
        case rel => exact ⟨1, by go_num, ⟨by have := E1.out; omega⟩, ⟨HS.out.keep (Below.heap_setCell _ _ _ _ NE3.out) (below_set HS.out.bel GL.out)⟩, ⟨blk_put BL.out 1 _ rfl⟩, ⟨(Below.heap_setCell _ _ _ _ NE2.out).trans BR.out⟩, ⟨(Below.heap_setCell _ _ _ _ NE5.out).trans GP.out⟩⟩
      · have p0 : wr.cell? ⟨gp, 1, none⟩ = some (.pointer (some ⟨gl, 2, none⟩)) := (blk_cell GP.out 1).trans rfl
        go_wp2_with (go_at_call 41; (with_reducible refine (num.calls k w gr bs 2 4 (v 2) _ ?sS ?sz (HV.out 2 ?si)).mono ?_); (case sS => exact HS.out); (case sz => rfl); (case si => omega); rintro e w8 ⟨rfl, hS_, hk_⟩; replace BL := Aside0.mk (hk_.blk BL.out NE3.out.symm (by simp)); replace BR := Aside0.mk (hk_.blk BR.out NE1.out (by simp)); replace GP := Aside0.mk (hk_.blk GP.out NE4.out (by simp)); replace HS := Aside0.mk hS_; have hz := (blk_cell BL.out 2).trans (rfl : (cellAt v 1)[2]? = some (.int .i64 0)); have hf := blk_frozen BL.out 2; clear hS_ hk_)
        go_roundg d
        case measure => omega
        case rel => exact ⟨2, by go_num, ⟨by have := E1.out; omega⟩, ⟨HS.out.keep (Below.heap_setCell _ _ _ _ NE3.out) (below_set HS.out.bel GL.out)⟩, ⟨blk_put BL.out 2 _ rfl⟩, ⟨(Below.heap_setCell _ _ _ _ NE2.out).trans BR.out⟩, ⟨(Below.heap_setCell _ _ _ _ NE5.out).trans GP.out⟩⟩
      · have p0 : wr.cell? ⟨gp, 2, none⟩ = some (.pointer (some ⟨gl, 3, none⟩)) := (blk_cell GP.out 2).trans rfl
        go_wp2_with (go_at_call 41; (with_reducible refine (num.calls k w gr bs 3 4 (v 3) _ ?sS ?sz (HV.out 3 ?si)).mono ?_); (case sS => exact HS.out); (case sz => rfl); (case si => omega); rintro e w8 ⟨rfl, hS_, hk_⟩; replace BL := Aside0.mk (hk_.blk BL.out NE3.out.symm (by simp)); replace BR := Aside0.mk (hk_.blk BR.out NE1.out (by simp)); replace GP := Aside0.mk (hk_.blk GP.out NE4.out (by simp)); replace HS := Aside0.mk hS_; have hz := (blk_cell BL.out 3).trans (rfl : (cellAt v 2)[3]? = some (.int .i64 0)); have hf := blk_frozen BL.out 3; clear hS_ hk_)
        go_roundg d
        case measure => omega
        case rel => exact ⟨3, by go_num, ⟨by have := E1.out; omega⟩, ⟨HS.out.keep (Below.heap_setCell _ _ _ _ NE3.out) (below_set HS.out.bel GL.out)⟩, ⟨blk_put BL.out 3 _ rfl⟩, ⟨(Below.heap_setCell _ _ _ _ NE2.out).trans BR.out⟩, ⟨(Below.heap_setCell _ _ _ _ NE5.out).trans GP.out⟩⟩
      · have p0 : wr.cell? ⟨gp, 3, none⟩ = some (.pointer (some ⟨gl, 4, none⟩)) := (blk_cell GP.out 3).trans rfl
        go_wp2_with (go_at_call 41; (with_reducible refine (num.calls k w gr bs 4 4 (v 4) _ ?sS ?sz (HV.out 4 ?si)).mono ?_); (case sS => exact HS.out); (case sz => rfl); (case si => omega); rintro e w8 ⟨rfl, hS_, hk_⟩; replace BL := Aside0.mk (hk_.blk BL.out NE3.out.symm (by simp)); replace BR := Aside0.mk (hk_.blk BR.out NE1.out (by simp)); replace GP := Aside0.mk (hk_.blk GP.out NE4.out (by simp)); replace HS := Aside0.mk hS_; have hz := (blk_cell BL.out 4).trans (rfl : (cellAt v 3)[4]? = some (.int .i64 0)); have hf := blk_frozen BL.out 4; clear hS_ hk_)
        go_roundg d
        case measure => omega
        case rel => exact ⟨4, by go_num, ⟨by have := E1.out; omega⟩, ⟨HS.out.keep (Below.heap_setCell _ _ _ _ NE3.out) (below_set HS.out.bel GL.out)⟩, ⟨blk_put BL.out 4 _ rfl⟩, ⟨(Below.heap_setCell _ _ _ _ NE2.out).trans BR.out⟩, ⟨(Below.heap_setCell _ _ _ _ NE5.out).trans GP.out⟩⟩
      · have p0 : wr.cell? ⟨gp, 4, none⟩ = some (.pointer (some ⟨gl, 5, none⟩)) := (blk_cell GP.out 4).trans rfl
        go_wp2_with (go_at_call 41; (with_reducible refine (num.calls k w gr bs 5 4 (v 5) _ ?sS ?sz (HV.out 5 ?si)).mono ?_); (case sS => exact HS.out); (case sz => rfl); (case si => omega); rintro e w8 ⟨rfl, hS_, hk_⟩; replace BL := Aside0.mk (hk_.blk BL.out NE3.out.symm (by simp)); replace BR := Aside0.mk (hk_.blk BR.out NE1.out (by simp)); replace GP := Aside0.mk (hk_.blk GP.out NE4.out (by simp)); replace HS := Aside0.mk hS_; have hz := (blk_cell BL.out 5).trans (rfl : (cellAt v 4)[5]? = some (.int .i64 0)); have hf := blk_frozen BL.out 5; clear hS_ hk_)
        go_roundg d
        case measure => omega
        case rel => exact ⟨5, by go_num, ⟨by have := E1.out; omega⟩, ⟨HS.out.keep (Below.heap_setCell _ _ _ _ NE3.out) (below_set HS.out.bel GL.out)⟩, ⟨blk_put BL.out 5 _ rfl⟩, ⟨(Below.heap_setCell _ _ _ _ NE2.out).trans BR.out⟩, ⟨(Below.heap_setCell _ _ _ _ NE5.out).trans GP.out⟩⟩
    | zero =>
      obtain rfl : i = 5 := by have := E1.out; omega
      have BL := Aside0.mk (show wr.heap[gl]? = some (.cells (let8 v) 45 (0, 0)) from BL.out)
      have HV6 := Aside0.mk ((HV.out 6 (by omega)).trans (congrArg some V6.out))
      have HV7 := Aside0.mk ((HV.out 7 (by omega)).trans (congrArg some V7.out))
      clear E1 GP NE4 NE5
      go_wp2_with (go_at_call 41; (with_reducible refine (num.calls k w gr bs 6 1 0 _ ?sS ?sz HV6.out).mono ?_); (case sS => exact HS.out); (case sz => rfl); rintro e w8 ⟨rfl, hS_, hk_⟩; replace BL := Aside0.mk (hk_.blk BL.out NE3.out.symm (by simp)); replace BR := Aside0.mk (hk_.blk BR.out NE1.out (by simp)); replace HS := Aside0.mk hS_; clear hS_ hk_)
      go_loopg [36] 0 (fun gg v36 wr_ => v36 = .int .i64 0 ∧ wr_ = w8)
      case atStart => exact ⟨by simp, rfl⟩
      case round =>
        obtain ⟨rfl, rfl⟩ := hrel
        go_wp2_with (go_at_call 41; (with_reducible refine (num.calls k w gr bs 7 1 0 _ ?sS ?sz HV7.out).mono ?_); (case sS => exact HS.out); (case sz => rfl); rintro e w9 ⟨rfl, hS_, hk_⟩; replace BL := Aside0.mk (hk_.blk BL.out NE3.out.symm (by simp)); replace BR := Aside0.mk (hk_.blk BR.out NE1.out (by simp)); replace HS := Aside0.mk hS_; clear hS_ hk_)
        go_loopg [8, 9, 48] 0 (fun gg v8 v9 v48 wr_ => v48 = .int .i64 0 ∧ wr_ = w9)
        case atStart => exact ⟨by simp, rfl⟩
        case round =>
          obtain ⟨rfl, rfl⟩ := hrel
          obtain ⟨s8, hs8⟩ : ∃ s, st bs 8 = s := ⟨_, rfl⟩
          obtain ⟨rest, bad⟩ := s8
          have hS := HS.out
          rw [hs8] at hS
          obtain ⟨⟨Ar, cr, hr_, hCr_, _⟩, hB_, _⟩ := hS
          dsimp only at hr_ hCr_
          have hbig : rest.length ≤ 9223372036854775807 := hCr_.2.1
          have HB := Aside0.mk hB_
          obtain ⟨s0, s1, _, _⟩ := box2 hr_
          clear HS hr_ hCr_ hB_ HV HV6 HV7 HC HL
          have E8 := Aside0.mk hs8
          clear hs8
          obtain ⟨z0, z1, z2, z3, z4, z5, z6, z7⟩ := box8 BL.out
          obtain ⟨y0, y1, y2, y3, y4, y5, y6, y7⟩ := frz8 BR.out
          obtain ⟨x0, x1, x2, x3, x4, x5, x6, x7⟩ := box8 BR.out
          cases bad with
          | true =>
            have EA := Aside0.mk (show ans bs v q = .tuple #[.agg #[.int .i64 0, .int .i64 0, .int .i64 0, .int .i64 0, .int .i64 0, .int .i64 0, .slice none 0 0, .slice none 0 0], .int .i64 2] from by unfold ans; rw [E8.out, if_pos (.inl rfl)])
            go_wp2
            refine bodyPost_ret (results_ct rfl _ _ g2 45 #[.int .i64 0, .int .i64 0, .int .i64 0, .int .i64 0, .int .i64 0, .int .i64 0, .slice none 0 0, .slice none 0 0] (0, 0) _ rfl (set8 BR.out) Try.underlying45 rfl (by kernel_rfl)) rfl ?_
            exact ⟨(congrArg Ending.returned EA.out).symm, bel8 HB.out G2.out⟩
          | false =>
            by_cases hrest : rest = []
            · subst hrest
              cases q with
              | false =>
                have EA := Aside0.mk (show ans bs v false = .tuple #[.agg #[.int .i64 0, .int .i64 0, .int .i64 0, .int .i64 0, .int .i64 0, .int .i64 0, .slice none 0 0, .slice none 0 0], .int .i64 2] from by unfold ans; rw [if_pos (.inr (.inr rfl))])
                go_wp2_with (go_at_call 39; (try (refine gate_guard (by rfl) ?_; dsimp only)); (refine (right.calls (v 0) (v 1) (v 2) (v 3) (v 4) (v 5) none 0 [] none 0 [] false _ (Kd.C_nil _ _) (Nat.le_refl _) (Kd.C_nil _ _) (Nat.le_refl _) HQ.out).mono ?_); rintro e w10 ⟨rfl, hb_⟩; replace BL := Aside0.mk (blk_below BL.out hb_); replace BR := Aside0.mk (blk_below BR.out hb_); replace HB := Aside0.mk (belt hb_); clear hb_ z0 z1 z2 z3 z4 z5 z6 z7 y0 y1 y2 y3 y4 y5 y6 y7 x0 x1 x2 x3 x4 x5 x6 x7; obtain ⟨z0, z1, z2, z3, z4, z5, z6, z7⟩ := box8 BL.out; obtain ⟨y0, y1, y2, y3, y4, y5, y6, y7⟩ := frz8 BR.out; obtain ⟨x0, x1, x2, x3, x4, x5, x6, x7⟩ := box8 BR.out)
                refine bodyPost_ret (results_ct rfl _ _ g2 45 #[.int .i64 0, .int .i64 0, .int .i64 0, .int .i64 0, .int .i64 0, .int .i64 0, .slice none 0 0, .slice none 0 0] (0, 0) _ rfl (set8 BR.out) Try.underlying45 rfl (by kernel_rfl)) rfl ?_
                exact ⟨(congrArg Ending.returned EA.out).symm, bel8 HB.out G2.out⟩
              | true =>
                have EA := Aside0.mk (show ans bs v true = .tuple #[.agg (let8 v), .int .i64 0] from by unfold ans; rw [E8.out, if_neg (by simp)])
                go_wp2_with (go_at_call 39; (try (refine gate_guard (by rfl) ?_; dsimp only)); (refine (right.calls (v 0) (v 1) (v 2) (v 3) (v 4) (v 5) none 0 [] none 0 [] true _ (Kd.C_nil _ _) (Nat.le_refl _) (Kd.C_nil _ _) (Nat.le_refl _) HQ.out).mono ?_); rintro e w10 ⟨rfl, hb_⟩; replace BL := Aside0.mk (blk_below BL.out hb_); replace BR := Aside0.mk (blk_below BR.out hb_); replace HB := Aside0.mk (belt hb_); clear hb_ z0 z1 z2 z3 z4 z5 z6 z7 y0 y1 y2 y3 y4 y5 y6 y7 x0 x1 x2 x3 x4 x5 x6 x7; obtain ⟨z0, z1, z2, z3, z4, z5, z6, z7⟩ := box8 BL.out; obtain ⟨y0, y1, y2, y3, y4, y5, y6, y7⟩ := frz8 BR.out; obtain ⟨x0, x1, x2, x3, x4, x5, x6, x7⟩ := box8 BR.out)
                refine bodyPost_ret (results_ct rfl _ _ g2 45 (let8 v) (0, 0) _ rfl (set8 BR.out) Try.underlying45 rfl (by kernel_rfl)) rfl ?_
                exact ⟨(congrArg Ending.returned EA.out).symm, bel8 HB.out G2.out⟩
            · have hpos2 : 0 < rest.length := List.length_pos_iff.2 hrest
              have hpos : 0 < (rest.length : Int) := by omega
              have hpd : decide (0 < (rest.length : Int)) = true := decide_eq_true hpos
              have hpe : decide (0 < rest.length) = true := decide_eq_true hpos2
              have EA := Aside0.mk (show ans bs v q = .tuple #[.agg #[.int .i64 0, .int .i64 0, .int .i64 0, .int .i64 0, .int .i64 0, .int .i64 0, .slice none 0 0, .slice none 0 0], .int .i64 2] from by unfold ans; rw [E8.out, if_pos (.inr (.inl hrest))])
              go_wp2
              refine bodyPost_ret (results_ct rfl _ _ g2 45 #[.int .i64 0, .int .i64 0, .int .i64 0, .int .i64 0, .int .i64 0, .int .i64 0, .slice none 0 0, .slice none 0 0] (0, 0) _ rfl (set8 BR.out) Try.underlying45 rfl (by kernel_rfl)) rfl ?_
              exact ⟨(congrArg Ending.returned EA.out).symm, bel8 HB.out G2.out⟩
end Go.Proofs.Ytjcfmfdkligmoaa.Lq
