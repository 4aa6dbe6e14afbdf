/- The document's reader of numbers (fountainref14): what 'get' answers, and what the reader is behind it. 34: its number; 65: the reader's type; 26: []byte. Conditions: those that stand in the theorem. -/
import Derived.Test.YtjcfmfdkligmoaaProg
import Derived.Test.YtjcfmfdkligmoaaYtjcfmfdkligmoaaWWords
import Derived.WalkKit
import Derived.ProofKit
import Derived.Deep.LoopGhost
import Derived.Deep.Draws
import Derived.Shelf.Abstract
namespace Go.Proofs.Ytjcfmfdkligmoaa.Rr
open Go.RowKit Go.Proofs.YtjcfmfdkligmoaaW.PrintWords Go.Proofs.YtjcfmfdkligmoaaW.PrintLast Go.Proofs.YtjcfmfdkligmoaaW.PrintMore
theorem info5 : (Try.prog.info? 5).map (fun i => (i.zero, i.size, i.bytes)) = some (some (.int .u8 0), 1, 1) := by kernel_rfl
def wh (l : List Int) : Int := l.foldl (fun x a => Go.bits .or .i64 (wrap64 (x * 256)) (wrap64 a)) 0
theorem wh_snoc (l : List Int) (a : Int) : wh (l ++ [a]) = Go.bits .or .i64 (wrap64 (wh l * 256)) (wrap64 a) := by unfold wh; rw [List.foldl_append]; rfl
theorem take_next (L : List Int) (k : Nat) (h : k < L.length) : L.take (k + 1) = L.take k ++ [rd L (k : Int)] := by
 rw [List.take_add_one, List.getElem?_eq_getElem h]
 unfold rd
 rw [Int.toNat_natCast, List.getD_eq_getElem?_getD, List.getElem?_eq_getElem h]; rfl
def gbad (L : List Int) (bad : Bool) (n : Nat) : Bool := bad || decide (L.length < n)
def gval (L : List Int) (bad : Bool) (n : Nat) : Int := if gbad L bad n = true then 0 else wh (L.take n)
def grest (L : List Int) (bad : Bool) (n : Nat) : List Int := if gbad L bad n = true then L else L.drop n
set_option maxHeartbeats 2000000 in
theorem get.calls (w0 : World) (g : Nat) (A : Option Addr) (c : Nat) (L : List Int) (bad : Bool) (n : Nat) (w : World)
 (hg : w0.heap.size ≤ g) (hb : Below w0.heap.size w0 w) (hbox : w.heap[g]? = some (.cells #[.slice A L.length c, .bool bad] 65 (0, 0)))
 (hr : (Kd.int .u8).C w0 A L.length L) (hc : L.length ≤ c) (hn : n < 2 ^ 30) :
 Calls Try.prog 34 #[.pointer (some ⟨g, 0, none⟩), .int .i64 n] w fun e w' => ∃ A' c', e = .returned (.int .i64 (gval L bad n)) ∧
  w'.heap[g]? = some (.cells #[.slice A' (grest L bad n).length c', .bool (gbad L bad n)] 65 (0, 0)) ∧ (Kd.int .u8).C w0 A' (grest L bad n).length (grest L bad n) ∧ (grest L bad n).length ≤ c' ∧
  Below w0.heap.size w0 w' ∧ w'.heap.size = w.heap.size ∧ ∀ k, k ≠ g → w'.heap[k]? = w.heap[k]? := by
 have HR := Aside0.mk hr
 have HB := Aside0.mk hb
 have BK := Aside0.mk hbox
 have hz0 : w.cell? ⟨g, 0, none⟩ = some (.slice A L.length c) := (blk_cell hbox 0).trans rfl
 have hz1 : w.cell? ⟨g, 1, none⟩ = some (.bool bad) := (blk_cell hbox 1).trans rfl
 have hf0 := blk_frozen hbox 0
 have hf1 := blk_frozen hbox 1
 clear hr hb hbox
 cases bad with
 | true =>
  have eb : gbad L true n = true := rfl
  have ev : gval L true n = 0 := if_pos eb
  have er : grest L true n = L := if_pos eb
  rw [eb, ev, er]
  go_enter Try.func34, Try.ntmps34
  go_wp2
  go_ret
  exact ⟨A, c, rfl, blk_put BK.out 1 _ rfl, HR.out, hc, below_set HB.out hg, by simp, fun k hk => Below.heap_setCell _ _ _ k hk⟩
 | false =>
  by_cases hl : L.length < n
  ·have eb : gbad L false n = true := by simp [gbad, hl]
   have ev : gval L false n = 0 := if_pos eb
   have er : grest L false n = L := if_pos eb
   have hlz : decide ((L.length : Int) < (n : Int)) = true := decide_eq_true (by omega)
   rw [eb, ev, er]
   go_enter Try.func34, Try.ntmps34
   go_wp2
   go_ret
   exact ⟨A, c, rfl, blk_put BK.out 1 _ rfl, HR.out, hc, below_set HB.out hg, by simp, fun k hk => Below.heap_setCell _ _ _ k hk⟩
  ·have eb : gbad L false n = false := by simp [gbad]; omega
   have ev : gval L false n = wh (L.take n) := if_neg (by rw [eb]; decide)
   have er : grest L false n = L.drop n := if_neg (by rw [eb]; decide)
   have hlz : decide ((L.length : Int) < (n : Int)) = false := decide_eq_false (by omega)
   rw [eb, ev, er]
   obtain ⟨i0, hi0, _, hsz0, _⟩ := info_parts info5
   obtain ⟨A', hcut, hA, hC⟩ := print_drop_of (P := Try.prog) (Value.int .u8) 0 26 5 .i64 Try.underlying26 hi0 hsz0 A c L (n : Int) (by omega) (by omega) hc
   rw [Int.toNat_natCast] at hcut hA hC
   go_enter Try.func34, Try.ntmps34
   go_wp2
   go_loopg [5, 6] n (fun gg s5 s6 wr => ∃ kk : Nat, kk ≤ n ∧ n - kk ≤ gg ∧ s5 = .int .i64 (wh (L.take kk)) ∧ s6 = .int .i64 kk ∧ wr = w)
   case atStart => exact ⟨0, Nat.zero_le _, by omega, rfl, rfl, rfl⟩
   case round =>
    obtain ⟨kk, hkk, hgg, rfl, rfl, rfl⟩ := hrel
    by_cases hlt : kk < n
    ·have hltz : (kk : Int) < (n : Int) := by omega
     obtain ⟨ad, rfl, hcell⟩ := Kd.at_int (Kd.C_below HR.out HB.out) (kk : Int) (by omega) (by omega)
     rw [Int.toNat_natCast] at hcell
     go_wp2
     go_roundg (n - (kk + 1))
     case measure => omega
     case rel => exact ⟨kk + 1, by omega, by omega, by rw [take_next L kk (by omega), wh_snoc], by go_num, rfl⟩
    ·have hltz : ¬ (kk : Int) < (n : Int) := by omega
     obtain rfl : kk = n := by omega
     go_wp2
     go_ret
     have hC1 : (Kd.int .u8).C w0 A' (L.length - kk) (L.drop kk) := by
      have h := Kd.C_of_reads (h1 := fun _ => rfl) (hA _ (Kd.reads_of_C HR.out))
      rw [List.length_drop] at h
      exact h
     rw [List.length_drop] at hC
     exact ⟨rfl, A', c - kk, blk_put BK.out 0 _ rfl, hC1, by omega, below_set HB.out hg, by simp, fun k hk => Below.heap_setCell _ _ _ k hk⟩
end Go.Proofs.Ytjcfmfdkligmoaa.Rr
