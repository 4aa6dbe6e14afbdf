/- The closure that split.Join hands to slices.ContainsFunc: is a row of another length than the shape's symbols. 56: its number; 48: the type of the boxed shape. Conditions: those that stand in the theorem. -/
import Derived.Test.YtinplhdjgjijiaaCf
namespace Go.Proofs.Ytinplhdjgjijiaa.Jp
open Go.RowKit Go.Lib Go.Proofs.YtinplhdjgjijiaaW.PrintWords Go.Proofs.YtinplhdjgjijiaaW.PrintLast Go.Proofs.YtinplhdjgjijiaaW.PrintMore Go.Proofs.Ytinplhdjgjijiaa.Cf
theorem join_tells (gb : Nat) (b s m : Int) (L : List (List Int)) (w : World) (hbox : w.heap[gb]? = some (.cells #[.int .i64 b, .int .i64 s, .int .i64 m] 48 (0, 0))) :
    Tells 56 #[.pointer (some ⟨gb, 0, none⟩)] (fun r => decide ((r.length : Int) ≠ s)) L w := by
  intro W j A c hj hb hC
  have hlt : gb < w.heap.size := (Array.getElem?_eq_some_iff.1 hbox).1
  have hbox2 : W.heap[gb]? = some (.cells #[.int .i64 b, .int .i64 s, .int .i64 m] 48 (0, 0)) := (hb.block gb hlt).trans hbox
  have hcell : W.cell? ⟨gb, 1, none⟩ = some (.int .i64 s) := (blk_cell hbox2 1).trans rfl
  show Calls Try.prog 56 #[.slice A (rd_L1 L (j : Int)).length c, .pointer (some ⟨gb, 0, none⟩)] W fun e w' => e = .returned (.bool (decide (((rd_L1 L (j : Int)).length : Int) ≠ s))) ∧ Below w.heap.size w w'
  clear hbox2 hbox hC
  generalize (rd_L1 L (j : Int)).length = n
  by_cases h : (n : Int) = s
  · have h1 : ((n : Int) == s) = true := beq_iff_eq.2 h
    have h2 : ((n : Int) != s) = false := bne_eq_false_iff_eq.2 h
    have h3 : decide ((n : Int) ≠ s) = false := decide_eq_false (fun k => k h)
    rw [h3]
    clear h h3
    go_enter Try.func56, Try.ntmps56
    go_wp2
    go_ret
    exact ⟨by simp_all, hb⟩
  · have h1 : ((n : Int) == s) = false := beq_eq_false_iff_ne.2 h
    have h2 : ((n : Int) != s) = true := bne_iff_ne.2 h
    have h3 : decide ((n : Int) ≠ s) = true := decide_eq_true h
    rw [h3]
    clear h h3
    go_enter Try.func56, Try.ntmps56
    go_wp2
    go_ret
    exact ⟨by simp_all, hb⟩
/-- Is one of the rows of another length. -/
def any.f (L : List (List Int)) (s : Int) : Option Bool := some (decide (0 ≤ Cf.idx (fun r => decide ((r.length : Int) ≠ s)) L 0))
theorem any.calls (A : Option Addr) (c : Nat) (L : List (List Int)) (gb : Nat) (b s m : Int) (t : Bool) (w : World) (hr : (Kd.slice 5 (Kd.int .u8)).C w A L.length L) (hc : L.length ≤ c)
    (hbox : w.heap[gb]? = some (.cells #[.int .i64 b, .int .i64 s, .int .i64 m] 48 (0, 0))) (h : any.f L s = some t) :
    Calls Try.prog 55 #[.slice A L.length c, .func (.func 56) #[] #[.pointer (some ⟨gb, 0, none⟩)]] w fun e w' => e = .returned (.bool t) ∧ Below w.heap.size w w' := by
  have e : decide (0 ≤ Cf.idx (fun r => decide ((r.length : Int) ≠ s)) L 0) = t := Option.some.inj h
  rw [← e]
  exact contains_calls 56 _ (fun args w => rfl) _ A c L w hr (join_tells gb b s m L w hbox)
end Go.Proofs.Ytinplhdjgjijiaa.Jp
