/- The contracts of decode.Block, decode.Enough and the document's Decode, as the print calls them. Conditions: those that stand in the theorems. -/
import Derived.Test.YtbfhinfblepidaaDb
import Derived.Test.YtbfhinfblepidaaDe
namespace Go.Proofs.Ytbfhinfblepidaa.Pd
open Go.RowKit Go.Lib Go.Proofs.Ytbfhinfblepidaa.PDecodeTells Go.Proofs.YtbfhinfblepidaaW.PrintWords Go.Proofs.YtbfhinfblepidaaW.PrintLast Go.Proofs.YtbfhinfblepidaaW.PrintMore
noncomputable def dblock.f (K z : Int) (D : List S111) : Option (List (List Int) × Int) := Pz.ev fun k => Db.dblock.f k K z D
theorem dblock.calls (a0 a1 : Int) (A2 : Option Addr) (c2 : Nat) (D : List S111) (r1 : List (List Int)) (r2 : Int) (w : World) (hr2 : k111.C w A2 D.length D) (hc2 : D.length ≤ c2) (h : dblock.f a0 a1 D = some (r1, r2)) :
    Calls Try.prog 55 #[.int .i64 a0, .int .i64 a1, .slice A2 D.length c2] w fun e w' => ∃ v0_ : Value, e = .returned (.tuple #[v0_, .int .i64 r2]) ∧ Kd.S (Kd.slice 5 (Kd.int .u8)) 31 w' w.heap.size (fun _ => True) v0_ r1 ∧ Below w.heap.size w w' := by
  obtain ⟨k, hk⟩ := Pz.ev_at h
  exact Db.dblock.calls k a0 a1 A2 c2 D (r1, r2) w hr2 hc2 hk
noncomputable def denough.f (K : Int) (es : List Int) : Option Bool := Pz.ev fun k => De.denough.f k K es
theorem denough.calls (a0 : Int) (A1 : Option Addr) (c1 : Nat) (es : List Int) (r : Bool) (w : World) (hr1 : (Kd.int .i64).C w A1 es.length es) (hc1 : es.length ≤ c1) (h : denough.f a0 es = some r) :
    Calls Try.prog 59 #[.int .i64 a0, .slice A1 es.length c1] w fun e w' => e = .returned (.bool r) ∧ Below w.heap.size w w' := by
  obtain ⟨k, hk⟩ := Pz.ev_at h
  exact De.denough.calls k a0 A1 c1 es r w hr1 hc1 hk
end Go.Proofs.Ytbfhinfblepidaa.Pd
