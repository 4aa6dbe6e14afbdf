/- A row of bytes that can be read at a world, however its value is written: it stays so while nothing that was there is changed, and a string can be made of it. No program is in sight. -/
import Derived.Test.YtjcfmfdkligmoaaWMore
namespace Go.Proofs.Ytjcfmfdkligmoaa.Xr
open Go.RowKit Go.Proofs.YtjcfmfdkligmoaaW.PrintWords Go.Proofs.YtjcfmfdkligmoaaW.PrintLast Go.Proofs.YtjcfmfdkligmoaaW.PrintMore
def Rd (w : World) (v : Value) (xs : List Int) : Prop := ∃ A c, v = .slice A xs.length c ∧ (Kd.int .u8).C w A xs.length xs
theorem Rd_C {w : World} {A : Option Addr} {c : Nat} {xs : List Int} (h : (Kd.int .u8).C w A xs.length xs) : Rd w (.slice A xs.length c) xs := ⟨A, c, rfl, h⟩
theorem Rd_R {e : Nat} {w : World} {base : Nat} {ok : Nat → Prop} {v : Value} {xs : List Int} (h : (Kd.int .u8).R e w base ok v xs) : Rd w v xs := by
  obtain ⟨A, c, rfl⟩ := Kd.R_slice h
  exact ⟨A, c, rfl, (Kd.R_reads' h).2.2⟩
theorem Rd_V {e : Nat} {w : World} {base : Nat} {ok : Nat → Prop} {v : Value} {xs : List Int} (h : (Kd.int .u8).V e w base ok v xs) : Rd w v xs := by
  obtain ⟨A, c, rfl⟩ := Kd.V_slice h
  exact ⟨A, c, by rw [(Kd.V_at h).1], (Kd.V_reads' h).2.2⟩
theorem Rd_below {w w' : World} {v : Value} {xs : List Int} (h : Rd w v xs) (hb : Below w.heap.size w w') : Rd w' v xs := by
  obtain ⟨A, c, e, h⟩ := h
  exact ⟨A, c, e, Kd.C_below h hb⟩
theorem Rd_alloc {w : World} {v : Value} {xs : List Int} (h : Rd w v xs) (o : Obj) : Rd (w.alloc o) v xs := by
  obtain ⟨A, c, e, h⟩ := h
  exact ⟨A, c, e, Kd.C_alloc h o⟩
theorem Rd_string {P : Program} {w : World} {src dst e : TypeId} {v : Value} {xs : List Int} (hs : P.underlying src = some (.slice e)) (he : P.underlying e = some (.int .u8)) (hd : P.underlying dst = some .string)
    (h : Rd w v xs) : (convert src dst v).run P w = .ok (.string (strOfNums xs)) w := by
  obtain ⟨A, c, rfl, h⟩ := h
  exact Kd.C_string hs he hd h
end Go.Proofs.Ytjcfmfdkligmoaa.Xr
