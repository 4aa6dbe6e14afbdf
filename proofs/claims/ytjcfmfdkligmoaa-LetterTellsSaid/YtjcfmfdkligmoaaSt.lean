/- A string made of bytes tells the bytes. No program is in sight; conditions: those that stand in the theorems. -/
import Derived.Test.YtjcfmfdkligmoaaYtjcfmfdkligmoaaWWords
namespace Go.Proofs.Ytjcfmfdkligmoaa.St
open Go Go.RowKit
theorem loop_eq (bs : ByteArray) (d : Nat) : ∀ (i : Nat) (r : List UInt8), i + d = bs.size → ByteArray.toList.loop bs i r = r.reverse ++ bs.data.toList.drop i := by
  induction d with
  | zero =>
    intro i r h
    unfold ByteArray.toList.loop
    rw [if_neg (by omega), List.drop_eq_nil_of_le (by rw [Array.length_toList]; show bs.size ≤ i; omega), List.append_nil]
  | succ d ih =>
    intro i r h
    unfold ByteArray.toList.loop
    rw [if_pos (by omega), ih (i + 1) _ (by omega)]
    have hi : i < bs.data.toList.length := by rw [Array.length_toList]; exact Nat.lt_of_lt_of_le (show i < bs.size by omega) (Nat.le_refl _)
    rw [List.drop_eq_getElem_cons hi, List.reverse_cons, List.append_assoc, List.singleton_append]
    congr 2
    show bs.data[i]! = _
    rw [getElem!_pos bs.data i (by simpa using hi)]
    simp
theorem toList_eq (bs : ByteArray) : bs.toList = bs.data.toList := by
  unfold ByteArray.toList
  rw [loop_eq bs bs.size 0 [] (by omega)]
  rfl
theorem str_inj {a c : List Int} (ha : ∀ x ∈ a, 0 ≤ x ∧ x ≤ 255) (hc : ∀ x ∈ c, 0 ≤ x ∧ x ≤ 255) (h : (strOfNums a).toList = (strOfNums c).toList) : a = c := by
  rw [toList_eq, toList_eq, strOfNums_data, strOfNums_data] at h
  induction a generalizing c with
  | nil => cases c with
    | nil => rfl
    | cons y c => simp at h
  | cons x a ih => cases c with
    | nil => simp at h
    | cons y c =>
      rw [List.map_cons, List.map_cons] at h
      injection h with h1 h2
      have hx := ha x List.mem_cons_self
      have hy := hc y List.mem_cons_self
      have h3 := congrArg UInt8.toNat h1
      rw [UInt8.toNat_ofNat', UInt8.toNat_ofNat', Nat.mod_eq_of_lt (by omega), Nat.mod_eq_of_lt (by omega)] at h3
      rw [ih (fun z hz => ha z (List.mem_cons_of_mem _ hz)) (fun z hz => hc z (List.mem_cons_of_mem _ hz)) h2, show x = y by omega]
end Go.Proofs.Ytjcfmfdkligmoaa.St
