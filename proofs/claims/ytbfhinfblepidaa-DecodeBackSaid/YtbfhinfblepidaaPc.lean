/- The numbers of a block, the drawn numbers, the parts of a symbol, and the rows that tie a block, in plain Lean: what chapters 4 to 7 come to. No program is in sight; no condition. -/
import Derived.Test.YtbfhinfblepidaaRw
import Derived.RowKit
namespace Go.Proofs.Ytbfhinfblepidaa.Pc
open Go.RowKit Go.Proofs.Ytbfhinfblepidaa.Gf
def kS (k : Nat) : Nat := 2 + k / 8
def kW (k : Nat) : Nat := k + kS k
def kL (k : Nat) : Nat := kW k + 2
def stir (a0 : Int) : Int := Go.bits .xor .u32 (((Go.bits .xor .u32 (((Go.bits .xor .u32 a0 (a0 / 65536)) * 2146121005) % 4294967296) ((((Go.bits .xor .u32 a0 (a0 / 65536)) * 2146121005) % 4294967296) / 32768)) * 2221713035) % 4294967296) ((((Go.bits .xor .u32 (((Go.bits .xor .u32 a0 (a0 / 65536)) * 2146121005) % 4294967296) ((((Go.bits .xor .u32 a0 (a0 / 65536)) * 2146121005) % 4294967296) / 32768)) * 2221713035) % 4294967296) / 65536)
theorem xor32_range (x y : Int) : 0 ≤ Go.bits .xor .u32 x y ∧ Go.bits .xor .u32 x y < 4294967296 := by
  have h : Go.bits .xor .u32 x y = IntKind.u32.wrap ((BitVec.ofInt IntKind.u32.bits x ^^^ BitVec.ofInt IntKind.u32.bits y).toNat : Int) := rfl
  rw [h, IntKind.wrap_u32']
  omega
theorem stir_range (x : Int) : 0 ≤ stir x ∧ stir x < 4294967296 := by unfold stir; exact xor32_range _ _
def rnd (y i : Int) (m : Nat) : Nat := (stir ((stir y + (i * 2654435769) % 4294967296) % 4294967296) % (m : Int)).toNat
theorem rnd_lt (y i : Int) {m : Nat} (h : 0 < m) : rnd y i m < m := by
  unfold rnd
  have h1 := stir_range ((stir y + (i * 2654435769) % 4294967296) % 4294967296)
  have h2 := Int.emod_lt_of_pos (stir ((stir y + (i * 2654435769) % 4294967296) % 4294967296)) (b := (m : Int)) (by omega)
  have h3 := Int.emod_nonneg (stir ((stir y + (i * 2654435769) % 4294967296) % 4294967296)) (b := (m : Int)) (by omega)
  omega
theorem rnd_cast (y i : Int) {m : Nat} (h : 0 < m) : stir ((stir y + (i * 2654435769) % 4294967296) % 4294967296) % (m : Int) = (rnd y i m : Int) := by
  unfold rnd
  have h3 := Int.emod_nonneg (stir ((stir y + (i * 2654435769) % 4294967296) % 4294967296)) (b := (m : Int)) (by omega)
  omega
def stepsL : List Int := [5243, 529531, 704294, 791675, 844104, 879057, 904023]
def deg (v : Nat) : Nat := 1 + (stepsL.filter fun s => decide (s ≤ (v : Int))).length
theorem deg_pos (v : Nat) : 1 ≤ deg v := by unfold deg; omega
theorem deg_le (v : Nat) : deg v ≤ 8 := by
  unfold deg
  have := List.length_filter_le (fun s => decide (s ≤ (v : Int))) stepsL
  simp [stepsL] at this ⊢
  omega
def seek : Nat → List Bool → Nat → Nat → Nat
  | 0, _, _, at_ => at_
  | n + 1, met, w, at_ => if met.getD at_ false = true then seek n met w ((at_ + 1) % w) else at_
theorem seek_lt (n : Nat) : ∀ (met : List Bool) (w at_ : Nat), at_ < w → seek n met w at_ < w := by
  induction n with
  | zero => intro met w a h; exact h
  | succ n ih =>
    intro met w a h
    simp only [seek]
    split
    · exact ih _ _ _ (Nat.mod_lt _ (by omega))
    · exact h
def pl (w a b : Nat) : Nat → Nat → List Bool → List Nat → List Nat
  | 0, _, _, out => out
  | n + 1, i, met, out => pl w a b n (i + 1) (met.set (seek w met w ((b + i * a) % w)) true) (out ++ [seek w met w ((b + i * a) % w)])
theorem pl_lt (w a b : Nat) (hw : 0 < w) (n : Nat) : ∀ (i : Nat) (met : List Bool) (out : List Nat), (∀ x ∈ out, x < w) → ∀ x ∈ pl w a b n i met out, x < w := by
  induction n with
  | zero => intro i met out h x hx; exact h x hx
  | succ n ih =>
    intro i met out h x hx
    simp only [pl] at hx
    refine ih _ _ _ ?_ x hx
    intro y hy
    rcases List.mem_append.1 hy with hy | hy
    · exact h y hy
    · simp only [List.mem_singleton] at hy
      subst hy
      exact seek_lt _ _ _ _ (Nat.mod_lt _ hw)
theorem pl_length (w a b : Nat) (n : Nat) : ∀ (i : Nat) (met : List Bool) (out : List Nat), (pl w a b n i met out).length = out.length + n := by
  induction n with
  | zero => intro i met out; rfl
  | succ n ih => intro i met out; simp only [pl]; rw [ih]; simp; omega
def yOf (j esi : Nat) : Int := ((j * 65537 + esi * 31 : Nat) : Int) % 4294967296
def dOf (k j esi : Nat) : Nat := min (kW k) (deg (rnd (yOf j esi) 0 1048576))
def aOf (k j esi : Nat) : Nat := 1 + rnd (yOf j esi) 1 (kW k - 1)
def bOf (k j esi : Nat) : Nat := rnd (yOf j esi) 2 (kW k)
def parts (k j esi : Nat) : List Nat :=
  pl (kW k) (aOf k j esi) (bOf k j esi) (dOf k j esi) 0 (List.replicate (kW k) false) [] ++ [kW k + rnd (yOf j esi) 3 2]
theorem parts_lt (k j esi : Nat) : ∀ x ∈ parts k j esi, x < kL k := by
  intro x hx
  unfold parts at hx
  unfold kL
  rcases List.mem_append.1 hx with hx | hx
  · have := pl_lt (kW k) (aOf k j esi) (bOf k j esi) (by unfold kW kS; omega) _ _ _ _ (by simp) x hx
    omega
  · simp only [List.mem_singleton] at hx
    have := rnd_lt (yOf j esi) 3 (m := 2) (by decide)
    omega
theorem parts_length (k j esi : Nat) : (parts k j esi).length = dOf k j esi + 1 := by
  unfold parts; rw [List.length_append, pl_length]; simp
theorem parts_ne (k j esi : Nat) : parts k j esi ≠ [] := by
  unfold parts; simp
def marks (l : List Nat) (row : List Int) : List Int := l.foldl (fun r x => r.set x 1) row
theorem marks_length (l : List Nat) : ∀ row, (marks l row).length = row.length := by
  induction l with
  | nil => intro row; rfl
  | cons x l ih => intro row; show (marks l (row.set x 1)).length = _; rw [ih]; simp
def partRow (k j esi : Nat) : List Int := marks (parts k j esi) (List.replicate (kL k) 0)
theorem partRow_length (k j esi : Nat) : (partRow k j esi).length = kL k := by unfold partRow; rw [marks_length]; simp
def lowBit (k i c : Nat) : Bool := (c % kS k == i) || ((c / kS k + c + 1) % kS k == i)
def lowVal (k i c : Nat) : Int := if lowBit k i c = true then 1 else 0
def lowRow (k i : Nat) : List Int := ((((List.range k).map (lowVal k i)) ++ List.replicate (kS k + 2) 0).set (k + i) 1).set (kW k + i % 2) 1
def lowRows (k : Nat) : List (List Int) := (List.range (kS k)).map (lowRow k)
def highVal (h c : Nat) : Int := ((pw 2 (rnd (c : Int) ((h : Int) + 7) 255) : Nat) : Int)
def highRow (k h : Nat) : List Int := (((List.range (kW k)).map (highVal h)) ++ List.replicate 2 0).set (kW k + h) 1
def highRows (k : Nat) : List (List Int) := (List.range 2).map (highRow k)
theorem lowRow_length (k i : Nat) : (lowRow k i).length = kL k := by simp [lowRow, kL, kW]; omega
theorem highRow_length (k h : Nat) : (highRow k h).length = kL k := by simp [highRow, kL]
theorem lowRows_length (k : Nat) : (lowRows k).length = kS k := by simp [lowRows]
theorem highRows_length (k : Nat) : (highRows k).length = 2 := by simp [highRows]
def ties (k : Nat) : List (List Int) := lowRows k ++ highRows k
theorem grow_set (A B : List Int) (x v : Int) : (A ++ x :: B).set A.length v = A ++ v :: B := by
  rw [List.set_append_right _ _ (Nat.le_refl _)]; simp
theorem seek_some (n : Nat) : ∀ (met : List Bool) (w at_ : Nat), at_ < w → w ≤ met.length → (∃ j, j < n ∧ met.getD ((at_ + j) % w) false = false) →
    met.getD (seek n met w at_) false = false := by
  induction n with
  | zero => rintro met w a h _ ⟨j, hj, _⟩; omega
  | succ n ih =>
    rintro met w a h hw ⟨j, hj, hm⟩
    simp only [seek]
    split
    · rename_i ht
      refine ih _ _ _ (Nat.mod_lt _ (by omega)) hw ?_
      cases j with
      | zero => rw [Nat.add_zero, Nat.mod_eq_of_lt h, ht] at hm; cases hm
      | succ j =>
        refine ⟨j, by omega, ?_⟩
        rw [Nat.mod_add_mod, show a + 1 + j = a + (j + 1) from by omega]
        exact hm
    · rename_i ht
      simpa using ht
theorem one_left (met : List Bool) (h : met.count true < met.length) : ∃ i, i < met.length ∧ met.getD i false = false := by
  apply Classical.byContradiction
  intro hn
  have : ∀ x ∈ met, x = true := by
    intro x hx
    obtain ⟨i, hi, rfl⟩ := List.mem_iff_getElem.1 hx
    cases hb : met[i] with
    | true => rfl
    | false => exact absurd ⟨i, hi, by rw [List.getD_eq_getElem?_getD, List.getElem?_eq_getElem hi]; simpa using hb⟩ hn
  have h2 : met.count true = met.length := List.count_eq_length.2 (fun b hb => (this b hb).symm)
  omega
theorem seek_free (met : List Bool) (at_ : Nat) (ha : at_ < met.length) (h : met.count true < met.length) : met.getD (seek met.length met met.length at_) false = false := by
  obtain ⟨i, hi, hf⟩ := one_left met h
  refine seek_some met.length met met.length at_ ha (Nat.le_refl _) ⟨(i + met.length - at_) % met.length, Nat.mod_lt _ (by omega), ?_⟩
  rw [Nat.add_mod_mod, show at_ + (i + met.length - at_) = i + met.length from by omega, Nat.add_mod_right, Nat.mod_eq_of_lt hi]
  exact hf
theorem count_set_le (met : List Bool) (s : Nat) (hs : s < met.length) : (met.set s true).count true ≤ met.count true + 1 := by
  rw [List.count_set hs]; simp
end Go.Proofs.Ytbfhinfblepidaa.Pc
