/- How an object is cut into blocks and symbols, in plain Lean. No program is in sight; no condition but those that stand. -/
import Derived.Test.YtjcfmfdkligmoaaRw
namespace Go.Proofs.Ytjcfmfdkligmoaa.Sp
open Go.Proofs.Ytjcfmfdkligmoaa.Rw

def okS (b s m : Int) : Prop := (1 ≤ b ∧ b ≤ 4000) ∧ (1 ≤ s ∧ s ≤ 64) ∧ (1 ≤ m ∧ m ≤ 40)
instance (b s m : Int) : Decidable (okS b s m) := by unfold okS; infer_instance
def upN (a b : Nat) : Nat := (a - 1) / b + 1
def symN (b s : Nat) : Nat := upN b s
def blkN (b s m : Nat) : Nat := upN (symN b s) m
def kN (b s m i : Nat) : Nat := if i < blkN b s m then symN b s / blkN b s m + (if i < symN b s % blkN b s m then 1 else 0) else 0
theorem upN_le {a b : Nat} (ha : 1 ≤ a) : upN a b ≤ a := by
 unfold upN
 have := Nat.div_le_self (a - 1) b
 omega
theorem upN_pos (a b : Nat) : 1 ≤ upN a b := Nat.succ_le_succ (Nat.zero_le _)
theorem sym_pos (b s : Nat) : 1 ≤ symN b s := upN_pos _ _
theorem sym_le {b s : Nat} (hb : 1 ≤ b) : symN b s ≤ b := upN_le hb
theorem blk_pos (b s m : Nat) : 1 ≤ blkN b s m := upN_pos _ _
theorem blk_le {b s m : Nat} : blkN b s m ≤ symN b s := upN_le (sym_pos b s)
/-- The first i blocks' symbols together. -/
def sumK (b s m : Nat) : Nat → Nat
 | 0 => 0
 | i + 1 => sumK b s m i + kN b s m i
theorem sumK_eq (b s m : Nat) (i : Nat) (hi : i ≤ blkN b s m) : sumK b s m i = i * (symN b s / blkN b s m) + min i (symN b s % blkN b s m) := by
 induction i with
 | zero => simp [sumK]
 | succ i ih =>
  simp only [sumK]
  rw [ih (by omega)]
  unfold kN
  rw [if_pos (by omega), Nat.succ_mul]
  split <;> omega
theorem sumK_all (b s m : Nat) : sumK b s m (blkN b s m) = symN b s := by
 have h := sumK_eq b s m (blkN b s m) (Nat.le_refl _)
 have hp := blk_pos b s m
 have hm := Nat.mod_lt (symN b s) (show 0 < blkN b s m by omega)
 rw [h, Nat.min_eq_right (by omega)]
 exact Nat.div_add_mod _ _
theorem k_le_sym (b s m i : Nat) : kN b s m i ≤ symN b s := by
 unfold kN
 have hp := blk_pos b s m
 have hs := sym_pos b s
 split
 ·by_cases h1 : blkN b s m = 1
  ·rw [h1]; simp; split <;> omega
  ·have h2 : symN b s / blkN b s m < symN b s := Nat.div_lt_self (by omega) (by omega)
   split <;> omega
 ·omega
theorem sumK_mono (b s m : Nat) (i j : Nat) (h : i ≤ j) : sumK b s m i ≤ sumK b s m j := by
 induction j with
 | zero =>
  obtain rfl : i = 0 := by omega
  exact Nat.le_refl _
 | succ j ih =>
  by_cases e : i = j + 1
  ·rw [e]; exact Nat.le_refl _
  ·exact Nat.le_trans (ih (by omega)) (by simp only [sumK]; omega)
theorem sumK_le (b s m : Nat) (i : Nat) (hi : i ≤ blkN b s m) : sumK b s m i ≤ symN b s := by
 rw [← sumK_all b s m]; exact sumK_mono b s m i _ hi

/-- n symbols of s bytes, cut off a row's beginning; the last one is filled with 0. -/
def cutSyms (s : Nat) : Nat → List F → List (List F)
 | 0, _ => []
 | n + 1, d => fitR s (d.take s) :: cutSyms s n (d.drop s)
def cutBlks (b s m : Nat) : Nat → Nat → List F → List (List (List F))
 | 0, _, _ => []
 | n + 1, i, d => cutSyms s (kN b s m i) d :: cutBlks b s m n (i + 1) (d.drop (kN b s m i * s))
def cutAll (b s m : Nat) (d : List F) : List (List (List F)) := cutBlks b s m (blkN b s m) 0 d
theorem cutSyms_length (s n : Nat) : ∀ d, (cutSyms s n d).length = n := by
 induction n with
 | zero => intro d; rfl
 | succ n ih => intro d; simp [cutSyms, ih]
theorem cutSyms_each (s n : Nat) : ∀ d, ∀ r ∈ cutSyms s n d, r.length = s := by
 induction n with
 | zero => intro d r hr; simp [cutSyms] at hr
 | succ n ih =>
  intro d r hr
  rcases List.mem_cons.1 hr with rfl | hr
  ·exact fitR_length _ _
  ·exact ih _ r hr
theorem cutBlks_length (b s m n : Nat) : ∀ i d, (cutBlks b s m n i d).length = n := by
 induction n with
 | zero => intro i d; rfl
 | succ n ih => intro i d; simp [cutBlks, ih]
/-- What n symbols of a row hold together. -/
theorem cutSyms_flat (s n : Nat) : ∀ d, (cutSyms s n d).flatten = fitR (n * s) d := by
 induction n with
 | zero => intro d; simp [cutSyms, fitR]
 | succ n ih =>
  intro d
  simp only [cutSyms, List.flatten_cons, ih]
  unfold fitR
  rw [List.take_take, Nat.min_self, List.length_take, List.length_drop, Nat.succ_mul]
  rcases Nat.le_total s d.length with h | h
  ·rw [Nat.min_eq_left h, Nat.sub_self, List.replicate_zero, List.append_nil, ← List.append_assoc, Nat.add_comm (n * s) s, List.take_add]
   congr 2; omega
  ·have e1 : d.drop s = [] := List.drop_eq_nil_of_le h
   rw [e1, List.take_nil, Nat.min_eq_right h, List.take_of_length_le h, List.take_of_length_le (by omega), List.nil_append, List.append_assoc, List.replicate_append_replicate]
   congr 2; omega
end Go.Proofs.Ytjcfmfdkligmoaa.Sp
