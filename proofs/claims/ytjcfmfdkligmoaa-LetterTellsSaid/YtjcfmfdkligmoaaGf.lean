/- The field of 256 elements, over Nat: sums are exclusive ors, products are sums of shifts, reduced; its laws. No program is in sight; no condition. -/
import Derived.Laws.BitsAllLaws
namespace Go.Proofs.Ytjcfmfdkligmoaa.Gf
def xt (a : Nat) : Nat := (2 * a) ^^^ (if a.testBit 7 then 285 else 0)
def mulN : Nat → Nat → Nat → Nat
 | 0, _, _ => 0
 | n + 1, a, b => (if b.testBit 0 then a else 0) ^^^ mulN n (xt a) (b / 2)
def mul (a b : Nat) : Nat := mulN 8 a b
theorem xor4 (a b c d : Nat) : (a ^^^ b) ^^^ (c ^^^ d) = (a ^^^ c) ^^^ (b ^^^ d) := by
 rw [Nat.xor_assoc, Nat.xor_assoc, ← Nat.xor_assoc b c d, Nat.xor_comm b c, Nat.xor_assoc c b d]
theorem two_xor (a b : Nat) : 2 * (a ^^^ b) = (2 * a) ^^^ (2 * b) := by
 apply Nat.eq_of_testBit_eq
 intro i
 cases i with
 | zero => simp
 | succ i => simp [Nat.testBit_succ, Nat.xor_div_two]
theorem ite_xor (p q : Bool) (x : Nat) : (if (p != q) = true then x else 0) = (if p = true then x else 0) ^^^ (if q = true then x else 0) := by
 cases p <;> cases q <;> simp
theorem xt_xor (a b : Nat) : xt (a ^^^ b) = xt a ^^^ xt b := by
 unfold xt
 rw [Nat.testBit_xor, two_xor, ite_xor, xor4]
theorem mulN_xor_left (n : Nat) : ∀ a b c, mulN n (a ^^^ b) c = mulN n a c ^^^ mulN n b c := by
 induction n with
 | zero => intro a b c; simp [mulN]
 | succ n ih =>
  intro a b c
  simp only [mulN]
  rw [xt_xor, ih, xor4]
  congr 1
  cases c.testBit 0 <;> simp
theorem mulN_xor_right (n : Nat) : ∀ a b c, mulN n a (b ^^^ c) = mulN n a b ^^^ mulN n a c := by
 induction n with
 | zero => intro a b c; simp [mulN]
 | succ n ih =>
  intro a b c
  simp only [mulN]
  rw [Nat.xor_div_two, ih, Nat.testBit_xor, ite_xor, xor4]
theorem mul_xor_left (a b c : Nat) : mul (a ^^^ b) c = mul a c ^^^ mul b c := mulN_xor_left 8 a b c
theorem mul_xor_right (a b c : Nat) : mul a (b ^^^ c) = mul a b ^^^ mul a c := mulN_xor_right 8 a b c
def bitsOf (a : Nat) : List Nat := (List.range 8).map fun i => if a.testBit i then 2 ^ i else 0
def sumX (l : List Nat) : Nat := l.foldr (· ^^^ ·) 0
theorem sum_bits : ∀ a < 256, sumX (bitsOf a) = a := by decide +kernel
theorem lin_sum (f : Nat → Nat) (h0 : f 0 = 0) (hf : ∀ a b, f (a ^^^ b) = f a ^^^ f b) (l : List Nat) : f (sumX l) = sumX (l.map f) := by
 induction l with
 | nil => exact h0
 | cons a l ih => simp only [sumX, List.foldr_cons, List.map_cons]; rw [hf]; unfold sumX at ih; rw [ih]
theorem lin_ext (f g : Nat → Nat) (hf : ∀ a b, f (a ^^^ b) = f a ^^^ f b) (hg : ∀ a b, g (a ^^^ b) = g a ^^^ g b)
 (h : ∀ i < 8, f (2 ^ i) = g (2 ^ i)) (a : Nat) (ha : a < 256) : f a = g a := by
 have f0 : f 0 = 0 := by have := hf 0 0; simp at this; exact this
 have g0 : g 0 = 0 := by have := hg 0 0; simp at this; exact this
 rw [← sum_bits a ha, lin_sum f f0 hf, lin_sum g g0 hg]
 congr 1
 apply List.map_congr_left
 intro x hx
 unfold bitsOf at hx
 obtain ⟨i, hi, rfl⟩ := List.mem_map.1 hx
 have hi' := List.mem_range.1 hi
 split
 ·exact h i hi'
 ·rw [f0, g0]
theorem mul_comm_basis : ∀ i < 8, ∀ j < 8, mul (2 ^ i) (2 ^ j) = mul (2 ^ j) (2 ^ i) := by decide +kernel
theorem mul_comm {a b : Nat} (ha : a < 256) (hb : b < 256) : mul a b = mul b a := by
 refine lin_ext (fun a => mul a b) (fun a => mul b a) (fun x y => mul_xor_left x y b) (fun x y => mul_xor_right b x y) ?_ a ha
 intro i hi
 refine lin_ext (fun b => mul (2 ^ i) b) (fun b => mul b (2 ^ i)) (fun x y => mul_xor_right _ x y) (fun x y => mul_xor_left x y _) ?_ b hb
 intro j hj
 exact mul_comm_basis i hi j hj
theorem mul_one {a : Nat} (ha : a < 256) : mul a 1 = a :=
 lin_ext (fun a => mul a 1) (fun a => a) (fun x y => mul_xor_left x y 1) (fun _ _ => rfl) (by decide +kernel) a ha
theorem one_mul {a : Nat} (ha : a < 256) : mul 1 a = a := by rw [mul_comm (by decide) ha, mul_one ha]
end Go.Proofs.Ytjcfmfdkligmoaa.Gf
