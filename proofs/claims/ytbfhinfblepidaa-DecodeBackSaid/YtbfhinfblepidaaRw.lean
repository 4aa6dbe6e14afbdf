/- The field of 256 elements, over Nat: sums are exclusive ors, products are sums of shifts, reduced; its laws. No program is in sight; no condition. -/
import Derived.Laws.BitsAllLaws
namespace Go.Proofs.Ytbfhinfblepidaa.Gf
def xt (a : Nat) : Nat := (2 * a) ^^^ (if a.testBit 7 then 285 else 0)
def mulN : Nat → Nat → Nat → Nat
  | 0, _, _ => 0
  | n + 1, a, b => (if b.testBit 0 then a else 0) ^^^ mulN n (xt a) (b / 2)
def mul (a b : Nat) : Nat := mulN 8 a b
theorem xor4 (a b c d : Nat) : (a ^^^ b) ^^^ (c ^^^ d) = (a ^^^ c) ^^^ (b ^^^ d) := by
  rw [Nat.xor_assoc, Nat.xor_assoc, ← Nat.xor_assoc b c d, Nat.xor_comm b c, Nat.xor_assoc c b d]
theorem xor_lt {a b : Nat} (ha : a < 256) (hb : b < 256) : a ^^^ b < 256 := Nat.xor_lt_two_pow (n := 8) ha hb
theorem two_xor (a b : Nat) : 2 * (a ^^^ b) = (2 * a) ^^^ (2 * b) := by
  apply Nat.eq_of_testBit_eq
  intro i
  cases i with
  | zero => simp
  | succ i => simp [Nat.testBit_succ, Nat.xor_div_two]
theorem ite_xor (p q : Bool) (x : Nat) : (if (p != q) = true then x else 0) = (if p = true then x else 0) ^^^ (if q = true then x else 0) := by
  cases p <;> cases q <;> simp
theorem xt_xor (a b : Nat) : xt (a ^^^ b) = xt a ^^^ xt b := by
  unfold xt
  rw [Nat.testBit_xor, two_xor, ite_xor, xor4]
theorem xt_lt {a : Nat} (h : a < 256) : xt a < 256 := by
  have : ∀ a < 256, xt a < 256 := by decide +kernel
  exact this a h
theorem mulN_xor_left (n : Nat) : ∀ a b c, mulN n (a ^^^ b) c = mulN n a c ^^^ mulN n b c := by
  induction n with
  | zero => intro a b c; simp [mulN]
  | succ n ih =>
    intro a b c
    simp only [mulN]
    rw [xt_xor, ih, xor4]
    congr 1
    cases c.testBit 0 <;> simp
theorem mulN_xor_right (n : Nat) : ∀ a b c, mulN n a (b ^^^ c) = mulN n a b ^^^ mulN n a c := by
  induction n with
  | zero => intro a b c; simp [mulN]
  | succ n ih =>
    intro a b c
    simp only [mulN]
    rw [Nat.xor_div_two, ih, Nat.testBit_xor, ite_xor, xor4]
theorem mulN_zero_left (n b : Nat) : mulN n 0 b = 0 := by
  induction n generalizing b with
  | zero => rfl
  | succ n ih =>
    have : xt 0 = 0 := by decide
    simp [mulN, this, ih]
theorem mulN_zero_right (n a : Nat) : mulN n a 0 = 0 := by
  induction n generalizing a with
  | zero => rfl
  | succ n ih => simp [mulN, ih]
theorem mulN_lt (n : Nat) : ∀ a b, a < 256 → mulN n a b < 256 := by
  induction n with
  | zero => intro a b _; simp [mulN]
  | succ n ih =>
    intro a b h
    simp only [mulN]
    exact xor_lt (by split <;> omega) (ih _ _ (xt_lt h))
theorem mul_xor_left (a b c : Nat) : mul (a ^^^ b) c = mul a c ^^^ mul b c := mulN_xor_left 8 a b c
theorem mul_xor_right (a b c : Nat) : mul a (b ^^^ c) = mul a b ^^^ mul a c := mulN_xor_right 8 a b c
theorem mul_zero_left (b : Nat) : mul 0 b = 0 := mulN_zero_left 8 b
theorem mul_zero_right (a : Nat) : mul a 0 = 0 := mulN_zero_right 8 a
theorem mul_lt {a : Nat} (b : Nat) (h : a < 256) : mul a b < 256 := mulN_lt 8 a b h
def bitsOf (a : Nat) : List Nat := (List.range 8).map fun i => if a.testBit i then 2 ^ i else 0
def sumX (l : List Nat) : Nat := l.foldr (· ^^^ ·) 0
theorem sum_bits : ∀ a < 256, sumX (bitsOf a) = a := by decide +kernel
theorem lin_sum (f : Nat → Nat) (h0 : f 0 = 0) (hf : ∀ a b, f (a ^^^ b) = f a ^^^ f b) (l : List Nat) : f (sumX l) = sumX (l.map f) := by
  induction l with
  | nil => exact h0
  | cons a l ih => simp only [sumX, List.foldr_cons, List.map_cons]; rw [hf]; unfold sumX at ih; rw [ih]
theorem lin_ext (f g : Nat → Nat) (hf : ∀ a b, f (a ^^^ b) = f a ^^^ f b) (hg : ∀ a b, g (a ^^^ b) = g a ^^^ g b)
    (h : ∀ i < 8, f (2 ^ i) = g (2 ^ i)) (a : Nat) (ha : a < 256) : f a = g a := by
  have f0 : f 0 = 0 := by have := hf 0 0; simp at this; exact this
  have g0 : g 0 = 0 := by have := hg 0 0; simp at this; exact this
  rw [← sum_bits a ha, lin_sum f f0 hf, lin_sum g g0 hg]
  congr 1
  apply List.map_congr_left
  intro x hx
  unfold bitsOf at hx
  obtain ⟨i, hi, rfl⟩ := List.mem_map.1 hx
  have hi' := List.mem_range.1 hi
  split
  · exact h i hi'
  · rw [f0, g0]
theorem mul_comm_basis : ∀ i < 8, ∀ j < 8, mul (2 ^ i) (2 ^ j) = mul (2 ^ j) (2 ^ i) := by decide +kernel
theorem mul_comm {a b : Nat} (ha : a < 256) (hb : b < 256) : mul a b = mul b a := by
  refine lin_ext (fun a => mul a b) (fun a => mul b a) (fun x y => mul_xor_left x y b) (fun x y => mul_xor_right b x y) ?_ a ha
  intro i hi
  refine lin_ext (fun b => mul (2 ^ i) b) (fun b => mul b (2 ^ i)) (fun x y => mul_xor_right _ x y) (fun x y => mul_xor_left x y _) ?_ b hb
  intro j hj
  exact mul_comm_basis i hi j hj
theorem mul_assoc_basis : ∀ i < 8, ∀ j < 8, ∀ k < 8, mul (mul (2 ^ i) (2 ^ j)) (2 ^ k) = mul (2 ^ i) (mul (2 ^ j) (2 ^ k)) := by decide +kernel
theorem mul_assoc {a b c : Nat} (ha : a < 256) (hb : b < 256) (hc : c < 256) : mul (mul a b) c = mul a (mul b c) := by
  refine lin_ext (fun a => mul (mul a b) c) (fun a => mul a (mul b c)) (fun x y => by simp only [mul_xor_left]) (fun x y => by simp only [mul_xor_left]) ?_ a ha
  intro i hi
  refine lin_ext (fun b => mul (mul (2 ^ i) b) c) (fun b => mul (2 ^ i) (mul b c)) (fun x y => by simp only [mul_xor_left, mul_xor_right]) (fun x y => by simp only [mul_xor_left, mul_xor_right]) ?_ b hb
  intro j hj
  refine lin_ext (fun c => mul (mul (2 ^ i) (2 ^ j)) c) (fun c => mul (2 ^ i) (mul (2 ^ j) c)) (fun x y => by simp only [mul_xor_right]) (fun x y => by simp only [mul_xor_right]) ?_ c hc
  intro k hk
  exact mul_assoc_basis i hi j hj k hk
theorem mul_one {a : Nat} (ha : a < 256) : mul a 1 = a :=
  lin_ext (fun a => mul a 1) (fun a => a) (fun x y => mul_xor_left x y 1) (fun _ _ => rfl) (by decide +kernel) a ha
theorem one_mul {a : Nat} (ha : a < 256) : mul 1 a = a := by rw [mul_comm (by decide) ha, mul_one ha]
def pw (a : Nat) : Nat → Nat
  | 0 => 1
  | n + 1 => mul (pw a n) a
theorem pw_lt (a n : Nat) : pw a n < 256 := by
  induction n with
  | zero => simp [pw]
  | succ n ih => exact mul_lt _ ih
theorem pw_add {a : Nat} (ha : a < 256) (m n : Nat) : pw a (m + n) = mul (pw a m) (pw a n) := by
  induction n with
  | zero => simp [pw, mul_one (pw_lt a m)]
  | succ n ih => rw [← Nat.add_assoc]; simp only [pw]; rw [ih, mul_assoc (pw_lt a m) (pw_lt a n) ha]
theorem pw_mul {a : Nat} (ha : a < 256) (n : Nat) : pw (mul a a) n = pw a (2 * n) := by
  induction n with
  | zero => rfl
  | succ n ih =>
    rw [show 2 * (n + 1) = 2 * n + 2 from by omega, pw_add ha]
    simp only [pw]
    rw [ih, one_mul ha]
theorem pw_odd {a : Nat} (ha : a < 256) {o : Nat} (ho : o < 256) (n : Nat) (h : n % 2 = 1) : mul o (pw a n) = mul (mul o a) (pw (mul a a) (n / 2)) := by
  rw [pw_mul ha, mul_assoc ho ha (pw_lt a _)]
  congr 1
  have h1 : pw a 1 = a := by simp only [pw]; exact one_mul ha
  conv => lhs; rw [show n = 1 + 2 * (n / 2) from by omega, pw_add ha, h1]
theorem pw_even {a : Nat} (ha : a < 256) (n : Nat) (h : n % 2 = 0) : pw a n = pw (mul a a) (n / 2) := by
  rw [pw_mul ha]; congr 1; omega
def iv (a : Nat) : Nat := pw a 254
def gens : List Nat := (List.range 255).map fun i => pw 2 i
def gensFast : Nat → Nat → List Nat
  | 0, _ => []
  | n + 1, a => a :: gensFast n (mul a 2)
theorem gensFast_eq (n : Nat) : ∀ m, gensFast n (pw 2 m) = (List.range' m n).map fun i => pw 2 i := by
  induction n with
  | zero => intro m; rfl
  | succ n ih =>
    intro m
    simp only [gensFast, List.range'_succ, List.map_cons]
    congr 1
    exact ih (m + 1)
theorem gens_eq : gens = gensFast 255 1 := by
  have := gensFast_eq 255 0
  simp only [pw] at this
  rw [this]; unfold gens; rw [List.range_eq_range']
theorem gens_count : ∀ a < 256, (gensFast 255 1).count a = if a = 0 then 0 else 1 := by decide +kernel
theorem gen_of {a : Nat} (ha : a < 256) (h0 : a ≠ 0) : ∃ i < 255, a = pw 2 i := by
  have h := gens_count a ha
  rw [← gens_eq, if_neg h0] at h
  have hm : a ∈ gens := List.count_pos_iff.1 (by omega)
  unfold gens at hm
  obtain ⟨i, hi, rfl⟩ := List.mem_map.1 hm
  exact ⟨i, List.mem_range.1 hi, rfl⟩
theorem pw_circle : pw 2 255 = 1 := by decide +kernel
theorem pw_mod (i : Nat) : pw 2 (i % 255) = pw 2 i := by
  induction i using Nat.strongRecOn with
  | ind i ih =>
    by_cases h : i < 255
    · rw [Nat.mod_eq_of_lt h]
    · have e : pw 2 i = pw 2 (i - 255) := by
        have := pw_add (a := 2) (by decide) 255 (i - 255)
        rw [pw_circle, one_mul (pw_lt _ _), show 255 + (i - 255) = i from by omega] at this
        exact this
      rw [e, ← ih (i - 255) (by omega), show (i - 255) % 255 = i % 255 from by omega]
theorem pw_pw (i n : Nat) : pw (pw 2 i) n = pw 2 (i * n) := by
  induction n with
  | zero => rfl
  | succ n ih =>
    have h := pw_add (a := 2) (by decide) (i * n) i
    show mul (pw (pw 2 i) n) (pw 2 i) = _
    rw [Nat.mul_succ, h, ih]
theorem mul_iv {a : Nat} (ha : a < 256) (h0 : a ≠ 0) : mul a (iv a) = 1 := by
  obtain ⟨i, _, rfl⟩ := gen_of ha h0
  unfold iv
  rw [pw_pw, ← pw_add (by decide), ← pw_mod, show (i + i * 254) % 255 = 0 from by omega]
  rfl
theorem iv_zero : iv 0 = 0 := by decide +kernel
theorem iv_lt (a : Nat) : iv a < 256 := pw_lt a 254
theorem iv_ne {a : Nat} (ha : a < 256) (h0 : a ≠ 0) : iv a ≠ 0 := by
  intro e; have := mul_iv ha h0; rw [e, mul_zero_right] at this; exact absurd this (by decide)
theorem iv_unique {a b : Nat} (ha : a < 256) (hb : b < 256) (h : mul a b = 1) : b = iv a := by
  have h0 : a ≠ 0 := by rintro rfl; rw [mul_zero_left] at h; exact absurd h (by decide)
  have : mul (iv a) (mul a b) = iv a := by rw [h]; exact mul_one (iv_lt a)
  rw [← mul_assoc (iv_lt a) ha hb, mul_comm (iv_lt a) ha, mul_iv ha h0, one_mul hb] at this
  exact this
def clN : Nat → Nat → Nat → Nat → Nat
  | 0, _, _, _ => 0
  | n + 1, i, a, b => (if b.testBit i then a * 2 ^ i else 0) ^^^ clN n (i + 1) a b
def redN : Nat → Nat → Nat
  | 0, x => x
  | n + 1, x => redN n (x ^^^ (if x.testBit (n + 8) then 285 * 2 ^ n else 0))
theorem mul_pow_xor (a b i : Nat) : (a ^^^ b) * 2 ^ i = (a * 2 ^ i) ^^^ (b * 2 ^ i) := by
  induction i with
  | zero => simp
  | succ i ih =>
    have e : ∀ x : Nat, x * 2 ^ (i + 1) = 2 * (x * 2 ^ i) := fun x => by rw [Nat.pow_succ, ← Nat.mul_assoc, Nat.mul_comm]
    rw [e, e, e, ih, two_xor]
theorem clN_left (n : Nat) : ∀ i a b c, clN n i (a ^^^ b) c = clN n i a c ^^^ clN n i b c := by
  induction n with
  | zero => intro i a b c; simp [clN]
  | succ n ih =>
    intro i a b c
    simp only [clN]
    rw [ih, mul_pow_xor, xor4]
    congr 1
    cases c.testBit i <;> simp
theorem clN_right (n : Nat) : ∀ i a b c, clN n i a (b ^^^ c) = clN n i a b ^^^ clN n i a c := by
  induction n with
  | zero => intro i a b c; simp [clN]
  | succ n ih =>
    intro i a b c
    simp only [clN]
    rw [ih, Nat.testBit_xor, ite_xor, xor4]
theorem redN_xor (n : Nat) : ∀ x y, redN n (x ^^^ y) = redN n x ^^^ redN n y := by
  induction n with
  | zero => intro x y; rfl
  | succ n ih =>
    intro x y
    simp only [redN]
    rw [Nat.testBit_xor, ite_xor, xor4, ih]
def ref (a b : Nat) : Nat := redN 7 (clN 8 0 a b) % 256
theorem mod_xor (x y : Nat) : (x ^^^ y) % 256 = (x % 256) ^^^ (y % 256) := Nat.xor_mod_two_pow (n := 8)
theorem ref_basis : ∀ i < 8, ∀ j < 8, ref (2 ^ i) (2 ^ j) = mul (2 ^ i) (2 ^ j) := by decide +kernel
theorem ref_eq {a b : Nat} (ha : a < 256) (hb : b < 256) : ref a b = mul a b := by
  refine lin_ext (fun a => ref a b) (fun a => mul a b) (fun x y => by simp only [ref]; rw [clN_left, redN_xor, mod_xor]) (fun x y => mul_xor_left x y b) ?_ a ha
  intro i hi
  refine lin_ext (fun b => ref (2 ^ i) b) (fun b => mul (2 ^ i) b) (fun x y => by simp only [ref]; rw [clN_right, redN_xor, mod_xor]) (fun x y => mul_xor_right _ x y) ?_ b hb
  intro j hj
  exact ref_basis i hi j hj
end Go.Proofs.Ytbfhinfblepidaa.Gf
namespace Go.Proofs.Ytbfhinfblepidaa.Rw
open Go.Proofs.Ytbfhinfblepidaa.Gf
abbrev F := UInt8
def ti (x : F) : Int := (x.toNat : Int)
def tl (l : List F) : List Int := l.map ti
def tll (L : List (List F)) : List (List Int) := L.map tl
def fm (a b : F) : F := UInt8.ofNat (mul a.toNat b.toNat)
def fi (a : F) : F := UInt8.ofNat (iv a.toNat)
theorem toNat_lt (a : F) : a.toNat < 256 := a.toNat_lt
theorem fm_toNat (a b : F) : (fm a b).toNat = mul a.toNat b.toNat := by
  unfold fm; rw [UInt8.toNat_ofNat']; exact Nat.mod_eq_of_lt (mul_lt _ (toNat_lt a))
theorem fi_toNat (a : F) : (fi a).toNat = iv a.toNat := by
  unfold fi; rw [UInt8.toNat_ofNat']; exact Nat.mod_eq_of_lt (iv_lt _)
theorem ext_ {a b : F} (h : a.toNat = b.toNat) : a = b := UInt8.toNat_inj.1 h
theorem fx_toNat (a b : F) : (a ^^^ b).toNat = a.toNat ^^^ b.toNat := UInt8.toNat_xor a b
theorem fx_comm (a b : F) : a ^^^ b = b ^^^ a := ext_ (by rw [fx_toNat, fx_toNat, Nat.xor_comm])
theorem fx_assoc (a b c : F) : (a ^^^ b) ^^^ c = a ^^^ (b ^^^ c) := ext_ (by simp only [fx_toNat]; exact Nat.xor_assoc _ _ _)
theorem fx_zero (a : F) : a ^^^ 0 = a := ext_ (by rw [fx_toNat]; simp)
theorem zero_fx (a : F) : 0 ^^^ a = a := by rw [fx_comm, fx_zero]
theorem fx_self (a : F) : a ^^^ a = 0 := ext_ (by rw [fx_toNat]; simp)
theorem fm_comm (a b : F) : fm a b = fm b a := ext_ (by rw [fm_toNat, fm_toNat, mul_comm (toNat_lt a) (toNat_lt b)])
theorem fm_assoc (a b c : F) : fm (fm a b) c = fm a (fm b c) := ext_ (by simp only [fm_toNat]; exact mul_assoc (toNat_lt a) (toNat_lt b) (toNat_lt c))
theorem fm_fx (a b c : F) : fm a (b ^^^ c) = fm a b ^^^ fm a c := ext_ (by simp only [fm_toNat, fx_toNat]; exact mul_xor_right _ _ _)
theorem fx_fm (a b c : F) : fm (a ^^^ b) c = fm a c ^^^ fm b c := by rw [fm_comm, fm_fx, fm_comm c a, fm_comm c b]
theorem fm_zero (a : F) : fm a 0 = 0 := ext_ (by rw [fm_toNat]; exact mul_zero_right _)
theorem zero_fm (a : F) : fm 0 a = 0 := by rw [fm_comm, fm_zero]
theorem fm_one (a : F) : fm a 1 = a := ext_ (by rw [fm_toNat]; exact mul_one (toNat_lt a))
theorem one_fm (a : F) : fm 1 a = a := by rw [fm_comm, fm_one]
theorem toNat_ne {a : F} (h : a ≠ 0) : a.toNat ≠ 0 := fun e => h (ext_ e)
theorem fm_fi {a : F} (h : a ≠ 0) : fm a (fi a) = 1 := ext_ (by rw [fm_toNat, fi_toNat, mul_iv (toNat_lt a) (toNat_ne h)]; rfl)
theorem ti_inj {a b : F} (h : ti a = ti b) : a = b := ext_ (by unfold ti at h; omega)
theorem ti_zero_iff (a : F) : ti a = 0 ↔ a = 0 := ⟨fun h => ti_inj (b := 0) h, fun h => by rw [h]; rfl⟩
theorem tl_length (l : List F) : (tl l).length = l.length := by unfold tl; rw [List.length_map]
theorem tll_length (L : List (List F)) : (tll L).length = L.length := by unfold tll; rw [List.length_map]
theorem tl_inj {a b : List F} (h : tl a = tl b) : a = b := by
  induction a generalizing b with
  | nil => cases b with
    | nil => rfl
    | cons y b => simp [tl] at h
  | cons x a ih => cases b with
    | nil => simp [tl] at h
    | cons y b =>
      simp only [tl, List.map_cons, List.cons.injEq] at h
      rw [ti_inj h.1, ih h.2]
theorem tl_replicate (n : Nat) : tl (List.replicate n 0) = List.replicate n 0 := by unfold tl; rw [List.map_replicate]; rfl
theorem tl_append (a b : List F) : tl (a ++ b) = tl a ++ tl b := List.map_append ..
theorem tl_drop (a : List F) (n : Nat) : (tl a).drop n = tl (a.drop n) := (List.map_drop ..).symm
theorem tl_of (l : List Int) (h : ∀ x ∈ l, 0 ≤ x ∧ x ≤ 255) : ∃ m : List F, l = tl m := by
  refine ⟨l.map fun x => UInt8.ofNat x.toNat, ?_⟩
  unfold tl
  rw [List.map_map]
  conv => lhs; rw [← List.map_id l]
  apply List.map_congr_left
  intro x hx
  have := h x hx
  show x = ti (UInt8.ofNat x.toNat)
  unfold ti
  rw [UInt8.toNat_ofNat', Nat.mod_eq_of_lt (by omega)]
  omega
theorem tll_of (L : List (List Int)) (h : ∀ l ∈ L, ∀ x ∈ l, 0 ≤ x ∧ x ≤ 255) : ∃ M : List (List F), L = tll M := by
  induction L with
  | nil => exact ⟨[], rfl⟩
  | cons l L ih =>
    obtain ⟨m, hm⟩ := tl_of l (h l (by simp))
    obtain ⟨M, hM⟩ := ih (fun l' hl' => h l' (by simp [hl']))
    exact ⟨m :: M, by rw [hm, hM]; rfl⟩
def addTo : List F → List F → List F
  | a :: as, b :: bs => (a ^^^ b) :: addTo as bs
  | as, [] => as
  | [], _ :: _ => []
theorem addTo_length (a : List F) : ∀ b, (addTo a b).length = a.length := by
  induction a with
  | nil => intro b; cases b <;> rfl
  | cons x a ih => intro b; cases b with
    | nil => rfl
    | cons y b => simp only [addTo, List.length_cons, ih]
def sumR (n : Nat) (L : List (List F)) : List F := L.foldl addTo (List.replicate n 0)
theorem foldl_addTo_length (L : List (List F)) : ∀ acc : List F, (L.foldl addTo acc).length = acc.length := by
  induction L with
  | nil => intro acc; rfl
  | cons x L ih => intro acc; show (L.foldl addTo (addTo acc x)).length = _; rw [ih, addTo_length]
theorem sumR_length (n : Nat) (L : List (List F)) : (sumR n L).length = n := by unfold sumR; rw [foldl_addTo_length, List.length_replicate]
theorem addTo_zero (n : Nat) : ∀ r : List F, addTo (List.replicate n 0) r = r.take n ++ List.replicate (n - r.length) 0 := by
  induction n with
  | zero => intro r; cases r <;> simp [addTo]
  | succ n ih =>
    intro r
    cases r with
    | nil => simp [addTo]
    | cons x r =>
      rw [List.replicate_succ]
      simp only [addTo, List.take_succ_cons, List.length_cons, ih, zero_fx, List.cons_append]
      rw [show n + 1 - (r.length + 1) = n - r.length from by omega]
def fitR (n : Nat) (r : List F) : List F := r.take n ++ List.replicate (n - r.length) 0
theorem sumR_one (n : Nat) (r : List F) : sumR n [r] = fitR n r := addTo_zero n r
theorem fitR_length (n : Nat) (r : List F) : (fitR n r).length = n := by rw [← sumR_one, sumR_length]
def scaleR (c : F) (r : List F) : List F := r.map (fm c)
theorem scaleR_length (c : F) (r : List F) : (scaleR c r).length = r.length := by unfold scaleR; rw [List.length_map]
end Go.Proofs.Ytbfhinfblepidaa.Rw
