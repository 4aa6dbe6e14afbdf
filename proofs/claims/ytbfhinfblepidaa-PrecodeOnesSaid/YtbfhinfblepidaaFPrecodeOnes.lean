/- What the printed functions of package field, and of the document's first chapter, come to, in the numbers of Gf: for bytes, whatever the other arguments. -/
import Derived.Test.YtbfhinfblepidaaGf
import Derived.Test.YtbfhinfblepidaaPc
import Derived.Test.YtbfhinfblepidaaPPrecodeOnesx
namespace Go.Proofs.Ytbfhinfblepidaa.FPrecodeOnes
open Go.RowKit Go.Proofs.Ytbfhinfblepidaa.PPrecodeOnes Go.Proofs.YtbfhinfblepidaaW.PrintWords Go.Proofs.YtbfhinfblepidaaW.PrintLast Go.Proofs.YtbfhinfblepidaaW.PrintMore Go.Proofs.Ytbfhinfblepidaa.Gf Go.Proofs.Ytbfhinfblepidaa.Pc

theorem w64 {i : Int} (h0 : -9223372036854775808 ≤ i) (h1 : i < 9223372036854775808) : wrap64 i = i := by unfold wrap64; omega
theorem u64w {i : Int} (h0 : 0 ≤ i) (h1 : i < 9223372036854775808) : IntKind.u64.wrap i = i := by
  simp [IntKind.wrap, IntKind.bits, IntKind.signed]; omega
theorem rd_drop {l : List Int} {x : Int} {t : List Int} {i : Nat} (h : l.drop i = x :: t) : rd l (i : Int) = x ∧ i < l.length ∧ l.drop (i + 1) = t := by
  have hi : i < l.length := by
    rcases Nat.lt_or_ge i l.length with h' | h'
    · exact h'
    · rw [List.drop_eq_nil_of_le h'] at h; cases h
  have := List.drop_eq_getElem_cons hi
  rw [this] at h
  injection h with h1 h2
  refine ⟨?_, hi, h2⟩
  unfold rd
  simp [List.getD, hi, h1]
theorem xor_i64 (a b : Nat) (ha : a < 2 ^ 40) (hb : b < 2 ^ 40) : Go.bits .xor .i64 (a : Int) (b : Int) = ((a ^^^ b : Nat) : Int) := by
  have hx : a ^^^ b < 2 ^ 40 := Nat.xor_lt_two_pow ha hb
  have hp : 2 ^ 40 ≤ 2 ^ IntKind.i64.bits := by decide
  have ha' : a % 2 ^ IntKind.i64.bits = a := Nat.mod_eq_of_lt (by omega)
  have hb' : b % 2 ^ IntKind.i64.bits = b := Nat.mod_eq_of_lt (by omega)
  simp only [Go.bits, BitVec.ofInt_natCast, BitVec.toNat_xor, BitVec.toNat_ofNat, ha', hb']
  rw [IntWalk.i64_left]
  exact w64 (by omega) (by omega)
theorem and_i64 (a b : Nat) (ha : a < 2 ^ 40) (hb : b < 2 ^ 40) : Go.bits .and .i64 (a : Int) (b : Int) = ((a &&& b : Nat) : Int) := by
  have hx : a &&& b < 2 ^ 40 := Nat.and_lt_two_pow a hb
  have hp : 2 ^ 40 ≤ 2 ^ IntKind.i64.bits := by decide
  have ha' : a % 2 ^ IntKind.i64.bits = a := Nat.mod_eq_of_lt (by omega)
  have hb' : b % 2 ^ IntKind.i64.bits = b := Nat.mod_eq_of_lt (by omega)
  simp only [Go.bits, BitVec.ofInt_natCast, BitVec.toNat_and, BitVec.toNat_ofNat, ha', hb']
  rw [IntWalk.i64_left]
  exact w64 (by omega) (by omega)
theorem and1_i64 (a : Nat) (ha : a < 2 ^ 40) : Go.bits .and .i64 (a : Int) 1 = ((a % 2 : Nat) : Int) := by
  have := and_i64 a 1 ha (by decide)
  rw [Nat.and_one_is_mod] at this; exact this
theorem and1_u8 (a : Nat) (ha : a < 256) : Go.bits .and .u8 (a : Int) 1 = ((a % 2 : Nat) : Int) := by
  have := u8_and_nat a 1 ha (by decide)
  rw [Nat.and_one_is_mod] at this; exact this
theorem tb0 (a : Nat) : a.testBit 0 = decide (a % 2 = 1) := by simp [Nat.testBit_zero]
theorem odd_iff (a : Nat) : (((a % 2 : Nat) : Int) = 1) ↔ a.testBit 0 = true := by rw [tb0]; simp; omega
theorem ev_pos {α : Type} {c : Prop} [Decidable c] {f g : Nat → Option α} {r : α} (h : c) (e : Ev f r) : Ev (fun k => if c then f k else g k) r := by
  simp only [if_pos h]; exact e
theorem ev_neg {α : Type} {c : Prop} [Decidable c] {f g : Nat → Option α} {r : α} (h : ¬ c) (e : Ev g r) : Ev (fun k => if c then f k else g k) r := by
  simp only [if_neg h]; exact e
/-- A call without rounds: what it comes to is laid in. (By a lemma, not by 'simp only [Option.bind_some]': the kernel would reckon on both sides.) -/
theorem ev_val {α β : Type} {o : Option α} {a : α} {F : Nat → α → Option β} {r : β} (h : o = some a) (e : Ev (fun k => F k a) r) : Ev (fun k => o.bind (F k)) r := by
  subst h; exact e
theorem ev_eq {α : Type} {g f : Nat → Option α} {r : α} (h : ∀ k, g k = f k) (e : Ev f r) : Ev g r := Ev.congr h e

/-! ### products -/
theorem and128 {a : Nat} (ha : a < 256) : (Go.bits .and .u8 (a : Int) 128 = 0) ↔ a.testBit 7 = false := by
  have h := u8_and_nat a 128 ha (by decide)
  rw [show ((128 : Nat) : Int) = 128 from rfl] at h
  rw [h]
  have hs : ∀ a < 256, (((a &&& 128 : Nat) : Int) = 0) ↔ a.testBit 7 = false := by decide +kernel
  exact hs a ha
theorem xt_low {a : Nat} (ha : a < 256) (h : a.testBit 7 = false) : (((a : Int) * 2) % 256) = ((xt a : Nat) : Int) := by
  have hs : ∀ a < 256, a.testBit 7 = false → (a * 2) % 256 = xt a := by decide +kernel
  have := hs a ha h; omega
theorem xt_high {a : Nat} (ha : a < 256) (h : a.testBit 7 = true) : Go.bits .xor .u8 (((a : Int) * 2) % 256) 29 = ((xt a : Nat) : Int) := by
  have hs : ∀ a < 256, a.testBit 7 = true → ((a * 2) % 256) ^^^ 29 = xt a := by decide +kernel
  have h2 := u8_xor_nat ((a * 2) % 256) 29 (by omega) (by decide)
  rw [show (((a * 2 % 256 : Nat)) : Int) = ((a : Int) * 2) % 256 from by omega, show ((29 : Nat) : Int) = 29 from rfl] at h2
  rw [h2, hs a ha h]
theorem times_l0 (n : Nat) : ∀ (a b o k : Nat), a < 256 → o < 256 → b < 2 ^ n → n ≤ 8 → n < k →
    field_times.l0 k (a : Int) (b : Int) (o : Int) = some ((o ^^^ mulN n a b : Nat) : Int) := by
  induction n with
  | zero =>
    intro a b o k _ _ hb _ hk
    obtain ⟨k, rfl⟩ : ∃ m, k = m + 1 := ⟨k - 1, by omega⟩
    simp only [field_times.l0]; rw [if_pos (by omega)]; simp [mulN]
  | succ n ih =>
    intro a b o k ha ho hb hn hk
    obtain ⟨k, rfl⟩ : ∃ m, k = m + 1 := ⟨k - 1, by omega⟩
    have hb8 : b < 256 := Nat.lt_of_lt_of_le hb (Nat.pow_le_pow_right (by decide : 0 < 2) hn)
    by_cases h0 : b = 0
    · subst h0
      simp only [field_times.l0]; rw [if_pos (by omega), mulN_zero_right]; simp
    · have hx := xt_lt ha
      have hb2 : b / 2 < 2 ^ n := by rw [Nat.pow_succ] at hb; omega
      have e2 : ((b : Int) / 2) = ((b / 2 : Nat) : Int) := by omega
      simp only [field_times.l0]
      rw [if_neg (by omega), and1_u8 b hb8]
      simp only [mulN]
      by_cases ho1 : b.testBit 0 = true
      · rw [if_pos ((odd_iff b).2 ho1), if_pos ho1, u8_xor_nat o a ho ha, ← Nat.xor_assoc]
        by_cases h7 : a.testBit 7 = true
        · rw [if_neg (by rw [and128 ha]; simp [h7]), xt_high ha h7, e2]
          exact ih _ _ _ _ hx (xor_lt ho ha) hb2 (by omega) (by omega)
        · have h7' : a.testBit 7 = false := by simpa using h7
          rw [if_pos ((and128 ha).2 h7'), xt_low ha h7', e2]
          exact ih _ _ _ _ hx (xor_lt ho ha) hb2 (by omega) (by omega)
      · rw [if_neg (by rw [odd_iff]; exact ho1), if_neg ho1, Nat.zero_xor]
        by_cases h7 : a.testBit 7 = true
        · rw [if_neg (by rw [and128 ha]; simp [h7]), xt_high ha h7, e2]
          exact ih _ _ _ _ hx ho hb2 (by omega) (by omega)
        · have h7' : a.testBit 7 = false := by simpa using h7
          rw [if_pos ((and128 ha).2 h7'), xt_low ha h7', e2]
          exact ih _ _ _ _ hx ho hb2 (by omega) (by omega)
theorem times_at {a b : Nat} (ha : a < 256) (hb : b < 256) (k : Nat) (hk : 9 ≤ k) : field_times.f k (a : Int) (b : Int) = some ((mul a b : Nat) : Int) := by
  unfold field_times.f
  have := times_l0 8 a b 0 k ha (by decide) hb (by omega) (by omega)
  rw [Nat.zero_xor] at this
  exact this
theorem times_ev {a b : Nat} (ha : a < 256) (hb : b < 256) : Ev (fun k => field_times.f k (a : Int) (b : Int)) ((mul a b : Nat) : Int) := ⟨9, fun k hk => times_at ha hb k hk⟩

/-! ### powers -/
theorem power_l0 (n : Nat) : ∀ (a o k : Nat), a < 256 → o < 256 → n < 2 ^ 30 → n + 10 < k →
    field_power.l0 k (a : Int) (n : Int) (o : Int) = some ((mul o (pw a n) : Nat) : Int) := by
  induction n using Nat.strongRecOn with
  | ind n ih =>
    intro a o k ha ho hn hk
    obtain ⟨k, rfl⟩ : ∃ m, k = m + 1 := ⟨k - 1, by omega⟩
    simp only [field_power.l0]
    by_cases h0 : n = 0
    · subst h0
      rw [if_neg (by omega)]; simp only [pw]; rw [mul_one ho]
    · have e2 : ((n : Int) / 2) = ((n / 2 : Nat) : Int) := by omega
      rw [if_pos (by omega), and1_i64 n (by omega)]
      by_cases h1 : n % 2 = 1
      · rw [if_pos (by omega), times_at ho ha k (by omega)]; simp only [Option.bind_some]
        rw [times_at ha ha k (by omega)]; simp only [Option.bind_some]
        rw [e2, ih (n / 2) (by omega) _ _ _ (mul_lt a ha) (mul_lt a ho) (by omega) (by omega), ← pw_odd ha ho n h1]
      · rw [if_neg (by omega), times_at ha ha k (by omega)]; simp only [Option.bind_some]
        rw [e2, ih (n / 2) (by omega) _ _ _ (mul_lt a ha) ho (by omega) (by omega), ← pw_even ha n (by omega)]
theorem power_ev {a n : Nat} (ha : a < 256) (hn : n < 2 ^ 30) : Ev (fun k => field_power.f k (a : Int) (n : Int)) ((pw a n : Nat) : Int) := by
  refine ⟨n + 11, fun k hk => ?_⟩
  unfold field_power.f
  have := power_l0 n a 1 k ha (by decide) hn (by omega)
  rw [one_mul (pw_lt a n)] at this
  exact this
/-- n modulo 255, not below 0. -/
def m255 (n : Int) : Nat := (n % 255).toNat
theorem m255_small {n : Nat} (h : n < 255) : m255 (n : Int) = n := by unfold m255; omega
theorem tmod_255 (n : Int) : (Int.tmod n 255 < 0 ∧ Int.tmod n 255 + 255 = (m255 n : Int)) ∨ (0 ≤ Int.tmod n 255 ∧ Int.tmod n 255 = (m255 n : Int)) := by
  unfold m255
  have h1 := Int.tmod_add_mul_tdiv n 255
  have h2 := Int.tmod_lt_of_pos n (b := 255) (by decide)
  have h3 : -255 < Int.tmod n 255 := Int.lt_tmod_of_pos n (by decide)
  omega
theorem Power_arg (n : Int) : Int.tmod (wrap64 (Int.tmod n 255 + 255)) 255 = (m255 n : Int) := by
  have h2 := Int.tmod_lt_of_pos n (b := 255) (by decide)
  have h3 : -255 < Int.tmod n 255 := Int.lt_tmod_of_pos n (by decide)
  have hm : m255 n < 255 := by unfold m255; omega
  rw [w64 (by omega) (by omega), Int.tmod_eq_emod_of_nonneg (by omega)]
  rcases tmod_255 n with ⟨h, e⟩ | ⟨h, e⟩ <;> omega
theorem Power_ev (n : Int) : Ev (fun k => field_Power.f k n) ((pw 2 (m255 n) : Nat) : Int) := by
  unfold field_Power.f
  rw [Power_arg]
  have hm : m255 n < 255 := by unfold m255; omega
  exact Ev.bind (power_ev (a := 2) (by decide) (by omega)) (Ev.now _)

/-! ### the numbers of a block -/
theorem int_ne {a b : Nat} (h : a ≠ b) : ¬ ((a : Int) = (b : Int)) := by omega
theorem of_ok {k : Nat} (h1 : 1 ≤ k) (h2 : k ≤ 40) : params_Of.f (k : Int) = some ((k : Int), ((kS k : Nat) : Int), 2, 0) := by
  unfold params_Of.f
  rw [if_neg (by omega), if_neg (by omega)]
  have h8 : Int.tdiv (k : Int) 8 = ((k / 8 : Nat) : Int) := (Int.ofNat_tdiv k 8).symm
  rw [h8, w64 (i := ((k / 8 : Nat) : Int)) (by omega) (by omega), w64 (by omega) (by omega)]
  unfold kS
  rw [show (2 : Int) + ((k / 8 : Nat) : Int) = ((2 + k / 8 : Nat) : Int) from by omega]
theorem of_no {a : Int} (h : a < 1 ∨ 40 < a) : params_Of.f a = some (0, 0, 0, 1) := by
  unfold params_Of.f
  by_cases h1 : a < 1
  · rw [if_pos h1]
  · rw [if_neg h1, if_pos (by omega)]
theorem right_ok {k : Nat} (h1 : 1 ≤ k) (h2 : k ≤ 40) : params_Params_Right.f (k : Int) ((kS k : Nat) : Int) 2 = some true := by
  unfold params_Params_Right.f
  rw [of_ok h1 h2]
  simp
theorem right_zero : params_Params_Right.f 0 0 0 = some false := by
  unfold params_Params_Right.f
  rw [of_no (by omega)]
  simp
theorem kS_le {k : Nat} (h2 : k ≤ 40) : kS k ≤ 7 := by unfold kS; omega
theorem kS_pos (k : Nat) : 2 ≤ kS k := by unfold kS; omega
theorem w_ok {k : Nat} (h2 : k ≤ 40) : params_Params_W.f (k : Int) ((kS k : Nat) : Int) 2 = some ((kW k : Nat) : Int) := by
  unfold params_Params_W.f kW
  have := kS_le h2
  rw [w64 (by omega) (by omega), Int.natCast_add]
theorem l_ok {k : Nat} (h2 : k ≤ 40) : params_Params_L.f (k : Int) ((kS k : Nat) : Int) 2 = some ((kL k : Nat) : Int) := by
  unfold params_Params_L.f
  have := kS_le h2
  rw [w_ok h2, Option.bind_some, w64 (by unfold kW; omega) (by unfold kW; omega)]
  unfold kL
  rw [Int.natCast_add]; rfl
theorem tmod_nat (a b : Nat) : Int.tmod (a : Int) (b : Int) = ((a % b : Nat) : Int) := (Int.ofNat_tmod a b).symm
theorem tmod_two (a : Nat) : Int.tmod (a : Int) 2 = ((a % 2 : Nat) : Int) := tmod_nat a 2
theorem tdiv_nat (a b : Nat) : Int.tdiv (a : Int) (b : Int) = ((a / b : Nat) : Int) := (Int.ofNat_tdiv a b).symm

/-! ### the low rows -/
theorem low_step (k i c : Nat) (A B : List Int) (hA : A = (List.range c).map (lowVal k i)) :
    (A ++ 0 :: B).set c (1 : Int) = A ++ 1 :: B := by
  have hl : A.length = c := by rw [hA]; simp
  have := grow_set A B 0 1
  rw [hl] at this; exact this
theorem low_next (k i c : Nat) : (List.range (c + 1)).map (lowVal k i) = (List.range c).map (lowVal k i) ++ [lowVal k i c] := by
  rw [List.range_succ, List.map_append]; rfl
theorem low_l1 {k : Nat} (h1 : 1 ≤ k) (h2 : k ≤ 40) (x3 : List (List Int)) (hx : x3.length < 100) (i : Nat) (hi : i < kS k) (R : List (List Int)) (x11 : Int)
    (hR : Ev (fun q => precode_Low.l0 q (x3 ++ [lowRow k i]) x11 ((i + 1 : Nat) : Int) (k : Int) ((kS k : Nat) : Int) 2) R) (d : Nat) : ∀ c, c + d = k →
    Ev (fun q => precode_Low.l1 q x3 (i : Int) (((List.range c).map (lowVal k i)) ++ List.replicate (d + (kS k + 2)) 0) x11 (i : Int) (k : Int) (c : Int) (k : Int) ((kS k : Nat) : Int) 2) R := by
  have hs := kS_le h2
  have hs2 := kS_pos k
  induction d with
  | zero =>
    intro c hc
    obtain rfl : c = k := by omega
    refine Ev.step (fun q => by simp only [precode_Low.l1]; rfl) ?_
    refine ev_neg (by omega) ?_
    rw [w64 (i := (c : Int) + (i : Int)) (by omega) (by omega), show (c : Int) + (i : Int) = ((c + i : Nat) : Int) from by omega]
    have hlen : (((List.range c).map (lowVal c i)) ++ List.replicate (0 + (kS c + 2)) 0).length = kL c := by simp [kL, kW]; omega
    refine ev_pos (by omega) (ev_pos (by rw [hlen]; unfold kL kW; omega) ?_)
    refine ev_val (w_ok h2) ?_
    refine ev_neg (by omega) ?_
    rw [tmod_two i, w64 (i := ((kW c : Nat) : Int) + ((i % 2 : Nat) : Int)) (by omega) (by unfold kW; omega), show ((kW c : Nat) : Int) + ((i % 2 : Nat) : Int) = ((kW c + i % 2 : Nat) : Int) from by omega]
    refine ev_pos (by omega) (ev_pos (by rw [hlen]; unfold kL; omega) (ev_pos (by omega) ?_))
    rw [w64 (i := (i : Int) + 1) (by omega) (by omega), Int.toNat_natCast, Int.toNat_natCast, Nat.zero_add, show (i : Int) + 1 = ((i + 1 : Nat) : Int) from by omega]
    exact hR
  | succ d ih =>
    intro c hc
    refine Ev.step (fun q => by simp only [precode_Low.l1]; rfl) ?_
    refine ev_pos (by omega) (ev_neg (by omega) ?_)
    obtain ⟨q, hq0⟩ : ∃ q, c / kS k = q := ⟨_, rfl⟩
    have hq : q ≤ c := hq0 ▸ Nat.div_le_self _ _
    rw [tmod_nat, tdiv_nat, hq0, w64 (i := (q : Int)) (by omega) (by omega), w64 (i := (q : Int) + (c : Int)) (by omega) (by omega), w64 (i := (q : Int) + (c : Int) + 1) (by omega) (by omega),
      show (q : Int) + (c : Int) + 1 = ((q + c + 1 : Nat) : Int) from by omega, tmod_nat, w64 (i := (c : Int) + 1) (by omega) (by omega), Int.toNat_natCast, show (c : Int) + 1 = ((c + 1 : Nat) : Int) from by omega]
    have e1 : List.replicate (d + 1 + (kS k + 2)) (0 : Int) = 0 :: List.replicate (d + (kS k + 2)) 0 := by rw [show d + 1 + (kS k + 2) = (d + (kS k + 2)) + 1 from by omega, List.replicate_succ]
    rw [e1, low_step k i c _ _ rfl]
    have hih := ih (c + 1) (by omega)
    rw [low_next, List.append_assoc, List.singleton_append] at hih
    have hlen : (((List.range c).map (lowVal k i)) ++ 0 :: List.replicate (d + (kS k + 2)) (0 : Int)).length = kL k := by simp [kL, kW]; omega
    by_cases b1 : c % kS k = i
    · have hv : lowVal k i c = 1 := by unfold lowVal lowBit; simp [b1]
      rw [hv] at hih
      exact ev_pos (by omega) (ev_pos (by omega) (ev_pos (by rw [hlen]; unfold kL kW; omega) hih))
    · refine ev_neg (by omega) ?_
      by_cases b2 : (q + c + 1) % kS k = i
      · have hv : lowVal k i c = 1 := by unfold lowVal lowBit; rw [hq0]; simp [b2]
        rw [hv] at hih
        exact ev_pos (by omega) (ev_pos (by omega) (ev_pos (by rw [hlen]; unfold kL kW; omega) hih))
      · have hv : lowVal k i c = 0 := by unfold lowVal lowBit; rw [hq0]; simp [b1, b2]
        rw [hv] at hih
        exact ev_neg (by omega) hih
theorem low_l0 {k : Nat} (h1 : 1 ≤ k) (h2 : k ≤ 40) (d : Nat) : ∀ i, i + d = kS k →
    Ev (fun q => precode_Low.l0 q ((List.range i).map (lowRow k)) ((kS k : Nat) : Int) (i : Int) (k : Int) ((kS k : Nat) : Int) 2) (lowRows k) := by
  have hs := kS_le h2
  induction d with
  | zero =>
    intro i hi
    refine Ev.step (fun q => by simp only [precode_Low.l0]; rfl) ?_
    refine ev_neg (by omega) ?_
    obtain rfl : i = kS k := by omega
    exact Ev.now _
  | succ d ih =>
    intro i hi
    refine Ev.step (fun q => by simp only [precode_Low.l0]; rfl) ?_
    refine ev_pos (by omega) ?_
    refine ev_val (l_ok h2) ?_
    refine ev_pos (by omega) (ev_pos (by rw [Int.toNat_natCast]; unfold kL kW; omega) ?_)
    rw [Int.toNat_natCast]
    have hih := ih (i + 1) (by omega)
    have e : (List.range (i + 1)).map (lowRow k) = (List.range i).map (lowRow k) ++ [lowRow k i] := by rw [List.range_succ, List.map_append]; rfl
    rw [e] at hih
    have := low_l1 h1 h2 ((List.range i).map (lowRow k)) (by simp; omega) i (by omega) _ _ hih k 0 (by omega)
    rw [show kL k = k + (kS k + 2) from by unfold kL kW; omega]
    exact this
theorem low_ev {k : Nat} (h1 : 1 ≤ k) (h2 : k ≤ 40) : Ev (fun q => precode_Low.f q (k : Int) ((kS k : Nat) : Int) 2) (lowRows k) := by
  unfold precode_Low.f
  refine ev_val (right_ok h1 h2) (ev_pos rfl ?_)
  exact low_l0 h1 h2 (kS k) 0 (by omega)
theorem low_zero : Ev (fun q => precode_Low.f q 0 0 0) [] := by
  unfold precode_Low.f
  exact ev_val right_zero (ev_neg (by decide) (Ev.now _))

/-! ### drawn numbers -/
theorem rand_ok (y i : Int) {m : Nat} (h : 0 < m) (hm : m < 2 ^ 40) : random_Rand.f y i (m : Int) = some ((rnd y i m : Nat) : Int) := by
  unfold random_Rand.f
  rw [if_neg (by omega)]
  have e : ∀ x, random_Stir.f x = some (stir x) := fun x => rfl
  simp only [e, Option.bind_some]
  have h1 := stir_range ((stir y + (i * 2654435769) % 4294967296) % 4294967296)
  rw [if_neg (by omega), w64 (by omega) (by omega), Int.tmod_eq_emod_of_nonneg (by omega), rnd_cast y i h]

/-! ### the high rows -/
theorem high_next (h c : Nat) : (List.range (c + 1)).map (highVal h) = (List.range c).map (highVal h) ++ [highVal h c] := by
  rw [List.range_succ, List.map_append]; rfl
theorem high_l1 {k : Nat} (h1 : 1 ≤ k) (h2 : k ≤ 40) (x3 : List (List Int)) (hx : x3.length < 100) (i : Nat) (hi : i < 2) (R : List (List Int)) (x11 : Int)
    (hR : Ev (fun q => precode_High.l0 q (x3 ++ [highRow k i]) x11 ((i + 1 : Nat) : Int) (k : Int) ((kS k : Nat) : Int) 2) R) (d : Nat) : ∀ c, c + d = kW k →
    Ev (fun q => precode_High.l1 q x3 (i : Int) (((List.range c).map (highVal i)) ++ List.replicate (d + 2) 0) x11 (i : Int) ((kW k : Nat) : Int) (c : Int) (k : Int) ((kS k : Nat) : Int) 2) R := by
  have hs := kS_le h2
  have hs2 := kS_pos k
  have hw : kW k ≤ 47 := by unfold kW; omega
  induction d with
  | zero =>
    intro c hc
    obtain rfl : c = kW k := by omega
    refine Ev.step (fun q => by simp only [precode_High.l1]; rfl) ?_
    refine ev_neg (by omega) ?_
    refine ev_val (w_ok h2) ?_
    rw [w64 (i := ((kW k : Nat) : Int) + (i : Int)) (by omega) (by omega), show ((kW k : Nat) : Int) + (i : Int) = ((kW k + i : Nat) : Int) from by omega]
    have hlen : (((List.range (kW k)).map (highVal i)) ++ List.replicate (0 + 2) 0).length = kL k := by simp [kL]
    refine ev_pos (by omega) (ev_pos (by rw [hlen]; unfold kL; omega) (ev_pos (by omega) ?_))
    rw [w64 (i := (i : Int) + 1) (by omega) (by omega), Int.toNat_natCast, Nat.zero_add, show (i : Int) + 1 = ((i + 1 : Nat) : Int) from by omega]
    exact hR
  | succ d ih =>
    intro c hc
    refine Ev.step (fun q => by simp only [precode_High.l1]; rfl) ?_
    refine ev_pos (by omega) ?_
    have er : (c : Int) % 4294967296 = (c : Int) := by omega
    have ei : wrap64 ((i : Int) + 7) % 4294967296 = (i : Int) + 7 := by rw [w64 (by omega) (by omega)]; omega
    have ra := rand_ok (c : Int) ((i : Int) + 7) (m := 255) (by decide) (by decide)
    rw [er, ei]
    refine ev_val ra ?_
    have hr := rnd_lt (c : Int) ((i : Int) + 7) (m := 255) (by decide)
    have hm : m255 ((rnd (c : Int) ((i : Int) + 7) 255 : Nat) : Int) = rnd (c : Int) ((i : Int) + 7) 255 := m255_small hr
    have hp := Power_ev ((rnd (c : Int) ((i : Int) + 7) 255 : Nat) : Int)
    rw [hm] at hp
    refine Ev.bind hp ?_
    have hlen : (((List.range c).map (highVal i)) ++ List.replicate (d + 1 + 2) (0 : Int)).length = kL k := by simp [kL]; omega
    refine ev_pos (by omega) (ev_pos (by rw [hlen]; unfold kL; omega) ?_)
    have hih := ih (c + 1) (by omega)
    rw [high_next, List.append_assoc, List.singleton_append] at hih
    have e1 : List.replicate (d + 1 + 2) (0 : Int) = 0 :: List.replicate (d + 2) 0 := by rw [show d + 1 + 2 = (d + 2) + 1 from by omega, List.replicate_succ]
    have e2 := grow_set ((List.range c).map (highVal i)) (List.replicate (d + 2) 0) 0 (highVal i c)
    rw [List.length_map, List.length_range] at e2
    rw [w64 (i := (c : Int) + 1) (by omega) (by omega), Int.toNat_natCast, show (c : Int) + 1 = ((c + 1 : Nat) : Int) from by omega, e1]
    have e3 : ((pw 2 (rnd (c : Int) ((i : Int) + 7) 255) : Nat) : Int) = highVal i c := by unfold highVal; rfl
    rw [e3, e2]
    exact hih
theorem high_l0 {k : Nat} (h1 : 1 ≤ k) (h2 : k ≤ 40) (d : Nat) : ∀ i, i + d = 2 →
    Ev (fun q => precode_High.l0 q ((List.range i).map (highRow k)) 2 (i : Int) (k : Int) ((kS k : Nat) : Int) 2) (highRows k) := by
  have hs := kS_le h2
  induction d with
  | zero =>
    intro i hi
    refine Ev.step (fun q => by simp only [precode_High.l0]; rfl) ?_
    refine ev_neg (by omega) ?_
    obtain rfl : i = 2 := by omega
    exact Ev.now _
  | succ d ih =>
    intro i hi
    refine Ev.step (fun q => by simp only [precode_High.l0]; rfl) ?_
    refine ev_pos (by omega) ?_
    refine ev_val (l_ok h2) ?_
    refine ev_pos (by omega) (ev_pos (by rw [Int.toNat_natCast]; unfold kL kW; omega) ?_)
    refine ev_val (w_ok h2) ?_
    rw [Int.toNat_natCast]
    have hih := ih (i + 1) (by omega)
    have e : (List.range (i + 1)).map (highRow k) = (List.range i).map (highRow k) ++ [highRow k i] := by rw [List.range_succ, List.map_append]; rfl
    rw [e] at hih
    have := high_l1 h1 h2 ((List.range i).map (highRow k)) (by simp; omega) i (by omega) _ _ hih (kW k) 0 (by omega)
    exact this
theorem high_ev {k : Nat} (h1 : 1 ≤ k) (h2 : k ≤ 40) : Ev (fun q => precode_High.f q (k : Int) ((kS k : Nat) : Int) 2) (highRows k) := by
  unfold precode_High.f
  refine ev_val (right_ok h1 h2) (ev_pos rfl ?_)
  exact high_l0 h1 h2 2 0 (by omega)
theorem high_zero : Ev (fun q => precode_High.f q 0 0 0) [] := by
  unfold precode_High.f
  exact ev_val right_zero (ev_neg (by decide) (Ev.now _))
theorem alive_ev : Ev (fun k => fountainlaw7_alive.f k) true := by
  unfold fountainlaw7_alive.f
  have h3 := of_ok (k := 3) (by omega) (by omega)
  rw [show ((3 : Nat) : Int) = 3 from rfl] at h3
  refine ev_val h3 ?_
  refine Ev.bind low_zero ?_
  refine ev_pos rfl ?_
  refine Ev.bind (low_ev (k := 3) (by omega) (by omega)) ?_
  refine ev_pos (by rw [lowRows_length]; rfl) ?_
  refine Ev.bind (high_ev (k := 3) (by omega) (by omega)) ?_
  rw [highRows_length]
  exact Ev.now _

end Go.Proofs.Ytbfhinfblepidaa.FPrecodeOnes
