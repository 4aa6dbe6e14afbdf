/- What the printed functions of package field, and of the document's first chapter, come to, in the numbers of Gf: for bytes, whatever the other arguments. -/
import Derived.Test.YtinplhdjgjijiaaGf
import Derived.Test.YtinplhdjgjijiaaPFieldLawsx
namespace Go.Proofs.Ytinplhdjgjijiaa.FFieldLaws
open Go.RowKit Go.Proofs.Ytinplhdjgjijiaa.PFieldLaws Go.Proofs.YtinplhdjgjijiaaW.PrintWords Go.Proofs.YtinplhdjgjijiaaW.PrintLast Go.Proofs.YtinplhdjgjijiaaW.PrintMore Go.Proofs.Ytinplhdjgjijiaa.Gf

theorem w64 {i : Int} (h0 : -9223372036854775808 ≤ i) (h1 : i < 9223372036854775808) : wrap64 i = i := by unfold wrap64; omega
theorem u64w {i : Int} (h0 : 0 ≤ i) (h1 : i < 9223372036854775808) : IntKind.u64.wrap i = i := by
  simp [IntKind.wrap, IntKind.bits, IntKind.signed]; omega
theorem rd_drop {l : List Int} {x : Int} {t : List Int} {i : Nat} (h : l.drop i = x :: t) : rd l (i : Int) = x ∧ i < l.length ∧ l.drop (i + 1) = t := by
  have hi : i < l.length := by
    rcases Nat.lt_or_ge i l.length with h' | h'
    · exact h'
    · rw [List.drop_eq_nil_of_le h'] at h; cases h
  have := List.drop_eq_getElem_cons hi
  rw [this] at h
  injection h with h1 h2
  refine ⟨?_, hi, h2⟩
  unfold rd
  simp [List.getD, hi, h1]
theorem xor_i64 (a b : Nat) (ha : a < 2 ^ 40) (hb : b < 2 ^ 40) : Go.bits .xor .i64 (a : Int) (b : Int) = ((a ^^^ b : Nat) : Int) := by
  have hx : a ^^^ b < 2 ^ 40 := Nat.xor_lt_two_pow ha hb
  have hp : 2 ^ 40 ≤ 2 ^ IntKind.i64.bits := by decide
  have ha' : a % 2 ^ IntKind.i64.bits = a := Nat.mod_eq_of_lt (by omega)
  have hb' : b % 2 ^ IntKind.i64.bits = b := Nat.mod_eq_of_lt (by omega)
  simp only [Go.bits, BitVec.ofInt_natCast, BitVec.toNat_xor, BitVec.toNat_ofNat, ha', hb']
  rw [IntWalk.i64_left]
  exact w64 (by omega) (by omega)
theorem and_i64 (a b : Nat) (ha : a < 2 ^ 40) (hb : b < 2 ^ 40) : Go.bits .and .i64 (a : Int) (b : Int) = ((a &&& b : Nat) : Int) := by
  have hx : a &&& b < 2 ^ 40 := Nat.and_lt_two_pow a hb
  have hp : 2 ^ 40 ≤ 2 ^ IntKind.i64.bits := by decide
  have ha' : a % 2 ^ IntKind.i64.bits = a := Nat.mod_eq_of_lt (by omega)
  have hb' : b % 2 ^ IntKind.i64.bits = b := Nat.mod_eq_of_lt (by omega)
  simp only [Go.bits, BitVec.ofInt_natCast, BitVec.toNat_and, BitVec.toNat_ofNat, ha', hb']
  rw [IntWalk.i64_left]
  exact w64 (by omega) (by omega)
theorem and1_i64 (a : Nat) (ha : a < 2 ^ 40) : Go.bits .and .i64 (a : Int) 1 = ((a % 2 : Nat) : Int) := by
  have := and_i64 a 1 ha (by decide)
  rw [Nat.and_one_is_mod] at this; exact this
theorem and1_u8 (a : Nat) (ha : a < 256) : Go.bits .and .u8 (a : Int) 1 = ((a % 2 : Nat) : Int) := by
  have := u8_and_nat a 1 ha (by decide)
  rw [Nat.and_one_is_mod] at this; exact this
theorem tb0 (a : Nat) : a.testBit 0 = decide (a % 2 = 1) := by simp [Nat.testBit_zero]
theorem odd_iff (a : Nat) : (((a % 2 : Nat) : Int) = 1) ↔ a.testBit 0 = true := by rw [tb0]; simp; omega

/-! ### bytes that came in, as numbers -/
theorem u8_range {n : Int} (h : (Lit.int .u8 n).wf = true) : 0 ≤ n ∧ n ≤ 255 := by
  simp [Lit.wf, IntKind.min, IntKind.max, IntKind.bits, IntKind.signed] at h; omega
theorem byte_of {a : Int} (h : (Lit.int .u8 a).wf = true) : ∃ n : Nat, a = (n : Int) ∧ n < 256 := by
  have := u8_range h
  exact ⟨a.toNat, by omega, by omega⟩
theorem bytes_of (l : List Int) (h : ∀ x ∈ l, (Lit.int .u8 x).wf = true) : ∃ m : List Nat, l = m.map (fun x : Nat => (x : Int)) ∧ (∀ x ∈ m, x < 256) ∧ m.length = l.length := by
  refine ⟨l.map Int.toNat, ?_, ?_, by simp⟩
  · rw [List.map_map]
    conv => lhs; rw [← List.map_id l]
    apply List.map_congr_left
    intro x hx
    have := u8_range (h x hx)
    simp; omega
  · intro x hx
    obtain ⟨y, hy, rfl⟩ := List.mem_map.1 hx
    have := u8_range (h y hy)
    omega

/-! ### sums -/
def sumB (l : List Nat) : Nat := l.foldl (· ^^^ ·) 0
theorem foldl_xor_lt (l : List Nat) : ∀ o, o < 256 → (∀ x ∈ l, x < 256) → l.foldl (· ^^^ ·) o < 256 := by
  induction l with
  | nil => intro o ho _; exact ho
  | cons x l ih => intro o ho h; exact ih _ (xor_lt ho (h x (by simp))) (fun y hy => h y (by simp [hy]))
theorem add_l0 (l : List Nat) (hl : ∀ x ∈ l, x < 256) (hn : l.length < 2 ^ 62) (t : List Nat) : ∀ (i k o : Nat), o < 256 → l.drop i = t → t.length < k →
    field_Add.l0 k (o : Int) (l.map fun x : Nat => (x : Int)) (l.length : Int) (i : Int) = some ((t.foldl (· ^^^ ·) o : Nat) : Int) := by
  induction t with
  | nil =>
    intro i k o ho hd hk
    obtain ⟨k, rfl⟩ : ∃ m, k = m + 1 := ⟨k - 1, by simp at hk; omega⟩
    have : l.length ≤ i := by have := congrArg List.length hd; simp at this; omega
    simp only [field_Add.l0]; rw [if_neg (by omega)]; rfl
  | cons x t ih =>
    intro i k o ho hd hk
    obtain ⟨k, rfl⟩ : ∃ m, k = m + 1 := ⟨k - 1, by simp at hk; omega⟩
    have hd' : (l.map fun x : Nat => (x : Int)).drop i = (x : Int) :: t.map fun x : Nat => (x : Int) := by rw [← List.map_drop, hd]; rfl
    obtain ⟨h1, h2, h3⟩ := rd_drop hd'
    simp only [List.length_map] at h2
    have hx : x < 256 := hl x (List.mem_of_mem_drop (hd ▸ List.mem_cons_self : x ∈ l.drop i))
    simp only [field_Add.l0]
    rw [if_pos (by omega), if_pos (by omega), if_pos (by rw [List.length_map]; omega), h1, u8_xor_nat o x ho hx, w64 (by omega) (by omega)]
    have := ih (i + 1) k (o ^^^ x) (xor_lt ho hx) (by rw [← List.tail_drop, hd]; rfl) (by simp at hk; omega)
    rw [show ((i : Int) + 1) = ((i + 1 : Nat) : Int) from by omega]
    exact this
theorem add_ev (l : List Nat) (hl : ∀ x ∈ l, x < 256) (hn : l.length < 2 ^ 62) : Ev (fun k => field_Add.f k (l.map fun x : Nat => (x : Int))) ((sumB l : Nat) : Int) := by
  refine ⟨l.length + 1, fun k hk => ?_⟩
  unfold field_Add.f
  rw [List.length_map]
  exact add_l0 l hl hn l 0 k 0 (by decide) rfl (by omega)
theorem add2_ev {a b : Nat} (ha : a < 256) (hb : b < 256) : Ev (fun k => field_Add.f k [(a : Int), (b : Int)]) ((a ^^^ b : Nat) : Int) := by
  have := add_ev [a, b] (by simp [ha, hb]) (by simp)
  simpa [sumB] using this

/-! ### products -/
theorem and128 {a : Nat} (ha : a < 256) : (Go.bits .and .u8 (a : Int) 128 = 0) ↔ a.testBit 7 = false := by
  have h := u8_and_nat a 128 ha (by decide)
  rw [show ((128 : Nat) : Int) = 128 from rfl] at h
  rw [h]
  have hs : ∀ a < 256, (((a &&& 128 : Nat) : Int) = 0) ↔ a.testBit 7 = false := by decide +kernel
  exact hs a ha
theorem xt_low {a : Nat} (ha : a < 256) (h : a.testBit 7 = false) : (((a : Int) * 2) % 256) = ((xt a : Nat) : Int) := by
  have hs : ∀ a < 256, a.testBit 7 = false → (a * 2) % 256 = xt a := by decide +kernel
  have := hs a ha h; omega
theorem xt_high {a : Nat} (ha : a < 256) (h : a.testBit 7 = true) : Go.bits .xor .u8 (((a : Int) * 2) % 256) 29 = ((xt a : Nat) : Int) := by
  have hs : ∀ a < 256, a.testBit 7 = true → ((a * 2) % 256) ^^^ 29 = xt a := by decide +kernel
  have h2 := u8_xor_nat ((a * 2) % 256) 29 (by omega) (by decide)
  rw [show (((a * 2 % 256 : Nat)) : Int) = ((a : Int) * 2) % 256 from by omega, show ((29 : Nat) : Int) = 29 from rfl] at h2
  rw [h2, hs a ha h]
theorem times_l0 (n : Nat) : ∀ (a b o k : Nat), a < 256 → o < 256 → b < 2 ^ n → n ≤ 8 → n < k →
    field_times.l0 k (a : Int) (b : Int) (o : Int) = some ((o ^^^ mulN n a b : Nat) : Int) := by
  induction n with
  | zero =>
    intro a b o k _ _ hb _ hk
    obtain ⟨k, rfl⟩ : ∃ m, k = m + 1 := ⟨k - 1, by omega⟩
    simp only [field_times.l0]; rw [if_pos (by omega)]; simp [mulN]
  | succ n ih =>
    intro a b o k ha ho hb hn hk
    obtain ⟨k, rfl⟩ : ∃ m, k = m + 1 := ⟨k - 1, by omega⟩
    have hb8 : b < 256 := Nat.lt_of_lt_of_le hb (Nat.pow_le_pow_right (by decide : 0 < 2) hn)
    by_cases h0 : b = 0
    · subst h0
      simp only [field_times.l0]; rw [if_pos (by omega), mulN_zero_right]; simp
    · have hx := xt_lt ha
      have hb2 : b / 2 < 2 ^ n := by rw [Nat.pow_succ] at hb; omega
      have e2 : ((b : Int) / 2) = ((b / 2 : Nat) : Int) := by omega
      simp only [field_times.l0]
      rw [if_neg (by omega), and1_u8 b hb8]
      simp only [mulN]
      by_cases ho1 : b.testBit 0 = true
      · rw [if_pos ((odd_iff b).2 ho1), if_pos ho1, u8_xor_nat o a ho ha, ← Nat.xor_assoc]
        by_cases h7 : a.testBit 7 = true
        · rw [if_neg (by rw [and128 ha]; simp [h7]), xt_high ha h7, e2]
          exact ih _ _ _ _ hx (xor_lt ho ha) hb2 (by omega) (by omega)
        · have h7' : a.testBit 7 = false := by simpa using h7
          rw [if_pos ((and128 ha).2 h7'), xt_low ha h7', e2]
          exact ih _ _ _ _ hx (xor_lt ho ha) hb2 (by omega) (by omega)
      · rw [if_neg (by rw [odd_iff]; exact ho1), if_neg ho1, Nat.zero_xor]
        by_cases h7 : a.testBit 7 = true
        · rw [if_neg (by rw [and128 ha]; simp [h7]), xt_high ha h7, e2]
          exact ih _ _ _ _ hx ho hb2 (by omega) (by omega)
        · have h7' : a.testBit 7 = false := by simpa using h7
          rw [if_pos ((and128 ha).2 h7'), xt_low ha h7', e2]
          exact ih _ _ _ _ hx ho hb2 (by omega) (by omega)
theorem times_at {a b : Nat} (ha : a < 256) (hb : b < 256) (k : Nat) (hk : 9 ≤ k) : field_times.f k (a : Int) (b : Int) = some ((mul a b : Nat) : Int) := by
  unfold field_times.f
  have := times_l0 8 a b 0 k ha (by decide) hb (by omega) (by omega)
  rw [Nat.zero_xor] at this
  exact this
theorem times_ev {a b : Nat} (ha : a < 256) (hb : b < 256) : Ev (fun k => field_times.f k (a : Int) (b : Int)) ((mul a b : Nat) : Int) := ⟨9, fun k hk => times_at ha hb k hk⟩

def prodB (l : List Nat) : Nat := l.foldl mul 1
theorem mul_l0 (l : List Nat) (hl : ∀ x ∈ l, x < 256) (hn : l.length < 2 ^ 62) (t : List Nat) : ∀ (i k o : Nat), o < 256 → l.drop i = t → t.length + 9 < k →
    field_Mul.l0 k (o : Int) (l.map fun x : Nat => (x : Int)) (l.length : Int) (i : Int) = some ((t.foldl mul o : Nat) : Int) := by
  induction t with
  | nil =>
    intro i k o ho hd hk
    obtain ⟨k, rfl⟩ : ∃ m, k = m + 1 := ⟨k - 1, by simp at hk; omega⟩
    have : l.length ≤ i := by have := congrArg List.length hd; simp at this; omega
    simp only [field_Mul.l0]; rw [if_neg (by omega)]; rfl
  | cons x t ih =>
    intro i k o ho hd hk
    obtain ⟨k, rfl⟩ : ∃ m, k = m + 1 := ⟨k - 1, by simp at hk; omega⟩
    have hd' : (l.map fun x : Nat => (x : Int)).drop i = (x : Int) :: t.map fun x : Nat => (x : Int) := by rw [← List.map_drop, hd]; rfl
    obtain ⟨h1, h2, h3⟩ := rd_drop hd'
    simp only [List.length_map] at h2
    have hx : x < 256 := hl x (List.mem_of_mem_drop (hd ▸ List.mem_cons_self : x ∈ l.drop i))
    simp only [field_Mul.l0]
    rw [if_pos (by omega), if_pos (by omega), if_pos (by rw [List.length_map]; omega), h1, times_at ho hx k (by simp at hk; omega), w64 (by omega) (by omega)]
    simp only [Option.bind_some]
    have := ih (i + 1) k (mul o x) (mul_lt x ho) (by rw [← List.tail_drop, hd]; rfl) (by simp at hk; omega)
    rw [show ((i : Int) + 1) = ((i + 1 : Nat) : Int) from by omega]
    exact this
theorem mul_ev (l : List Nat) (hl : ∀ x ∈ l, x < 256) (hn : l.length < 2 ^ 62) : Ev (fun k => field_Mul.f k (l.map fun x : Nat => (x : Int))) ((prodB l : Nat) : Int) := by
  refine ⟨l.length + 11, fun k hk => ?_⟩
  unfold field_Mul.f
  rw [List.length_map]
  exact mul_l0 l hl hn l 0 k 1 (by decide) rfl (by omega)
theorem mul2_ev {a b : Nat} (ha : a < 256) (hb : b < 256) : Ev (fun k => field_Mul.f k [(a : Int), (b : Int)]) ((mul a b : Nat) : Int) := by
  have := mul_ev [a, b] (by simp [ha, hb]) (by simp)
  simpa [prodB, one_mul ha] using this
theorem alive_ev : Ev (fun k => fountainlaw1_alive.f k) true := by
  unfold fountainlaw1_alive.f
  refine Ev.bind (mul2_ev (a := 2) (b := 128) (by decide) (by decide)) ?_
  rw [show mul 2 128 = 29 from by decide +kernel]
  simp only [show (((29 : Nat) : Int) = 29) from rfl, if_true]
  refine Ev.bind (a := 1) (mul_ev [] (by simp) (by simp)) ?_
  simp only [if_true]
  refine Ev.bind (a := 7) (add_ev [3, 5, 1] (by simp) (by simp)) ?_
  exact Ev.now _

/-! ### powers -/
theorem power_l0 (n : Nat) : ∀ (a o k : Nat), a < 256 → o < 256 → n < 2 ^ 30 → n + 10 < k →
    field_power.l0 k (a : Int) (n : Int) (o : Int) = some ((mul o (pw a n) : Nat) : Int) := by
  induction n using Nat.strongRecOn with
  | ind n ih =>
    intro a o k ha ho hn hk
    obtain ⟨k, rfl⟩ : ∃ m, k = m + 1 := ⟨k - 1, by omega⟩
    simp only [field_power.l0]
    by_cases h0 : n = 0
    · subst h0
      rw [if_neg (by omega)]; simp only [pw]; rw [mul_one ho]
    · have e2 : ((n : Int) / 2) = ((n / 2 : Nat) : Int) := by omega
      rw [if_pos (by omega), and1_i64 n (by omega)]
      by_cases h1 : n % 2 = 1
      · rw [if_pos (by omega), times_at ho ha k (by omega)]; simp only [Option.bind_some]
        rw [times_at ha ha k (by omega)]; simp only [Option.bind_some]
        rw [e2, ih (n / 2) (by omega) _ _ _ (mul_lt a ha) (mul_lt a ho) (by omega) (by omega), ← pw_odd ha ho n h1]
      · rw [if_neg (by omega), times_at ha ha k (by omega)]; simp only [Option.bind_some]
        rw [e2, ih (n / 2) (by omega) _ _ _ (mul_lt a ha) ho (by omega) (by omega), ← pw_even ha n (by omega)]
theorem power_ev {a n : Nat} (ha : a < 256) (hn : n < 2 ^ 30) : Ev (fun k => field_power.f k (a : Int) (n : Int)) ((pw a n : Nat) : Int) := by
  refine ⟨n + 11, fun k hk => ?_⟩
  unfold field_power.f
  have := power_l0 n a 1 k ha (by decide) hn (by omega)
  rw [one_mul (pw_lt a n)] at this
  exact this
theorem inv_ev {a : Nat} (ha : a < 256) : Ev (fun k => field_Inv.f k (a : Int)) ((iv a : Nat) : Int) := by
  unfold field_Inv.f
  exact Ev.bind (power_ev (n := 254) ha (by decide)) (Ev.now _)

end Go.Proofs.Ytinplhdjgjijiaa.FFieldLaws
