/- What the printed functions of package field, and of the document's first chapter, come to, in the numbers of Gf: for bytes, whatever the other arguments. -/
import Derived.Test.YtinplhdjgjijiaaGf
import Derived.Test.YtinplhdjgjijiaaRw
import Derived.Test.YtinplhdjgjijiaaPRowsTwicex
namespace Go.Proofs.Ytinplhdjgjijiaa.FRowsTwice
open Go.RowKit Go.Proofs.Ytinplhdjgjijiaa.PRowsTwice Go.Proofs.YtinplhdjgjijiaaW.PrintWords Go.Proofs.YtinplhdjgjijiaaW.PrintLast Go.Proofs.YtinplhdjgjijiaaW.PrintMore Go.Proofs.Ytinplhdjgjijiaa.Gf Go.Proofs.Ytinplhdjgjijiaa.Rw

theorem w64 {i : Int} (h0 : -9223372036854775808 ≤ i) (h1 : i < 9223372036854775808) : wrap64 i = i := by unfold wrap64; omega
theorem u64w {i : Int} (h0 : 0 ≤ i) (h1 : i < 9223372036854775808) : IntKind.u64.wrap i = i := by
  simp [IntKind.wrap, IntKind.bits, IntKind.signed]; omega
theorem rd_drop {l : List Int} {x : Int} {t : List Int} {i : Nat} (h : l.drop i = x :: t) : rd l (i : Int) = x ∧ i < l.length ∧ l.drop (i + 1) = t := by
  have hi : i < l.length := by
    rcases Nat.lt_or_ge i l.length with h' | h'
    · exact h'
    · rw [List.drop_eq_nil_of_le h'] at h; cases h
  have := List.drop_eq_getElem_cons hi
  rw [this] at h
  injection h with h1 h2
  refine ⟨?_, hi, h2⟩
  unfold rd
  simp [List.getD, hi, h1]
theorem xor_i64 (a b : Nat) (ha : a < 2 ^ 40) (hb : b < 2 ^ 40) : Go.bits .xor .i64 (a : Int) (b : Int) = ((a ^^^ b : Nat) : Int) := by
  have hx : a ^^^ b < 2 ^ 40 := Nat.xor_lt_two_pow ha hb
  have hp : 2 ^ 40 ≤ 2 ^ IntKind.i64.bits := by decide
  have ha' : a % 2 ^ IntKind.i64.bits = a := Nat.mod_eq_of_lt (by omega)
  have hb' : b % 2 ^ IntKind.i64.bits = b := Nat.mod_eq_of_lt (by omega)
  simp only [Go.bits, BitVec.ofInt_natCast, BitVec.toNat_xor, BitVec.toNat_ofNat, ha', hb']
  rw [IntWalk.i64_left]
  exact w64 (by omega) (by omega)
theorem and_i64 (a b : Nat) (ha : a < 2 ^ 40) (hb : b < 2 ^ 40) : Go.bits .and .i64 (a : Int) (b : Int) = ((a &&& b : Nat) : Int) := by
  have hx : a &&& b < 2 ^ 40 := Nat.and_lt_two_pow a hb
  have hp : 2 ^ 40 ≤ 2 ^ IntKind.i64.bits := by decide
  have ha' : a % 2 ^ IntKind.i64.bits = a := Nat.mod_eq_of_lt (by omega)
  have hb' : b % 2 ^ IntKind.i64.bits = b := Nat.mod_eq_of_lt (by omega)
  simp only [Go.bits, BitVec.ofInt_natCast, BitVec.toNat_and, BitVec.toNat_ofNat, ha', hb']
  rw [IntWalk.i64_left]
  exact w64 (by omega) (by omega)
theorem and1_i64 (a : Nat) (ha : a < 2 ^ 40) : Go.bits .and .i64 (a : Int) 1 = ((a % 2 : Nat) : Int) := by
  have := and_i64 a 1 ha (by decide)
  rw [Nat.and_one_is_mod] at this; exact this
theorem and1_u8 (a : Nat) (ha : a < 256) : Go.bits .and .u8 (a : Int) 1 = ((a % 2 : Nat) : Int) := by
  have := u8_and_nat a 1 ha (by decide)
  rw [Nat.and_one_is_mod] at this; exact this
theorem tb0 (a : Nat) : a.testBit 0 = decide (a % 2 = 1) := by simp [Nat.testBit_zero]
theorem odd_iff (a : Nat) : (((a % 2 : Nat) : Int) = 1) ↔ a.testBit 0 = true := by rw [tb0]; simp; omega
theorem ev_pos {α : Type} {c : Prop} [Decidable c] {f g : Nat → Option α} {r : α} (h : c) (e : Ev f r) : Ev (fun k => if c then f k else g k) r := by
  simp only [if_pos h]; exact e
theorem ev_neg {α : Type} {c : Prop} [Decidable c] {f g : Nat → Option α} {r : α} (h : ¬ c) (e : Ev g r) : Ev (fun k => if c then f k else g k) r := by
  simp only [if_neg h]; exact e
/-- A call without rounds: what it comes to is laid in. (By a lemma, not by 'simp only [Option.bind_some]': the kernel would reckon on both sides.) -/
theorem ev_val {α β : Type} {o : Option α} {a : α} {F : Nat → α → Option β} {r : β} (h : o = some a) (e : Ev (fun k => F k a) r) : Ev (fun k => o.bind (F k)) r := by
  subst h; exact e
theorem ev_eq {α : Type} {g f : Nat → Option α} {r : α} (h : ∀ k, g k = f k) (e : Ev f r) : Ev g r := Ev.congr h e

/-! ### sums -/
def sumB (l : List Nat) : Nat := l.foldl (· ^^^ ·) 0
theorem foldl_xor_lt (l : List Nat) : ∀ o, o < 256 → (∀ x ∈ l, x < 256) → l.foldl (· ^^^ ·) o < 256 := by
  induction l with
  | nil => intro o ho _; exact ho
  | cons x l ih => intro o ho h; exact ih _ (xor_lt ho (h x (by simp))) (fun y hy => h y (by simp [hy]))
theorem add_l0 (l : List Nat) (hl : ∀ x ∈ l, x < 256) (hn : l.length < 2 ^ 62) (t : List Nat) : ∀ (i k o : Nat), o < 256 → l.drop i = t → t.length < k →
    field_Add.l0 k (o : Int) (l.map fun x : Nat => (x : Int)) (l.length : Int) (i : Int) = some ((t.foldl (· ^^^ ·) o : Nat) : Int) := by
  induction t with
  | nil =>
    intro i k o ho hd hk
    obtain ⟨k, rfl⟩ : ∃ m, k = m + 1 := ⟨k - 1, by simp at hk; omega⟩
    have : l.length ≤ i := by have := congrArg List.length hd; simp at this; omega
    simp only [field_Add.l0]; rw [if_neg (by omega)]; rfl
  | cons x t ih =>
    intro i k o ho hd hk
    obtain ⟨k, rfl⟩ : ∃ m, k = m + 1 := ⟨k - 1, by simp at hk; omega⟩
    have hd' : (l.map fun x : Nat => (x : Int)).drop i = (x : Int) :: t.map fun x : Nat => (x : Int) := by rw [← List.map_drop, hd]; rfl
    obtain ⟨h1, h2, h3⟩ := rd_drop hd'
    simp only [List.length_map] at h2
    have hx : x < 256 := hl x (List.mem_of_mem_drop (hd ▸ List.mem_cons_self : x ∈ l.drop i))
    simp only [field_Add.l0]
    rw [if_pos (by omega), if_pos (by omega), if_pos (by rw [List.length_map]; omega), h1, u8_xor_nat o x ho hx, w64 (by omega) (by omega)]
    have := ih (i + 1) k (o ^^^ x) (xor_lt ho hx) (by rw [← List.tail_drop, hd]; rfl) (by simp at hk; omega)
    rw [show ((i : Int) + 1) = ((i + 1 : Nat) : Int) from by omega]
    exact this
theorem add_ev (l : List Nat) (hl : ∀ x ∈ l, x < 256) (hn : l.length < 2 ^ 62) : Ev (fun k => field_Add.f k (l.map fun x : Nat => (x : Int))) ((sumB l : Nat) : Int) := by
  refine ⟨l.length + 1, fun k hk => ?_⟩
  unfold field_Add.f
  rw [List.length_map]
  exact add_l0 l hl hn l 0 k 0 (by decide) rfl (by omega)
theorem add2_ev {a b : Nat} (ha : a < 256) (hb : b < 256) : Ev (fun k => field_Add.f k [(a : Int), (b : Int)]) ((a ^^^ b : Nat) : Int) := by
  have := add_ev [a, b] (by simp [ha, hb]) (by simp)
  simpa [sumB] using this

/-! ### products -/
theorem and128 {a : Nat} (ha : a < 256) : (Go.bits .and .u8 (a : Int) 128 = 0) ↔ a.testBit 7 = false := by
  have h := u8_and_nat a 128 ha (by decide)
  rw [show ((128 : Nat) : Int) = 128 from rfl] at h
  rw [h]
  have hs : ∀ a < 256, (((a &&& 128 : Nat) : Int) = 0) ↔ a.testBit 7 = false := by decide +kernel
  exact hs a ha
theorem xt_low {a : Nat} (ha : a < 256) (h : a.testBit 7 = false) : (((a : Int) * 2) % 256) = ((xt a : Nat) : Int) := by
  have hs : ∀ a < 256, a.testBit 7 = false → (a * 2) % 256 = xt a := by decide +kernel
  have := hs a ha h; omega
theorem xt_high {a : Nat} (ha : a < 256) (h : a.testBit 7 = true) : Go.bits .xor .u8 (((a : Int) * 2) % 256) 29 = ((xt a : Nat) : Int) := by
  have hs : ∀ a < 256, a.testBit 7 = true → ((a * 2) % 256) ^^^ 29 = xt a := by decide +kernel
  have h2 := u8_xor_nat ((a * 2) % 256) 29 (by omega) (by decide)
  rw [show (((a * 2 % 256 : Nat)) : Int) = ((a : Int) * 2) % 256 from by omega, show ((29 : Nat) : Int) = 29 from rfl] at h2
  rw [h2, hs a ha h]
theorem times_l0 (n : Nat) : ∀ (a b o k : Nat), a < 256 → o < 256 → b < 2 ^ n → n ≤ 8 → n < k →
    field_times.l0 k (a : Int) (b : Int) (o : Int) = some ((o ^^^ mulN n a b : Nat) : Int) := by
  induction n with
  | zero =>
    intro a b o k _ _ hb _ hk
    obtain ⟨k, rfl⟩ : ∃ m, k = m + 1 := ⟨k - 1, by omega⟩
    simp only [field_times.l0]; rw [if_pos (by omega)]; simp [mulN]
  | succ n ih =>
    intro a b o k ha ho hb hn hk
    obtain ⟨k, rfl⟩ : ∃ m, k = m + 1 := ⟨k - 1, by omega⟩
    have hb8 : b < 256 := Nat.lt_of_lt_of_le hb (Nat.pow_le_pow_right (by decide : 0 < 2) hn)
    by_cases h0 : b = 0
    · subst h0
      simp only [field_times.l0]; rw [if_pos (by omega), mulN_zero_right]; simp
    · have hx := xt_lt ha
      have hb2 : b / 2 < 2 ^ n := by rw [Nat.pow_succ] at hb; omega
      have e2 : ((b : Int) / 2) = ((b / 2 : Nat) : Int) := by omega
      simp only [field_times.l0]
      rw [if_neg (by omega), and1_u8 b hb8]
      simp only [mulN]
      by_cases ho1 : b.testBit 0 = true
      · rw [if_pos ((odd_iff b).2 ho1), if_pos ho1, u8_xor_nat o a ho ha, ← Nat.xor_assoc]
        by_cases h7 : a.testBit 7 = true
        · rw [if_neg (by rw [and128 ha]; simp [h7]), xt_high ha h7, e2]
          exact ih _ _ _ _ hx (xor_lt ho ha) hb2 (by omega) (by omega)
        · have h7' : a.testBit 7 = false := by simpa using h7
          rw [if_pos ((and128 ha).2 h7'), xt_low ha h7', e2]
          exact ih _ _ _ _ hx (xor_lt ho ha) hb2 (by omega) (by omega)
      · rw [if_neg (by rw [odd_iff]; exact ho1), if_neg ho1, Nat.zero_xor]
        by_cases h7 : a.testBit 7 = true
        · rw [if_neg (by rw [and128 ha]; simp [h7]), xt_high ha h7, e2]
          exact ih _ _ _ _ hx ho hb2 (by omega) (by omega)
        · have h7' : a.testBit 7 = false := by simpa using h7
          rw [if_pos ((and128 ha).2 h7'), xt_low ha h7', e2]
          exact ih _ _ _ _ hx ho hb2 (by omega) (by omega)
theorem times_at {a b : Nat} (ha : a < 256) (hb : b < 256) (k : Nat) (hk : 9 ≤ k) : field_times.f k (a : Int) (b : Int) = some ((mul a b : Nat) : Int) := by
  unfold field_times.f
  have := times_l0 8 a b 0 k ha (by decide) hb (by omega) (by omega)
  rw [Nat.zero_xor] at this
  exact this
theorem times_ev {a b : Nat} (ha : a < 256) (hb : b < 256) : Ev (fun k => field_times.f k (a : Int) (b : Int)) ((mul a b : Nat) : Int) := ⟨9, fun k hk => times_at ha hb k hk⟩

def prodB (l : List Nat) : Nat := l.foldl mul 1
theorem mul_l0 (l : List Nat) (hl : ∀ x ∈ l, x < 256) (hn : l.length < 2 ^ 62) (t : List Nat) : ∀ (i k o : Nat), o < 256 → l.drop i = t → t.length + 9 < k →
    field_Mul.l0 k (o : Int) (l.map fun x : Nat => (x : Int)) (l.length : Int) (i : Int) = some ((t.foldl mul o : Nat) : Int) := by
  induction t with
  | nil =>
    intro i k o ho hd hk
    obtain ⟨k, rfl⟩ : ∃ m, k = m + 1 := ⟨k - 1, by simp at hk; omega⟩
    have : l.length ≤ i := by have := congrArg List.length hd; simp at this; omega
    simp only [field_Mul.l0]; rw [if_neg (by omega)]; rfl
  | cons x t ih =>
    intro i k o ho hd hk
    obtain ⟨k, rfl⟩ : ∃ m, k = m + 1 := ⟨k - 1, by simp at hk; omega⟩
    have hd' : (l.map fun x : Nat => (x : Int)).drop i = (x : Int) :: t.map fun x : Nat => (x : Int) := by rw [← List.map_drop, hd]; rfl
    obtain ⟨h1, h2, h3⟩ := rd_drop hd'
    simp only [List.length_map] at h2
    have hx : x < 256 := hl x (List.mem_of_mem_drop (hd ▸ List.mem_cons_self : x ∈ l.drop i))
    simp only [field_Mul.l0]
    rw [if_pos (by omega), if_pos (by omega), if_pos (by rw [List.length_map]; omega), h1, times_at ho hx k (by simp at hk; omega), w64 (by omega) (by omega)]
    simp only [Option.bind_some]
    have := ih (i + 1) k (mul o x) (mul_lt x ho) (by rw [← List.tail_drop, hd]; rfl) (by simp at hk; omega)
    rw [show ((i : Int) + 1) = ((i + 1 : Nat) : Int) from by omega]
    exact this
theorem mul_ev (l : List Nat) (hl : ∀ x ∈ l, x < 256) (hn : l.length < 2 ^ 62) : Ev (fun k => field_Mul.f k (l.map fun x : Nat => (x : Int))) ((prodB l : Nat) : Int) := by
  refine ⟨l.length + 11, fun k hk => ?_⟩
  unfold field_Mul.f
  rw [List.length_map]
  exact mul_l0 l hl hn l 0 k 1 (by decide) rfl (by omega)
theorem mul2_ev {a b : Nat} (ha : a < 256) (hb : b < 256) : Ev (fun k => field_Mul.f k [(a : Int), (b : Int)]) ((mul a b : Nat) : Int) := by
  have := mul_ev [a, b] (by simp [ha, hb]) (by simp)
  simpa [prodB, one_mul ha] using this

/-! ### sums of rows -/
theorem rd_tl {l : List F} {i : Nat} {x : F} (h : l[i]? = some x) : rd (tl l) (i : Int) = ti x := by
  unfold rd tl
  rw [Int.toNat_natCast, List.getD_eq_getElem?_getD, List.getElem?_map, h]; rfl
theorem rd_mid (pre r : List F) (x : F) : rd (tl (pre ++ x :: r)) (pre.length : Int) = ti x := by
  refine rd_tl ?_
  rw [List.getElem?_append_right (Nat.le_refl _), Nat.sub_self]; rfl
theorem set_mid (pre r : List F) (x y : F) : (tl (pre ++ x :: r)).set pre.length (ti y) = tl (pre ++ y :: r) := by
  unfold tl
  rw [← List.map_set, List.set_append_right _ _ (Nat.le_refl _), Nat.sub_self]; rfl
theorem rd_row {L : List (List F)} {r : List F} {t : List (List F)} {i : Nat} (h : L.drop i = r :: t) : rd_L1 (tll L) (i : Int) = tl r ∧ i < L.length ∧ L.drop (i + 1) = t := by
  have hi : i < L.length := by
    rcases Nat.lt_or_ge i L.length with h' | h'
    · exact h'
    · rw [List.drop_eq_nil_of_le h'] at h; cases h
  have hc := List.drop_eq_getElem_cons hi
  rw [hc] at h
  injection h with h1 h2
  refine ⟨?_, hi, h2⟩
  unfold rd_L1 tll
  rw [Int.toNat_natCast, List.getD_eq_getElem?_getD, List.getElem?_map, List.getElem?_eq_getElem hi, h1]; rfl
theorem addF_ev (a b : F) : Ev (fun k => field_Add.f k [ti a, ti b]) (ti (a ^^^ b)) := by
  have h := add2_ev (toNat_lt a) (toNat_lt b)
  unfold ti; rw [fx_toNat]; exact h
theorem mn_len (a b : Nat) : mn (a : Int) (b : Int) = ((min a b : Nat) : Int) := by unfold mn; split <;> omega
theorem sum_l1 (x13 : List (List Int)) (x14 : Int) (i : Nat) (hi : i < 2 ^ 60) (R : List Int) (a : List F) : ∀ (pre rpre r : List F), rpre.length = pre.length → pre.length + a.length < 2 ^ 60 → pre.length + r.length < 2 ^ 60 →
    Ev (fun k => rows_Sum.l0 k (tl (pre ++ addTo a r)) x13 x14 ((i + 1 : Nat) : Int)) R →
    Ev (fun k => rows_Sum.l1 k (tl (pre ++ a)) (tl (rpre ++ r)) x13 x14 (i : Int) ((min (pre.length + a.length) (pre.length + r.length) : Nat) : Int) (pre.length : Int)) R := by
  induction a with
  | nil =>
    intro pre rpre r hr h1 h2 hR
    refine Ev.step (fun k => by simp only [rows_Sum.l1]; rfl) ?_
    refine ev_neg (by simp only [List.length_nil]; omega) ?_
    rw [w64 (i := (i : Int) + 1) (by omega) (by omega), show (i : Int) + 1 = ((i + 1 : Nat) : Int) from by omega]
    cases r <;> exact hR
  | cons x a ih =>
    intro pre rpre r hr h1 h2 hR
    cases r with
    | nil =>
      refine Ev.step (fun k => by simp only [rows_Sum.l1]; rfl) ?_
      refine ev_neg (by simp only [List.length_nil]; omega) ?_
      rw [w64 (i := (i : Int) + 1) (by omega) (by omega), show (i : Int) + 1 = ((i + 1 : Nat) : Int) from by omega]
      exact hR
    | cons y r =>
      simp only [List.length_cons] at h1 h2 ⊢
      refine Ev.step (fun k => by simp only [rows_Sum.l1]; rfl) ?_
      refine ev_pos (by omega) (ev_pos (by omega) (ev_pos (by rw [tl_length, List.length_append, List.length_cons]; omega) (ev_pos (by rw [tl_length, List.length_append, List.length_cons]; omega) ?_)))
      have e2 : rd (tl (rpre ++ y :: r)) (pre.length : Int) = ti y := by rw [← hr]; exact rd_mid rpre r y
      rw [rd_mid, e2]
      refine Ev.bind (addF_ev x y) ?_
      rw [Int.toNat_natCast, set_mid, w64 (i := (pre.length : Int) + 1) (by omega) (by omega)]
      have := ih (pre ++ [x ^^^ y]) (rpre ++ [y]) r (by simp [hr]) (by simp only [List.length_append, List.length_singleton]; omega) (by simp only [List.length_append, List.length_singleton]; omega) (by rw [List.append_assoc]; exact hR)
      simp only [List.length_append, List.length_singleton, List.append_assoc, List.singleton_append] at this
      rw [show min (pre.length + (a.length + 1)) (pre.length + (r.length + 1)) = min (pre.length + 1 + a.length) (pre.length + 1 + r.length) from by omega, show (pre.length : Int) + 1 = ((pre.length + 1 : Nat) : Int) from by omega]
      exact this
theorem sum_l0 (L : List (List F)) (hL : L.length < 2 ^ 50) (hs : ∀ r ∈ L, r.length < 2 ^ 50) (t : List (List F)) : ∀ (i : Nat) (acc : List F), L.drop i = t → acc.length < 2 ^ 50 →
    Ev (fun k => rows_Sum.l0 k (tl acc) (tll L) (L.length : Int) (i : Int)) (tl (t.foldl addTo acc)) := by
  induction t with
  | nil =>
    intro i acc hd ha
    refine Ev.step (fun k => by simp only [rows_Sum.l0]; rfl) ?_
    have : L.length ≤ i := by have := congrArg List.length hd; simp at this; omega
    exact ev_neg (by omega) (Ev.now _)
  | cons r t ih =>
    intro i acc hd ha
    obtain ⟨h1, h2, h3⟩ := rd_row hd
    have hr := hs r (List.mem_of_mem_drop (hd ▸ List.mem_cons_self : r ∈ L.drop i))
    refine Ev.step (fun k => by simp only [rows_Sum.l0]; rfl) ?_
    refine ev_pos (by omega) (ev_pos (by omega) (ev_pos (by rw [tll_length]; omega) ?_))
    rw [h1, tl_length, tl_length, mn_len]
    have := sum_l1 (tll L) (L.length : Int) i (by omega) _ acc [] [] r rfl (by simp only [List.length_nil]; omega) (by simp only [List.length_nil]; omega) (ih (i + 1) (addTo acc r) h3 (by rw [addTo_length]; exact ha))
    simp only [List.length_nil, Nat.zero_add, List.nil_append] at this
    exact this
/-- How long a sum is. -/
def cutN (n : Int) : Nat := (max 0 (min n 1000)).toNat
theorem cutN_le (n : Int) : cutN n ≤ 1000 := by unfold cutN; omega
theorem cutN_mx (n : Int) : mx 0 (mn n 1000) = (cutN n : Int) := by
  unfold mx mn cutN; split <;> split <;> omega
theorem sum_ev (n : Int) (L : List (List F)) (hL : L.length < 2 ^ 50) (hs : ∀ r ∈ L, r.length < 2 ^ 50) : Ev (fun k => rows_Sum.f k n (tll L)) (tl (sumR (cutN n) L)) := by
  unfold rows_Sum.f
  have hc := cutN_le n
  rw [cutN_mx]
  refine ev_pos (by omega) (ev_pos (by rw [Int.toNat_natCast]; omega) ?_)
  rw [Int.toNat_natCast, ← tl_replicate, tll_length]
  exact sum_l0 L hL hs L 0 _ rfl (by rw [List.length_replicate]; omega)

/-! ### products, over bytes -/
theorem mulF_ev (a b : F) : Ev (fun k => field_Mul.f k [ti a, ti b]) (ti (fm a b)) := by
  have h := mul2_ev (toNat_lt a) (toNat_lt b)
  unfold ti; rw [fm_toNat]; exact h
theorem scale_l0 (c : F) (l : List F) (hl : l.length < 2 ^ 50) (t : List F) : ∀ (pre : List F), l = pre ++ t →
    Ev (fun k => rows_Scale.l0 k (ti c) (tl (scaleR c pre ++ List.replicate t.length 0)) (tl l) (l.length : Int) (pre.length : Int)) (tl (scaleR c l)) := by
  induction t with
  | nil =>
    intro pre hp
    refine Ev.step (fun k => by simp only [rows_Scale.l0]; rfl) ?_
    subst hp
    rw [List.append_nil]
    refine ev_neg (by omega) ?_
    rw [List.length_nil, List.replicate_zero, List.append_nil]
    exact Ev.now _
  | cons x t ih =>
    intro pre hp
    have hlen : l.length = pre.length + (t.length + 1) := by rw [hp]; simp
    have e1 : rd (tl l) (pre.length : Int) = ti x := by rw [hp]; exact rd_mid pre t x
    have e2 : (tl (scaleR c pre ++ List.replicate (t.length + 1) 0)).length = l.length := by rw [tl_length, List.length_append, scaleR_length, List.length_replicate, hlen]
    refine Ev.step (fun k => by simp only [rows_Scale.l0]; rfl) ?_
    rw [List.length_cons]
    refine ev_pos (by omega) (ev_pos (by omega) (ev_pos (by rw [tl_length]; omega) ?_))
    rw [e1]
    refine Ev.bind (mulF_ev c x) (ev_pos (by rw [e2]; omega) ?_)
    have e3 := set_mid (scaleR c pre) (List.replicate t.length 0) 0 (fm c x)
    rw [scaleR_length] at e3
    rw [List.replicate_succ, Int.toNat_natCast, e3, w64 (i := (pre.length : Int) + 1) (by omega) (by omega), show (pre.length : Int) + 1 = ((pre.length + 1 : Nat) : Int) from by omega]
    have := ih (pre ++ [x]) (by rw [hp, List.append_assoc]; rfl)
    rw [List.length_append, List.length_singleton] at this
    have e4 : scaleR c (pre ++ [x]) = scaleR c pre ++ [fm c x] := by unfold scaleR; rw [List.map_append]; rfl
    rw [e4, List.append_assoc, List.singleton_append] at this
    exact this
theorem scale_ev (c : F) (l : List F) (hl : l.length < 2 ^ 40) : Ev (fun k => rows_Scale.f k (ti c) (tl l)) (tl (scaleR c l)) := by
  unfold rows_Scale.f
  refine ev_pos (by omega) (ev_pos (by rw [tl_length, Int.toNat_natCast]; omega) ?_)
  rw [tl_length, Int.toNat_natCast, ← tl_replicate]
  exact scale_l0 c l (by omega) l [] rfl
theorem dot_l0 (a b : List F) (ha : a.length < 2 ^ 50) (t : List F) : ∀ (pre pre' u : List F) (o : F), a = pre ++ t → b = pre' ++ u → pre'.length = pre.length →
    Ev (fun k => rows_Dot.l0 k (tl a) (tl b) (ti o) ((min a.length b.length : Nat) : Int) (pre.length : Int)) (ti (dotR o t u)) := by
  induction t with
  | nil =>
    intro pre pre' u o h1 h2 h3
    refine Ev.step (fun k => by simp only [rows_Dot.l0]; rfl) ?_
    have hl : a.length = pre.length := by rw [h1, List.append_nil]
    refine ev_neg (by omega) ?_
    cases u <;> exact Ev.now _
  | cons x t ih =>
    intro pre pre' u o h1 h2 h3
    have hl : a.length = pre.length + (t.length + 1) := by rw [h1]; simp
    refine Ev.step (fun k => by simp only [rows_Dot.l0]; rfl) ?_
    cases u with
    | nil =>
      have hl2 : b.length = pre.length := by rw [h2, List.append_nil, h3]
      refine ev_neg (by omega) ?_
      exact Ev.now _
    | cons y u =>
      have hl2 : b.length = pre.length + (u.length + 1) := by rw [h2, ← h3]; simp
      have e1 : rd (tl a) (pre.length : Int) = ti x := by rw [h1]; exact rd_mid pre t x
      have e2 : rd (tl b) (pre.length : Int) = ti y := by rw [h2, ← h3]; exact rd_mid pre' u y
      refine ev_pos (by omega) (ev_pos (by omega) (ev_pos (by rw [tl_length]; omega) (ev_pos (by rw [tl_length]; omega) ?_)))
      rw [e1, e2]
      refine Ev.bind (mulF_ev x y) (Ev.bind (addF_ev o (fm x y)) ?_)
      rw [w64 (i := (pre.length : Int) + 1) (by omega) (by omega), show (pre.length : Int) + 1 = ((pre.length + 1 : Nat) : Int) from by omega]
      have := ih (pre ++ [x]) (pre' ++ [y]) u (o ^^^ fm x y) (by rw [h1, List.append_assoc]; rfl) (by rw [h2, List.append_assoc]; rfl) (by simp [h3])
      rw [List.length_append, List.length_singleton] at this
      exact this
theorem dot_ev (a b : List F) (ha : a.length < 2 ^ 50) : Ev (fun k => rows_Dot.f k (tl a) (tl b)) (ti (dotR 0 a b)) := by
  unfold rows_Dot.f
  rw [tl_length, tl_length, mn_len]
  exact dot_l0 a b ha a [] [] b 0 rfl rfl rfl

/-! ### the document's sums, products, mixtures -/
theorem rcut_eq (n : Int) : fountainref1_Cut.f n 0 1000 = some ((cutN n : Nat) : Int) := by
  unfold fountainref1_Cut.f cutN
  by_cases h1 : n < 0
  · rw [if_pos h1]; congr 1; omega
  · rw [if_neg h1]
    by_cases h2 : n > 1000
    · rw [if_pos h2]; congr 1; omega
    · rw [if_neg h2]; congr 1; omega
theorem rat_lt {r : List F} {i : Nat} {x : F} (h : r[i]? = some x) : fountainref1_at.f (tl r) (i : Int) = some (ti x) := by
  unfold fountainref1_at.f
  have := (List.getElem?_eq_some_iff.1 h).1
  rw [if_pos (by rw [tl_length]; omega), if_pos (by omega), rd_tl h]
theorem rat_ge {r : List F} {i : Nat} (h : r.length ≤ i) : fountainref1_at.f (tl r) (i : Int) = some 0 := by
  unfold fountainref1_at.f
  rw [if_neg (by rw [tl_length]; omega)]
theorem xorF (a b : F) : Go.bits .xor .u8 (ti a) (ti b) = ti (a ^^^ b) := by
  unfold ti; rw [u8_xor_nat _ _ (toNat_lt a) (toNat_lt b), fx_toNat]
theorem rsum_l1 (L : List (List F)) (row : List F) (i : Nat) (hi : i < L.length) (hi2 : i < 2 ^ 60) (hrow : rd_L1 (tll L) (i : Int) = tl row) (R : List Int) (a : List F) : ∀ (pre rpre r : List F), row = rpre ++ r → (rpre.length = pre.length ∨ (r = [] ∧ rpre.length ≤ pre.length)) → pre.length + a.length < 2 ^ 60 →
    Ev (fun k => fountainref1_Sum.l0 k (tll L) (tl (pre ++ addTo a r)) ((i + 1 : Nat) : Int)) R →
    Ev (fun k => fountainref1_Sum.l1 k (tll L) (tl (pre ++ a)) (i : Int) (pre.length : Int)) R := by
  induction a with
  | nil =>
    intro pre rpre r hr h1 h2 hR
    refine Ev.step (fun k => by simp only [fountainref1_Sum.l1]; rfl) ?_
    refine ev_neg (by rw [tl_length, List.append_nil]; omega) ?_
    rw [w64 (i := (i : Int) + 1) (by omega) (by omega), show (i : Int) + 1 = ((i + 1 : Nat) : Int) from by omega]
    cases r <;> exact hR
  | cons x a ih =>
    intro pre rpre r hr h1 h2 hR
    simp only [List.length_cons] at h2
    refine Ev.step (fun k => by simp only [fountainref1_Sum.l1]; rfl) ?_
    refine ev_pos (by rw [tl_length, List.length_append, List.length_cons]; omega) (ev_pos (by omega) (ev_pos (by omega) (ev_pos (by rw [tll_length]; omega) ?_)))
    rw [hrow, rd_mid, Int.toNat_natCast, w64 (i := (pre.length : Int) + 1) (by omega) (by omega), show (pre.length : Int) + 1 = ((pre.length + 1 : Nat) : Int) from by omega]
    cases r with
    | nil =>
      have hge : row.length ≤ pre.length := by rw [hr, List.append_nil]; omega
      refine ev_val (rat_ge hge) ?_
      have e := xorF x 0
      have e0 : ti 0 = 0 := rfl
      rw [e0, fx_zero] at e
      rw [e, set_mid]
      have := ih (pre ++ [x]) rpre [] hr (.inr ⟨rfl, by rw [List.length_append]; omega⟩) (by rw [List.length_append, List.length_singleton]; omega) (by cases a <;> (rw [List.append_assoc]; exact hR))
      rw [List.length_append, List.length_singleton, List.append_assoc] at this
      exact this
    | cons y r =>
      have hl : rpre.length = pre.length := by rcases h1 with h | ⟨h, _⟩; exact h; cases h
      have hy : row[pre.length]? = some y := by rw [hr, ← hl, List.getElem?_append_right (Nat.le_refl _), Nat.sub_self]; rfl
      refine ev_val (rat_lt hy) ?_
      rw [xorF, set_mid]
      have := ih (pre ++ [x ^^^ y]) (rpre ++ [y]) r (by rw [hr, List.append_assoc]; rfl) (.inl (by simp [hl])) (by rw [List.length_append, List.length_singleton]; omega) (by rw [List.append_assoc]; exact hR)
      rw [List.length_append, List.length_singleton, List.append_assoc] at this
      exact this
theorem rsum_l0 (L : List (List F)) (hL : L.length < 2 ^ 50) (t : List (List F)) : ∀ (i : Nat) (acc : List F), L.drop i = t → acc.length < 2 ^ 50 →
    Ev (fun k => fountainref1_Sum.l0 k (tll L) (tl acc) (i : Int)) (tl (t.foldl addTo acc)) := by
  induction t with
  | nil =>
    intro i acc hd ha
    refine Ev.step (fun k => by simp only [fountainref1_Sum.l0]; rfl) ?_
    have : L.length ≤ i := by have := congrArg List.length hd; simp at this; omega
    exact ev_neg (by rw [tll_length]; omega) (Ev.now _)
  | cons r t ih =>
    intro i acc hd ha
    obtain ⟨h1, h2, h3⟩ := rd_row hd
    refine Ev.step (fun k => by simp only [fountainref1_Sum.l0]; rfl) ?_
    refine ev_pos (by rw [tll_length]; omega) ?_
    have := rsum_l1 L r i h2 (by omega) h1 _ acc [] [] r rfl (.inl rfl) (by simp only [List.length_nil]; omega) (ih (i + 1) (addTo acc r) h3 (by rw [addTo_length]; exact ha))
    exact this
theorem rsum_ev (n : Int) (L : List (List F)) (hL : L.length < 2 ^ 50) : Ev (fun k => fountainref1_Sum.f k n (tll L)) (tl (sumR (cutN n) L)) := by
  unfold fountainref1_Sum.f
  have hc := cutN_le n
  refine ev_val (rcut_eq n) (ev_pos (by omega) (ev_pos (by rw [Int.toNat_natCast]; omega) ?_))
  rw [Int.toNat_natCast, ← tl_replicate]
  exact rsum_l0 L hL L 0 _ rfl (by rw [List.length_replicate]; omega)
theorem alive2_ev : Ev (fun k => fountainlaw2_alive.f k) true := by
  unfold fountainlaw2_alive.f
  have h := sum_ev 2 [] (by simp) (by simp)
  refine Ev.bind h (ev_pos (by rw [tl_length, sumR_length]; rfl) ?_)
  have hd := dot_ev [2] [128] (by simp)
  have e : dotR 0 [2] [128] = 29 := by decide +kernel
  rw [e] at hd
  refine Ev.bind hd ?_
  exact Ev.now _

end Go.Proofs.Ytinplhdjgjijiaa.FRowsTwice
