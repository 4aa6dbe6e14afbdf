/- What the printed functions of package field, and of the document's first chapter, come to, in the numbers of Gf: for bytes, whatever the other arguments. -/
import Derived.Test.YtbfhinfblepidaaGf
import Derived.Test.YtbfhinfblepidaaRw
import Derived.Test.YtbfhinfblepidaaPSolveTellsx
namespace Go.Proofs.Ytbfhinfblepidaa.FSolveTells
open Go.RowKit Go.Proofs.Ytbfhinfblepidaa.PSolveTells Go.Proofs.YtbfhinfblepidaaW.PrintWords Go.Proofs.YtbfhinfblepidaaW.PrintLast Go.Proofs.YtbfhinfblepidaaW.PrintMore Go.Proofs.Ytbfhinfblepidaa.Gf Go.Proofs.Ytbfhinfblepidaa.Rw

theorem w64 {i : Int} (h0 : -9223372036854775808 ≤ i) (h1 : i < 9223372036854775808) : wrap64 i = i := by unfold wrap64; omega
theorem u64w {i : Int} (h0 : 0 ≤ i) (h1 : i < 9223372036854775808) : IntKind.u64.wrap i = i := by
  simp [IntKind.wrap, IntKind.bits, IntKind.signed]; omega
theorem rd_drop {l : List Int} {x : Int} {t : List Int} {i : Nat} (h : l.drop i = x :: t) : rd l (i : Int) = x ∧ i < l.length ∧ l.drop (i + 1) = t := by
  have hi : i < l.length := by
    rcases Nat.lt_or_ge i l.length with h' | h'
    · exact h'
    · rw [List.drop_eq_nil_of_le h'] at h; cases h
  have := List.drop_eq_getElem_cons hi
  rw [this] at h
  injection h with h1 h2
  refine ⟨?_, hi, h2⟩
  unfold rd
  simp [List.getD, hi, h1]
theorem xor_i64 (a b : Nat) (ha : a < 2 ^ 40) (hb : b < 2 ^ 40) : Go.bits .xor .i64 (a : Int) (b : Int) = ((a ^^^ b : Nat) : Int) := by
  have hx : a ^^^ b < 2 ^ 40 := Nat.xor_lt_two_pow ha hb
  have hp : 2 ^ 40 ≤ 2 ^ IntKind.i64.bits := by decide
  have ha' : a % 2 ^ IntKind.i64.bits = a := Nat.mod_eq_of_lt (by omega)
  have hb' : b % 2 ^ IntKind.i64.bits = b := Nat.mod_eq_of_lt (by omega)
  simp only [Go.bits, BitVec.ofInt_natCast, BitVec.toNat_xor, BitVec.toNat_ofNat, ha', hb']
  rw [IntWalk.i64_left]
  exact w64 (by omega) (by omega)
theorem and_i64 (a b : Nat) (ha : a < 2 ^ 40) (hb : b < 2 ^ 40) : Go.bits .and .i64 (a : Int) (b : Int) = ((a &&& b : Nat) : Int) := by
  have hx : a &&& b < 2 ^ 40 := Nat.and_lt_two_pow a hb
  have hp : 2 ^ 40 ≤ 2 ^ IntKind.i64.bits := by decide
  have ha' : a % 2 ^ IntKind.i64.bits = a := Nat.mod_eq_of_lt (by omega)
  have hb' : b % 2 ^ IntKind.i64.bits = b := Nat.mod_eq_of_lt (by omega)
  simp only [Go.bits, BitVec.ofInt_natCast, BitVec.toNat_and, BitVec.toNat_ofNat, ha', hb']
  rw [IntWalk.i64_left]
  exact w64 (by omega) (by omega)
theorem and1_i64 (a : Nat) (ha : a < 2 ^ 40) : Go.bits .and .i64 (a : Int) 1 = ((a % 2 : Nat) : Int) := by
  have := and_i64 a 1 ha (by decide)
  rw [Nat.and_one_is_mod] at this; exact this
theorem and1_u8 (a : Nat) (ha : a < 256) : Go.bits .and .u8 (a : Int) 1 = ((a % 2 : Nat) : Int) := by
  have := u8_and_nat a 1 ha (by decide)
  rw [Nat.and_one_is_mod] at this; exact this
theorem tb0 (a : Nat) : a.testBit 0 = decide (a % 2 = 1) := by simp [Nat.testBit_zero]
theorem odd_iff (a : Nat) : (((a % 2 : Nat) : Int) = 1) ↔ a.testBit 0 = true := by rw [tb0]; simp; omega
theorem ev_pos {α : Type} {c : Prop} [Decidable c] {f g : Nat → Option α} {r : α} (h : c) (e : Ev f r) : Ev (fun k => if c then f k else g k) r := by
  simp only [if_pos h]; exact e
theorem ev_neg {α : Type} {c : Prop} [Decidable c] {f g : Nat → Option α} {r : α} (h : ¬ c) (e : Ev g r) : Ev (fun k => if c then f k else g k) r := by
  simp only [if_neg h]; exact e
/-- A call without rounds: what it comes to is laid in. (By a lemma, not by 'simp only [Option.bind_some]': the kernel would reckon on both sides.) -/
theorem ev_val {α β : Type} {o : Option α} {a : α} {F : Nat → α → Option β} {r : β} (h : o = some a) (e : Ev (fun k => F k a) r) : Ev (fun k => o.bind (F k)) r := by
  subst h; exact e
theorem ev_eq {α : Type} {g f : Nat → Option α} {r : α} (h : ∀ k, g k = f k) (e : Ev f r) : Ev g r := Ev.congr h e

/-! ### sums -/
def sumB (l : List Nat) : Nat := l.foldl (· ^^^ ·) 0
theorem foldl_xor_lt (l : List Nat) : ∀ o, o < 256 → (∀ x ∈ l, x < 256) → l.foldl (· ^^^ ·) o < 256 := by
  induction l with
  | nil => intro o ho _; exact ho
  | cons x l ih => intro o ho h; exact ih _ (xor_lt ho (h x (by simp))) (fun y hy => h y (by simp [hy]))
theorem add_l0 (l : List Nat) (hl : ∀ x ∈ l, x < 256) (hn : l.length < 2 ^ 62) (t : List Nat) : ∀ (i k o : Nat), o < 256 → l.drop i = t → t.length < k →
    field_Add.l0 k (o : Int) (l.map fun x : Nat => (x : Int)) (l.length : Int) (i : Int) = some ((t.foldl (· ^^^ ·) o : Nat) : Int) := by
  induction t with
  | nil =>
    intro i k o ho hd hk
    obtain ⟨k, rfl⟩ : ∃ m, k = m + 1 := ⟨k - 1, by simp at hk; omega⟩
    have : l.length ≤ i := by have := congrArg List.length hd; simp at this; omega
    simp only [field_Add.l0]; rw [if_neg (by omega)]; rfl
  | cons x t ih =>
    intro i k o ho hd hk
    obtain ⟨k, rfl⟩ : ∃ m, k = m + 1 := ⟨k - 1, by simp at hk; omega⟩
    have hd' : (l.map fun x : Nat => (x : Int)).drop i = (x : Int) :: t.map fun x : Nat => (x : Int) := by rw [← List.map_drop, hd]; rfl
    obtain ⟨h1, h2, h3⟩ := rd_drop hd'
    simp only [List.length_map] at h2
    have hx : x < 256 := hl x (List.mem_of_mem_drop (hd ▸ List.mem_cons_self : x ∈ l.drop i))
    simp only [field_Add.l0]
    rw [if_pos (by omega), if_pos (by omega), if_pos (by rw [List.length_map]; omega), h1, u8_xor_nat o x ho hx, w64 (by omega) (by omega)]
    have := ih (i + 1) k (o ^^^ x) (xor_lt ho hx) (by rw [← List.tail_drop, hd]; rfl) (by simp at hk; omega)
    rw [show ((i : Int) + 1) = ((i + 1 : Nat) : Int) from by omega]
    exact this
theorem add_ev (l : List Nat) (hl : ∀ x ∈ l, x < 256) (hn : l.length < 2 ^ 62) : Ev (fun k => field_Add.f k (l.map fun x : Nat => (x : Int))) ((sumB l : Nat) : Int) := by
  refine ⟨l.length + 1, fun k hk => ?_⟩
  unfold field_Add.f
  rw [List.length_map]
  exact add_l0 l hl hn l 0 k 0 (by decide) rfl (by omega)
theorem add2_ev {a b : Nat} (ha : a < 256) (hb : b < 256) : Ev (fun k => field_Add.f k [(a : Int), (b : Int)]) ((a ^^^ b : Nat) : Int) := by
  have := add_ev [a, b] (by simp [ha, hb]) (by simp)
  simpa [sumB] using this

/-! ### products -/
theorem and128 {a : Nat} (ha : a < 256) : (Go.bits .and .u8 (a : Int) 128 = 0) ↔ a.testBit 7 = false := by
  have h := u8_and_nat a 128 ha (by decide)
  rw [show ((128 : Nat) : Int) = 128 from rfl] at h
  rw [h]
  have hs : ∀ a < 256, (((a &&& 128 : Nat) : Int) = 0) ↔ a.testBit 7 = false := by decide +kernel
  exact hs a ha
theorem xt_low {a : Nat} (ha : a < 256) (h : a.testBit 7 = false) : (((a : Int) * 2) % 256) = ((xt a : Nat) : Int) := by
  have hs : ∀ a < 256, a.testBit 7 = false → (a * 2) % 256 = xt a := by decide +kernel
  have := hs a ha h; omega
theorem xt_high {a : Nat} (ha : a < 256) (h : a.testBit 7 = true) : Go.bits .xor .u8 (((a : Int) * 2) % 256) 29 = ((xt a : Nat) : Int) := by
  have hs : ∀ a < 256, a.testBit 7 = true → ((a * 2) % 256) ^^^ 29 = xt a := by decide +kernel
  have h2 := u8_xor_nat ((a * 2) % 256) 29 (by omega) (by decide)
  rw [show (((a * 2 % 256 : Nat)) : Int) = ((a : Int) * 2) % 256 from by omega, show ((29 : Nat) : Int) = 29 from rfl] at h2
  rw [h2, hs a ha h]
theorem times_l0 (n : Nat) : ∀ (a b o k : Nat), a < 256 → o < 256 → b < 2 ^ n → n ≤ 8 → n < k →
    field_times.l0 k (a : Int) (b : Int) (o : Int) = some ((o ^^^ mulN n a b : Nat) : Int) := by
  induction n with
  | zero =>
    intro a b o k _ _ hb _ hk
    obtain ⟨k, rfl⟩ : ∃ m, k = m + 1 := ⟨k - 1, by omega⟩
    simp only [field_times.l0]; rw [if_pos (by omega)]; simp [mulN]
  | succ n ih =>
    intro a b o k ha ho hb hn hk
    obtain ⟨k, rfl⟩ : ∃ m, k = m + 1 := ⟨k - 1, by omega⟩
    have hb8 : b < 256 := Nat.lt_of_lt_of_le hb (Nat.pow_le_pow_right (by decide : 0 < 2) hn)
    by_cases h0 : b = 0
    · subst h0
      simp only [field_times.l0]; rw [if_pos (by omega), mulN_zero_right]; simp
    · have hx := xt_lt ha
      have hb2 : b / 2 < 2 ^ n := by rw [Nat.pow_succ] at hb; omega
      have e2 : ((b : Int) / 2) = ((b / 2 : Nat) : Int) := by omega
      simp only [field_times.l0]
      rw [if_neg (by omega), and1_u8 b hb8]
      simp only [mulN]
      by_cases ho1 : b.testBit 0 = true
      · rw [if_pos ((odd_iff b).2 ho1), if_pos ho1, u8_xor_nat o a ho ha, ← Nat.xor_assoc]
        by_cases h7 : a.testBit 7 = true
        · rw [if_neg (by rw [and128 ha]; simp [h7]), xt_high ha h7, e2]
          exact ih _ _ _ _ hx (xor_lt ho ha) hb2 (by omega) (by omega)
        · have h7' : a.testBit 7 = false := by simpa using h7
          rw [if_pos ((and128 ha).2 h7'), xt_low ha h7', e2]
          exact ih _ _ _ _ hx (xor_lt ho ha) hb2 (by omega) (by omega)
      · rw [if_neg (by rw [odd_iff]; exact ho1), if_neg ho1, Nat.zero_xor]
        by_cases h7 : a.testBit 7 = true
        · rw [if_neg (by rw [and128 ha]; simp [h7]), xt_high ha h7, e2]
          exact ih _ _ _ _ hx ho hb2 (by omega) (by omega)
        · have h7' : a.testBit 7 = false := by simpa using h7
          rw [if_pos ((and128 ha).2 h7'), xt_low ha h7', e2]
          exact ih _ _ _ _ hx ho hb2 (by omega) (by omega)
theorem times_at {a b : Nat} (ha : a < 256) (hb : b < 256) (k : Nat) (hk : 9 ≤ k) : field_times.f k (a : Int) (b : Int) = some ((mul a b : Nat) : Int) := by
  unfold field_times.f
  have := times_l0 8 a b 0 k ha (by decide) hb (by omega) (by omega)
  rw [Nat.zero_xor] at this
  exact this
theorem times_ev {a b : Nat} (ha : a < 256) (hb : b < 256) : Ev (fun k => field_times.f k (a : Int) (b : Int)) ((mul a b : Nat) : Int) := ⟨9, fun k hk => times_at ha hb k hk⟩

def prodB (l : List Nat) : Nat := l.foldl mul 1
theorem mul_l0 (l : List Nat) (hl : ∀ x ∈ l, x < 256) (hn : l.length < 2 ^ 62) (t : List Nat) : ∀ (i k o : Nat), o < 256 → l.drop i = t → t.length + 9 < k →
    field_Mul.l0 k (o : Int) (l.map fun x : Nat => (x : Int)) (l.length : Int) (i : Int) = some ((t.foldl mul o : Nat) : Int) := by
  induction t with
  | nil =>
    intro i k o ho hd hk
    obtain ⟨k, rfl⟩ : ∃ m, k = m + 1 := ⟨k - 1, by simp at hk; omega⟩
    have : l.length ≤ i := by have := congrArg List.length hd; simp at this; omega
    simp only [field_Mul.l0]; rw [if_neg (by omega)]; rfl
  | cons x t ih =>
    intro i k o ho hd hk
    obtain ⟨k, rfl⟩ : ∃ m, k = m + 1 := ⟨k - 1, by simp at hk; omega⟩
    have hd' : (l.map fun x : Nat => (x : Int)).drop i = (x : Int) :: t.map fun x : Nat => (x : Int) := by rw [← List.map_drop, hd]; rfl
    obtain ⟨h1, h2, h3⟩ := rd_drop hd'
    simp only [List.length_map] at h2
    have hx : x < 256 := hl x (List.mem_of_mem_drop (hd ▸ List.mem_cons_self : x ∈ l.drop i))
    simp only [field_Mul.l0]
    rw [if_pos (by omega), if_pos (by omega), if_pos (by rw [List.length_map]; omega), h1, times_at ho hx k (by simp at hk; omega), w64 (by omega) (by omega)]
    simp only [Option.bind_some]
    have := ih (i + 1) k (mul o x) (mul_lt x ho) (by rw [← List.tail_drop, hd]; rfl) (by simp at hk; omega)
    rw [show ((i : Int) + 1) = ((i + 1 : Nat) : Int) from by omega]
    exact this
theorem mul_ev (l : List Nat) (hl : ∀ x ∈ l, x < 256) (hn : l.length < 2 ^ 62) : Ev (fun k => field_Mul.f k (l.map fun x : Nat => (x : Int))) ((prodB l : Nat) : Int) := by
  refine ⟨l.length + 11, fun k hk => ?_⟩
  unfold field_Mul.f
  rw [List.length_map]
  exact mul_l0 l hl hn l 0 k 1 (by decide) rfl (by omega)
theorem mul2_ev {a b : Nat} (ha : a < 256) (hb : b < 256) : Ev (fun k => field_Mul.f k [(a : Int), (b : Int)]) ((mul a b : Nat) : Int) := by
  have := mul_ev [a, b] (by simp [ha, hb]) (by simp)
  simpa [prodB, one_mul ha] using this

/-! ### sums of rows -/
theorem rd_tl {l : List F} {i : Nat} {x : F} (h : l[i]? = some x) : rd (tl l) (i : Int) = ti x := by
  unfold rd tl
  rw [Int.toNat_natCast, List.getD_eq_getElem?_getD, List.getElem?_map, h]; rfl
theorem rd_mid (pre r : List F) (x : F) : rd (tl (pre ++ x :: r)) (pre.length : Int) = ti x := by
  refine rd_tl ?_
  rw [List.getElem?_append_right (Nat.le_refl _), Nat.sub_self]; rfl
theorem set_mid (pre r : List F) (x y : F) : (tl (pre ++ x :: r)).set pre.length (ti y) = tl (pre ++ y :: r) := by
  unfold tl
  rw [← List.map_set, List.set_append_right _ _ (Nat.le_refl _), Nat.sub_self]; rfl
theorem rd_row {L : List (List F)} {r : List F} {t : List (List F)} {i : Nat} (h : L.drop i = r :: t) : rd_L1 (tll L) (i : Int) = tl r ∧ i < L.length ∧ L.drop (i + 1) = t := by
  have hi : i < L.length := by
    rcases Nat.lt_or_ge i L.length with h' | h'
    · exact h'
    · rw [List.drop_eq_nil_of_le h'] at h; cases h
  have hc := List.drop_eq_getElem_cons hi
  rw [hc] at h
  injection h with h1 h2
  refine ⟨?_, hi, h2⟩
  unfold rd_L1 tll
  rw [Int.toNat_natCast, List.getD_eq_getElem?_getD, List.getElem?_map, List.getElem?_eq_getElem hi, h1]; rfl
theorem addF_ev (a b : F) : Ev (fun k => field_Add.f k [ti a, ti b]) (ti (a ^^^ b)) := by
  have h := add2_ev (toNat_lt a) (toNat_lt b)
  unfold ti; rw [fx_toNat]; exact h
theorem mn_len (a b : Nat) : mn (a : Int) (b : Int) = ((min a b : Nat) : Int) := by unfold mn; split <;> omega
theorem sum_l1 (x13 : List (List Int)) (x14 : Int) (i : Nat) (hi : i < 2 ^ 60) (R : List Int) (a : List F) : ∀ (pre rpre r : List F), rpre.length = pre.length → pre.length + a.length < 2 ^ 60 → pre.length + r.length < 2 ^ 60 →
    Ev (fun k => rows_Sum.l0 k (tl (pre ++ addTo a r)) x13 x14 ((i + 1 : Nat) : Int)) R →
    Ev (fun k => rows_Sum.l1 k (tl (pre ++ a)) (tl (rpre ++ r)) x13 x14 (i : Int) ((min (pre.length + a.length) (pre.length + r.length) : Nat) : Int) (pre.length : Int)) R := by
  induction a with
  | nil =>
    intro pre rpre r hr h1 h2 hR
    refine Ev.step (fun k => by simp only [rows_Sum.l1]; rfl) ?_
    refine ev_neg (by simp only [List.length_nil]; omega) ?_
    rw [w64 (i := (i : Int) + 1) (by omega) (by omega), show (i : Int) + 1 = ((i + 1 : Nat) : Int) from by omega]
    cases r <;> exact hR
  | cons x a ih =>
    intro pre rpre r hr h1 h2 hR
    cases r with
    | nil =>
      refine Ev.step (fun k => by simp only [rows_Sum.l1]; rfl) ?_
      refine ev_neg (by simp only [List.length_nil]; omega) ?_
      rw [w64 (i := (i : Int) + 1) (by omega) (by omega), show (i : Int) + 1 = ((i + 1 : Nat) : Int) from by omega]
      exact hR
    | cons y r =>
      simp only [List.length_cons] at h1 h2 ⊢
      refine Ev.step (fun k => by simp only [rows_Sum.l1]; rfl) ?_
      refine ev_pos (by omega) (ev_pos (by omega) (ev_pos (by rw [tl_length, List.length_append, List.length_cons]; omega) (ev_pos (by rw [tl_length, List.length_append, List.length_cons]; omega) ?_)))
      have e2 : rd (tl (rpre ++ y :: r)) (pre.length : Int) = ti y := by rw [← hr]; exact rd_mid rpre r y
      rw [rd_mid, e2]
      refine Ev.bind (addF_ev x y) ?_
      rw [Int.toNat_natCast, set_mid, w64 (i := (pre.length : Int) + 1) (by omega) (by omega)]
      have := ih (pre ++ [x ^^^ y]) (rpre ++ [y]) r (by simp [hr]) (by simp only [List.length_append, List.length_singleton]; omega) (by simp only [List.length_append, List.length_singleton]; omega) (by rw [List.append_assoc]; exact hR)
      simp only [List.length_append, List.length_singleton, List.append_assoc, List.singleton_append] at this
      rw [show min (pre.length + (a.length + 1)) (pre.length + (r.length + 1)) = min (pre.length + 1 + a.length) (pre.length + 1 + r.length) from by omega, show (pre.length : Int) + 1 = ((pre.length + 1 : Nat) : Int) from by omega]
      exact this
theorem sum_l0 (L : List (List F)) (hL : L.length < 2 ^ 50) (hs : ∀ r ∈ L, r.length < 2 ^ 50) (t : List (List F)) : ∀ (i : Nat) (acc : List F), L.drop i = t → acc.length < 2 ^ 50 →
    Ev (fun k => rows_Sum.l0 k (tl acc) (tll L) (L.length : Int) (i : Int)) (tl (t.foldl addTo acc)) := by
  induction t with
  | nil =>
    intro i acc hd ha
    refine Ev.step (fun k => by simp only [rows_Sum.l0]; rfl) ?_
    have : L.length ≤ i := by have := congrArg List.length hd; simp at this; omega
    exact ev_neg (by omega) (Ev.now _)
  | cons r t ih =>
    intro i acc hd ha
    obtain ⟨h1, h2, h3⟩ := rd_row hd
    have hr := hs r (List.mem_of_mem_drop (hd ▸ List.mem_cons_self : r ∈ L.drop i))
    refine Ev.step (fun k => by simp only [rows_Sum.l0]; rfl) ?_
    refine ev_pos (by omega) (ev_pos (by omega) (ev_pos (by rw [tll_length]; omega) ?_))
    rw [h1, tl_length, tl_length, mn_len]
    have := sum_l1 (tll L) (L.length : Int) i (by omega) _ acc [] [] r rfl (by simp only [List.length_nil]; omega) (by simp only [List.length_nil]; omega) (ih (i + 1) (addTo acc r) h3 (by rw [addTo_length]; exact ha))
    simp only [List.length_nil, Nat.zero_add, List.nil_append] at this
    exact this
/-- How long a sum is. -/
def cutN (n : Int) : Nat := (max 0 (min n 1000)).toNat
theorem cutN_le (n : Int) : cutN n ≤ 1000 := by unfold cutN; omega
theorem cutN_mx (n : Int) : mx 0 (mn n 1000) = (cutN n : Int) := by
  unfold mx mn cutN; split <;> split <;> omega
theorem sum_ev (n : Int) (L : List (List F)) (hL : L.length < 2 ^ 50) (hs : ∀ r ∈ L, r.length < 2 ^ 50) : Ev (fun k => rows_Sum.f k n (tll L)) (tl (sumR (cutN n) L)) := by
  unfold rows_Sum.f
  have hc := cutN_le n
  rw [cutN_mx]
  refine ev_pos (by omega) (ev_pos (by rw [Int.toNat_natCast]; omega) ?_)
  rw [Int.toNat_natCast, ← tl_replicate, tll_length]
  exact sum_l0 L hL hs L 0 _ rfl (by rw [List.length_replicate]; omega)

/-! ### products, over bytes -/
theorem mulF_ev (a b : F) : Ev (fun k => field_Mul.f k [ti a, ti b]) (ti (fm a b)) := by
  have h := mul2_ev (toNat_lt a) (toNat_lt b)
  unfold ti; rw [fm_toNat]; exact h
theorem scale_l0 (c : F) (l : List F) (hl : l.length < 2 ^ 50) (t : List F) : ∀ (pre : List F), l = pre ++ t →
    Ev (fun k => rows_Scale.l0 k (ti c) (tl (scaleR c pre ++ List.replicate t.length 0)) (tl l) (l.length : Int) (pre.length : Int)) (tl (scaleR c l)) := by
  induction t with
  | nil =>
    intro pre hp
    refine Ev.step (fun k => by simp only [rows_Scale.l0]; rfl) ?_
    subst hp
    rw [List.append_nil]
    refine ev_neg (by omega) ?_
    rw [List.length_nil, List.replicate_zero, List.append_nil]
    exact Ev.now _
  | cons x t ih =>
    intro pre hp
    have hlen : l.length = pre.length + (t.length + 1) := by rw [hp]; simp
    have e1 : rd (tl l) (pre.length : Int) = ti x := by rw [hp]; exact rd_mid pre t x
    have e2 : (tl (scaleR c pre ++ List.replicate (t.length + 1) 0)).length = l.length := by rw [tl_length, List.length_append, scaleR_length, List.length_replicate, hlen]
    refine Ev.step (fun k => by simp only [rows_Scale.l0]; rfl) ?_
    rw [List.length_cons]
    refine ev_pos (by omega) (ev_pos (by omega) (ev_pos (by rw [tl_length]; omega) ?_))
    rw [e1]
    refine Ev.bind (mulF_ev c x) (ev_pos (by rw [e2]; omega) ?_)
    have e3 := set_mid (scaleR c pre) (List.replicate t.length 0) 0 (fm c x)
    rw [scaleR_length] at e3
    rw [List.replicate_succ, Int.toNat_natCast, e3, w64 (i := (pre.length : Int) + 1) (by omega) (by omega), show (pre.length : Int) + 1 = ((pre.length + 1 : Nat) : Int) from by omega]
    have := ih (pre ++ [x]) (by rw [hp, List.append_assoc]; rfl)
    rw [List.length_append, List.length_singleton] at this
    have e4 : scaleR c (pre ++ [x]) = scaleR c pre ++ [fm c x] := by unfold scaleR; rw [List.map_append]; rfl
    rw [e4, List.append_assoc, List.singleton_append] at this
    exact this
theorem scale_ev (c : F) (l : List F) (hl : l.length < 2 ^ 40) : Ev (fun k => rows_Scale.f k (ti c) (tl l)) (tl (scaleR c l)) := by
  unfold rows_Scale.f
  refine ev_pos (by omega) (ev_pos (by rw [tl_length, Int.toNat_natCast]; omega) ?_)
  rw [tl_length, Int.toNat_natCast, ← tl_replicate]
  exact scale_l0 c l (by omega) l [] rfl
theorem fit_ev (n : Nat) (hn : n ≤ 1000) (r : List F) (hr : r.length < 2 ^ 50) : Ev (fun k => rows_Fit.f k (n : Int) (tl r)) (tl (fitR n r)) := by
  unfold rows_Fit.f
  have h := sum_ev (n : Int) [r] (by simp) (by simp [hr])
  have hc : cutN (n : Int) = n := by unfold cutN; omega
  rw [hc, sumR_one] at h
  exact Ev.bind h (Ev.now _)

/-! ### rows that came in -/
theorem few_l0 (L : List (List F)) (hL : L.length < 2 ^ 50) (hs : ∀ r ∈ L, r.length < 2 ^ 50) (t : List (List F)) : ∀ (i n : Nat), L.drop i = t → n < 2 ^ 55 →
    ∃ b, Ev (fun k => fountainlaw2_Few.l0 k (tll L) (n : Int) (i : Int)) b ∧ (b = true → n + t.length ≤ 4000 ∧ ∀ r ∈ t, n + r.length ≤ 4000) := by
  induction t with
  | nil =>
    intro i n hd hn
    have : L.length ≤ i := by have := congrArg List.length hd; simp at this; omega
    refine ⟨decide ((n : Int) ≤ 4000), Ev.step (fun k => by simp only [fountainlaw2_Few.l0]; rfl) (ev_neg (by rw [tll_length]; omega) (Ev.now _)), fun h => ?_⟩
    have := of_decide_eq_true h
    exact ⟨by simp; omega, fun r hr => by simp at hr⟩
  | cons r t ih =>
    intro i n hd hn
    obtain ⟨h1, h2, h3⟩ := rd_row hd
    have hr := hs r (List.mem_of_mem_drop (hd ▸ List.mem_cons_self : r ∈ L.drop i))
    by_cases c : n ≤ 4000
    · obtain ⟨b, hb, himp⟩ := ih (i + 1) (n + 1 + r.length) h3 (by omega)
      refine ⟨b, ?_, fun h => ?_⟩
      · refine Ev.step (fun k => by simp only [fountainlaw2_Few.l0]; rfl) ?_
        refine ev_pos (by rw [tll_length]; omega) (ev_pos (by omega) (ev_pos (by omega) ?_))
        rw [h1, tl_length, w64 (i := (n : Int) + 1) (by omega) (by omega), w64 (i := (n : Int) + 1 + (r.length : Int)) (by omega) (by omega), w64 (i := (i : Int) + 1) (by omega) (by omega),
          show (n : Int) + 1 + (r.length : Int) = ((n + 1 + r.length : Nat) : Int) from by omega, show (i : Int) + 1 = ((i + 1 : Nat) : Int) from by omega]
        exact hb
      · obtain ⟨g1, g2⟩ := himp h
        refine ⟨by simp only [List.length_cons]; omega, fun q hq => ?_⟩
        rcases List.mem_cons.1 hq with rfl | hq
        · omega
        · have := g2 q hq; omega
    · refine ⟨false, ?_, fun h => by cases h⟩
      refine Ev.step (fun k => by simp only [fountainlaw2_Few.l0]; rfl) ?_
      refine ev_pos (by rw [tll_length]; omega) (ev_neg (by omega) ?_)
      rw [decide_eq_false (show ¬ ((n : Int) ≤ 4000) by omega)]
      exact Ev.now _
theorem few_ev (L : List (List F)) (hL : L.length < 2 ^ 50) (hs : ∀ r ∈ L, r.length < 2 ^ 50) : ∃ b, Ev (fun k => fountainlaw2_Few.f k (tll L)) b ∧ (b = true → L.length ≤ 4000 ∧ ∀ r ∈ L, r.length ≤ 4000) := by
  obtain ⟨b, h1, h2⟩ := few_l0 L hL hs L 0 0 rfl (by decide)
  exact ⟨b, h1, fun h => by have := h2 h; simpa using this⟩
theorem tll_one (L : List (List F)) (r : List F) : tll L ++ [([] : List Int) ++ tl r] = tll (L ++ [r]) := by unfold tll; rw [List.map_append, List.nil_append]; rfl
theorem to_l0 (L : List (List F)) (hL : L.length < 2 ^ 40) (hs : ∀ r ∈ L, r.length < 2 ^ 40) (t : List (List F)) : ∀ (pre : List (List F)), L = pre ++ t →
    Ev (fun k => fountainlaw2_To.l0 k (tll L) (tll pre) (pre.length : Int)) (tll L) := by
  induction t with
  | nil =>
    intro pre hp
    refine Ev.step (fun k => by simp only [fountainlaw2_To.l0]; rfl) ?_
    subst hp
    rw [List.append_nil]
    exact ev_neg (by rw [tll_length]; omega) (Ev.now _)
  | cons r t ih =>
    intro pre hp
    have hlen : L.length = pre.length + (t.length + 1) := by rw [hp]; simp
    have hd : L.drop pre.length = r :: t := by rw [hp, List.drop_left]
    obtain ⟨e, _, _⟩ := rd_row hd
    have hr := hs r (by rw [hp]; simp)
    refine Ev.step (fun k => by simp only [fountainlaw2_To.l0]; rfl) ?_
    refine ev_pos (by rw [tll_length]; omega) (ev_pos (by omega) ?_)
    rw [e]
    refine ev_pos (by rw [tl_length, List.length_nil]; omega) (ev_pos (by rw [tll_length]; omega) ?_)
    rw [tll_one, w64 (i := (pre.length : Int) + 1) (by omega) (by omega), show (pre.length : Int) + 1 = ((pre.length + 1 : Nat) : Int) from by omega]
    have := ih (pre ++ [r]) (by rw [hp, List.append_assoc]; rfl)
    rw [List.length_append, List.length_singleton] at this
    exact this
theorem to_ev (L : List (List F)) (hL : L.length < 2 ^ 40) (hs : ∀ r ∈ L, r.length < 2 ^ 40) : Ev (fun k => fountainlaw2_To.f k (tll L)) (tll L) := by
  unfold fountainlaw2_To.f
  exact to_l0 L hL hs L [] rfl

/-! ### rows held against rows -/
theorem from_l0 (L : List (List Int)) (hL : L.length < 2 ^ 42) (t : List (List Int)) : ∀ (i : Nat) (acc : List (List Int)), L.drop i = t → acc.length = i →
    Ev (fun k => fountainlaw2_From.l0 k L acc (i : Int)) (acc ++ t) := by
  induction t with
  | nil =>
    intro i acc hd ha
    refine Ev.step (fun k => by simp only [fountainlaw2_From.l0]; rfl) ?_
    have : L.length ≤ i := by have := congrArg List.length hd; simp at this; omega
    rw [List.append_nil]
    exact ev_neg (by omega) (Ev.now _)
  | cons x t ih =>
    intro i acc hd ha
    have hi : i < L.length := by
      rcases Nat.lt_or_ge i L.length with h' | h'
      · exact h'
      · rw [List.drop_eq_nil_of_le h'] at hd; cases hd
    have hc := List.drop_eq_getElem_cons hi
    rw [hd] at hc
    injection hc with h1 h2
    refine Ev.step (fun k => by simp only [fountainlaw2_From.l0]; rfl) ?_
    refine ev_pos (by omega) (ev_pos (by omega) (ev_pos (by omega) ?_))
    have e : rd_L1 L (i : Int) = x := by unfold rd_L1; rw [Int.toNat_natCast, List.getD_eq_getElem?_getD, List.getElem?_eq_getElem hi, h1]; rfl
    rw [e, w64 (i := (i : Int) + 1) (by omega) (by omega), show (i : Int) + 1 = ((i + 1 : Nat) : Int) from by omega]
    have := ih (i + 1) (acc ++ [x]) (by rw [← List.tail_drop, hd]; rfl) (by rw [List.length_append, List.length_singleton, ha])
    rw [List.append_assoc] at this
    exact this
theorem from_ev (L : List (List Int)) (hL : L.length < 2 ^ 42) : Ev (fun k => fountainlaw2_From.f k L) L := by
  unfold fountainlaw2_From.f
  exact from_l0 L hL L 0 [] rfl rfl
theorem same_l0 (L : List (List Int)) (hL : L.length < 2 ^ 42) (d : Nat) : ∀ i, i + d = L.length → Ev (fun k => fountainref1_SameRows.l0 k L L (i : Int)) true := by
  induction d with
  | zero =>
    intro i hi
    refine Ev.step (fun k => by simp only [fountainref1_SameRows.l0]; rfl) ?_
    exact ev_neg (by omega) (Ev.now _)
  | succ d ih =>
    intro i hi
    refine Ev.step (fun k => by simp only [fountainref1_SameRows.l0]; rfl) ?_
    refine ev_pos (by omega) (ev_pos (by omega) (ev_pos (by omega) (ev_pos (by trivial) ?_)))
    rw [w64 (i := (i : Int) + 1) (by omega) (by omega), show (i : Int) + 1 = ((i + 1 : Nat) : Int) from by omega]
    exact ih (i + 1) (by omega)
theorem same_ev (L : List (List Int)) (hL : L.length < 2 ^ 42) : Ev (fun k => fountainref1_SameRows.f k L L) true := by
  unfold fountainref1_SameRows.f
  exact ev_pos rfl (same_l0 L hL L.length 0 (by omega))

/-! ### powers -/
theorem power_l0 (n : Nat) : ∀ (a o k : Nat), a < 256 → o < 256 → n < 2 ^ 30 → n + 10 < k →
    field_power.l0 k (a : Int) (n : Int) (o : Int) = some ((mul o (pw a n) : Nat) : Int) := by
  induction n using Nat.strongRecOn with
  | ind n ih =>
    intro a o k ha ho hn hk
    obtain ⟨k, rfl⟩ : ∃ m, k = m + 1 := ⟨k - 1, by omega⟩
    simp only [field_power.l0]
    by_cases h0 : n = 0
    · subst h0
      rw [if_neg (by omega)]; simp only [pw]; rw [mul_one ho]
    · have e2 : ((n : Int) / 2) = ((n / 2 : Nat) : Int) := by omega
      rw [if_pos (by omega), and1_i64 n (by omega)]
      by_cases h1 : n % 2 = 1
      · rw [if_pos (by omega), times_at ho ha k (by omega)]; simp only [Option.bind_some]
        rw [times_at ha ha k (by omega)]; simp only [Option.bind_some]
        rw [e2, ih (n / 2) (by omega) _ _ _ (mul_lt a ha) (mul_lt a ho) (by omega) (by omega), ← pw_odd ha ho n h1]
      · rw [if_neg (by omega), times_at ha ha k (by omega)]; simp only [Option.bind_some]
        rw [e2, ih (n / 2) (by omega) _ _ _ (mul_lt a ha) ho (by omega) (by omega), ← pw_even ha n (by omega)]
theorem power_ev {a n : Nat} (ha : a < 256) (hn : n < 2 ^ 30) : Ev (fun k => field_power.f k (a : Int) (n : Int)) ((pw a n : Nat) : Int) := by
  refine ⟨n + 11, fun k hk => ?_⟩
  unfold field_power.f
  have := power_l0 n a 1 k ha (by decide) hn (by omega)
  rw [one_mul (pw_lt a n)] at this
  exact this
theorem inv_ev {a : Nat} (ha : a < 256) : Ev (fun k => field_Inv.f k (a : Int)) ((iv a : Nat) : Int) := by
  unfold field_Inv.f
  exact Ev.bind (power_ev (n := 254) ha (by decide)) (Ev.now _)

/-! ### the document's product -/
theorem shr_nat (k : IntKind) (x i : Nat) (h : i ≤ k.bits) : shr k (x : Int) (i : Int) = ((x / 2 ^ i : Nat) : Int) := by
  unfold shr
  rw [Int.toNat_natCast, Nat.min_eq_left h]
  simp
theorem shl_i64 (x i : Nat) (hx : x < 2 ^ 10) (h : i ≤ 20) : shl .i64 (x : Int) (i : Int) = ((x * 2 ^ i : Nat) : Int) := by
  unfold shl
  rw [Int.toNat_natCast, Nat.min_eq_left (by simp [IntKind.bits]; omega), IntWalk.i64_left]
  have hp : 2 ^ i ≤ 2 ^ 20 := Nat.pow_le_pow_right (by decide) h
  have hb : x * 2 ^ i < 2 ^ 30 := Nat.lt_of_lt_of_le (Nat.mul_lt_mul_of_lt_of_le hx hp (by decide)) (by decide)
  rw [show ((x : Int) * 2 ^ i) = ((x * 2 ^ i : Nat) : Int) from by simp]
  exact w64 (by omega) (by omega)
theorem tb_div (x i : Nat) : (((x / 2 ^ i % 2 : Nat) : Int) = 1) ↔ x.testBit i = true := by
  rw [Nat.testBit_eq_decide_div_mod_eq, decide_eq_true_eq]
  generalize x / 2 ^ i % 2 = y
  omega
theorem pow15 (n : Nat) (h : n < 7) : 285 * 2 ^ n < 2 ^ 15 := by
  have : 2 ^ n ≤ 2 ^ 6 := Nat.pow_le_pow_right (by decide) (by omega)
  omega
theorem rtimes_l1 (n : Nat) : ∀ (x : Nat) (k : Nat), n ≤ 7 → x < 2 ^ 15 → n < k →
    fountainref1_Times.l1 k (x : Int) ((n : Int) + 7) = some ((redN n x % 256 : Nat) : Int) := by
  induction n with
  | zero =>
    intro x k _ hx hk
    obtain ⟨k, rfl⟩ : ∃ m, k = m + 1 := ⟨k - 1, by omega⟩
    simp only [fountainref1_Times.l1]; rw [if_neg (by omega)]; simp [redN]
  | succ n ih =>
    intro x k hn hx hk
    obtain ⟨k, rfl⟩ : ∃ m, k = m + 1 := ⟨k - 1, by omega⟩
    have h15 := pow15 n (by omega)
    simp only [fountainref1_Times.l1]
    have e8 : ((n + 1 : Nat) : Int) + 7 = ((n + 8 : Nat) : Int) := by omega
    rw [if_pos (by omega), e8, u64w (by omega) (by omega), if_pos (by omega), shr_nat _ _ _ (by simp [IntKind.bits]; omega), and1_i64 _ (Nat.lt_of_le_of_lt (Nat.div_le_self _ _) (by omega))]
    rw [w64 (i := ((n + 8 : Nat) : Int) - 8) (by omega) (by omega), w64 (i := ((n + 8 : Nat) : Int) - 1) (by omega) (by omega)]
    rw [show ((n + 8 : Nat) : Int) - 8 = (n : Int) from by omega, show ((n + 8 : Nat) : Int) - 1 = (n : Int) + 7 from by omega, u64w (i := (n : Int)) (by omega) (by omega), if_pos (show (0 : Int) ≤ n by omega)]
    simp only [redN]
    by_cases hb : x.testBit (n + 8) = true
    · rw [if_pos ((tb_div x (n + 8)).2 hb), if_pos hb]
      have := shl_i64 285 n (by decide) (by omega)
      rw [show ((285 : Nat) : Int) = 285 from rfl] at this
      rw [this, xor_i64 _ _ (by omega) (by omega)]
      exact ih _ _ (by omega) (Nat.xor_lt_two_pow hx h15) (by omega)
    · rw [if_neg (by rw [tb_div]; exact hb), if_neg hb, Nat.xor_zero]
      exact ih _ _ (by omega) hx (by omega)
theorem rtimes_l0 (n : Nat) : ∀ (a b x i k : Nat), a < 256 → b < 256 → x < 2 ^ 15 → n + i = 8 → n + 8 < k →
    fountainref1_Times.l0 k (a : Int) (b : Int) (x : Int) (i : Int) = some ((redN 7 (x ^^^ clN n i a b) % 256 : Nat) : Int) := by
  induction n with
  | zero =>
    intro a b x i k ha hb hx hi hk
    obtain ⟨k, rfl⟩ : ∃ m, k = m + 1 := ⟨k - 1, by omega⟩
    simp only [fountainref1_Times.l0]; rw [if_neg (by omega)]
    simp only [clN, Nat.xor_zero]
    exact rtimes_l1 7 x k (by omega) hx (by omega)
  | succ n ih =>
    intro a b x i k ha hb hx hi hk
    obtain ⟨k, rfl⟩ : ∃ m, k = m + 1 := ⟨k - 1, by omega⟩
    simp only [fountainref1_Times.l0]
    rw [if_pos (by omega), u64w (by omega) (by omega), if_pos (by omega), shr_nat _ _ _ (by simp [IntKind.bits]; omega), and1_u8 _ (Nat.lt_of_le_of_lt (Nat.div_le_self _ _) hb), w64 (i := (a : Int)) (by omega) (by omega), w64 (i := (i : Int) + 1) (by omega) (by omega)]
    rw [show (i : Int) + 1 = ((i + 1 : Nat) : Int) from by omega]
    simp only [clN]
    have hai : a * 2 ^ i < 2 ^ 15 := by
      have : 2 ^ i ≤ 2 ^ 7 := Nat.pow_le_pow_right (by decide) (by omega)
      exact Nat.lt_of_lt_of_le (Nat.mul_lt_mul_of_lt_of_le ha this (by decide)) (by decide)
    by_cases h1 : b.testBit i = true
    · rw [if_pos ((tb_div b i).2 h1), if_pos h1, shl_i64 a i (by omega) (by omega), xor_i64 _ _ (by omega) (by omega), ← Nat.xor_assoc]
      exact ih _ _ _ _ _ ha hb (Nat.xor_lt_two_pow hx hai) (by omega) (by omega)
    · rw [if_neg (by rw [tb_div]; exact h1), if_neg h1, Nat.zero_xor]
      exact ih _ _ _ _ _ ha hb hx (by omega) (by omega)
theorem rtimes_at {a b : Nat} (ha : a < 256) (hb : b < 256) (k : Nat) (hk : 17 ≤ k) : fountainref1_Times.f k (a : Int) (b : Int) = some ((mul a b : Nat) : Int) := by
  unfold fountainref1_Times.f
  have := rtimes_l0 8 a b 0 0 k ha hb (by decide) (by omega) (by omega)
  rw [Nat.zero_xor, ← ref, ref_eq ha hb] at this
  exact this
theorem rtimes_ev {a b : Nat} (ha : a < 256) (hb : b < 256) : Ev (fun k => fountainref1_Times.f k (a : Int) (b : Int)) ((mul a b : Nat) : Int) := ⟨17, fun k hk => rtimes_at ha hb k hk⟩
theorem rinv_l0 (d : Nat) : ∀ (a b k : Nat), a < 256 → 1 ≤ b → b + d = 256 → (∀ c, 1 ≤ c → c < b → mul a c ≠ 1) → d + 18 < k →
    fountainref1_Inv.l0 k (a : Int) (b : Int) = some ((iv a : Nat) : Int) := by
  induction d with
  | zero =>
    intro a b k ha h1 hb hno hk
    obtain ⟨k, rfl⟩ : ∃ m, k = m + 1 := ⟨k - 1, by omega⟩
    simp only [fountainref1_Inv.l0]; rw [if_neg (by omega)]
    have h0 : a = 0 := by
      apply Classical.byContradiction
      intro h0
      have hi := iv_lt a
      have hn := iv_ne ha h0
      exact hno (iv a) (by omega) (by omega) (mul_iv ha h0)
    subst h0
    rw [iv_zero]; rfl
  | succ d ih =>
    intro a b k ha h1 hb hno hk
    obtain ⟨k, rfl⟩ : ∃ m, k = m + 1 := ⟨k - 1, by omega⟩
    simp only [fountainref1_Inv.l0]
    rw [if_pos (by omega), show ((b : Int) % 256) = (b : Int) from by omega, rtimes_at ha (by omega) k (by omega)]
    simp only [Option.bind_some]
    by_cases h : mul a b = 1
    · rw [if_pos (by omega), iv_unique ha (by omega) h]
    · rw [if_neg (by omega), w64 (by omega) (by omega), show (b : Int) + 1 = ((b + 1 : Nat) : Int) from by omega]
      refine ih a (b + 1) k ha (by omega) (by omega) ?_ (by omega)
      intro c hc1 hc2
      by_cases hcb : c = b
      · subst hcb; exact h
      · exact hno c hc1 (by omega)
theorem rinv_ev {a : Nat} (ha : a < 256) : Ev (fun k => fountainref1_Inv.f k (a : Int)) ((iv a : Nat) : Int) := by
  refine ⟨300, fun k hk => ?_⟩
  unfold fountainref1_Inv.f
  exact rinv_l0 255 a 1 k ha (by omega) (by omega) (fun c h1 h2 => by omega) (by omega)

/-! ### the document's sums, products, mixtures -/
theorem rcut_eq (n : Int) : fountainref1_Cut.f n 0 1000 = some ((cutN n : Nat) : Int) := by
  unfold fountainref1_Cut.f cutN
  by_cases h1 : n < 0
  · rw [if_pos h1]; congr 1; omega
  · rw [if_neg h1]
    by_cases h2 : n > 1000
    · rw [if_pos h2]; congr 1; omega
    · rw [if_neg h2]; congr 1; omega
theorem rat_lt {r : List F} {i : Nat} {x : F} (h : r[i]? = some x) : fountainref1_at.f (tl r) (i : Int) = some (ti x) := by
  unfold fountainref1_at.f
  have := (List.getElem?_eq_some_iff.1 h).1
  rw [if_pos (by rw [tl_length]; omega), if_pos (by omega), rd_tl h]
theorem rat_ge {r : List F} {i : Nat} (h : r.length ≤ i) : fountainref1_at.f (tl r) (i : Int) = some 0 := by
  unfold fountainref1_at.f
  rw [if_neg (by rw [tl_length]; omega)]
theorem xorF (a b : F) : Go.bits .xor .u8 (ti a) (ti b) = ti (a ^^^ b) := by
  unfold ti; rw [u8_xor_nat _ _ (toNat_lt a) (toNat_lt b), fx_toNat]
theorem rsum_l1 (L : List (List F)) (row : List F) (i : Nat) (hi : i < L.length) (hi2 : i < 2 ^ 60) (hrow : rd_L1 (tll L) (i : Int) = tl row) (R : List Int) (a : List F) : ∀ (pre rpre r : List F), row = rpre ++ r → (rpre.length = pre.length ∨ (r = [] ∧ rpre.length ≤ pre.length)) → pre.length + a.length < 2 ^ 60 →
    Ev (fun k => fountainref1_Sum.l0 k (tll L) (tl (pre ++ addTo a r)) ((i + 1 : Nat) : Int)) R →
    Ev (fun k => fountainref1_Sum.l1 k (tll L) (tl (pre ++ a)) (i : Int) (pre.length : Int)) R := by
  induction a with
  | nil =>
    intro pre rpre r hr h1 h2 hR
    refine Ev.step (fun k => by simp only [fountainref1_Sum.l1]; rfl) ?_
    refine ev_neg (by rw [tl_length, List.append_nil]; omega) ?_
    rw [w64 (i := (i : Int) + 1) (by omega) (by omega), show (i : Int) + 1 = ((i + 1 : Nat) : Int) from by omega]
    cases r <;> exact hR
  | cons x a ih =>
    intro pre rpre r hr h1 h2 hR
    simp only [List.length_cons] at h2
    refine Ev.step (fun k => by simp only [fountainref1_Sum.l1]; rfl) ?_
    refine ev_pos (by rw [tl_length, List.length_append, List.length_cons]; omega) (ev_pos (by omega) (ev_pos (by omega) (ev_pos (by rw [tll_length]; omega) ?_)))
    rw [hrow, rd_mid, Int.toNat_natCast, w64 (i := (pre.length : Int) + 1) (by omega) (by omega), show (pre.length : Int) + 1 = ((pre.length + 1 : Nat) : Int) from by omega]
    cases r with
    | nil =>
      have hge : row.length ≤ pre.length := by rw [hr, List.append_nil]; omega
      refine ev_val (rat_ge hge) ?_
      have e := xorF x 0
      have e0 : ti 0 = 0 := rfl
      rw [e0, fx_zero] at e
      rw [e, set_mid]
      have := ih (pre ++ [x]) rpre [] hr (.inr ⟨rfl, by rw [List.length_append]; omega⟩) (by rw [List.length_append, List.length_singleton]; omega) (by cases a <;> (rw [List.append_assoc]; exact hR))
      rw [List.length_append, List.length_singleton, List.append_assoc] at this
      exact this
    | cons y r =>
      have hl : rpre.length = pre.length := by rcases h1 with h | ⟨h, _⟩; exact h; cases h
      have hy : row[pre.length]? = some y := by rw [hr, ← hl, List.getElem?_append_right (Nat.le_refl _), Nat.sub_self]; rfl
      refine ev_val (rat_lt hy) ?_
      rw [xorF, set_mid]
      have := ih (pre ++ [x ^^^ y]) (rpre ++ [y]) r (by rw [hr, List.append_assoc]; rfl) (.inl (by simp [hl])) (by rw [List.length_append, List.length_singleton]; omega) (by rw [List.append_assoc]; exact hR)
      rw [List.length_append, List.length_singleton, List.append_assoc] at this
      exact this
theorem rsum_l0 (L : List (List F)) (hL : L.length < 2 ^ 50) (t : List (List F)) : ∀ (i : Nat) (acc : List F), L.drop i = t → acc.length < 2 ^ 50 →
    Ev (fun k => fountainref1_Sum.l0 k (tll L) (tl acc) (i : Int)) (tl (t.foldl addTo acc)) := by
  induction t with
  | nil =>
    intro i acc hd ha
    refine Ev.step (fun k => by simp only [fountainref1_Sum.l0]; rfl) ?_
    have : L.length ≤ i := by have := congrArg List.length hd; simp at this; omega
    exact ev_neg (by rw [tll_length]; omega) (Ev.now _)
  | cons r t ih =>
    intro i acc hd ha
    obtain ⟨h1, h2, h3⟩ := rd_row hd
    refine Ev.step (fun k => by simp only [fountainref1_Sum.l0]; rfl) ?_
    refine ev_pos (by rw [tll_length]; omega) ?_
    have := rsum_l1 L r i h2 (by omega) h1 _ acc [] [] r rfl (.inl rfl) (by simp only [List.length_nil]; omega) (ih (i + 1) (addTo acc r) h3 (by rw [addTo_length]; exact ha))
    exact this
theorem rsum_ev (n : Int) (L : List (List F)) (hL : L.length < 2 ^ 50) : Ev (fun k => fountainref1_Sum.f k n (tll L)) (tl (sumR (cutN n) L)) := by
  unfold fountainref1_Sum.f
  have hc := cutN_le n
  refine ev_val (rcut_eq n) (ev_pos (by omega) (ev_pos (by rw [Int.toNat_natCast]; omega) ?_))
  rw [Int.toNat_natCast, ← tl_replicate]
  exact rsum_l0 L hL L 0 _ rfl (by rw [List.length_replicate]; omega)
theorem rtimesF_ev (a b : F) : Ev (fun k => fountainref1_Times.f k (ti a) (ti b)) (ti (fm a b)) := by
  have h := rtimes_ev (toNat_lt a) (toNat_lt b)
  unfold ti; rw [fm_toNat]; exact h
theorem rscale_l0 (c : F) (l : List F) (hl : l.length < 2 ^ 40) (t : List F) : ∀ (pre : List F), l = pre ++ t →
    Ev (fun k => fountainref1_Scale.l0 k (ti c) (tl l) (tl (scaleR c pre)) (pre.length : Int)) (tl (scaleR c l)) := by
  induction t with
  | nil =>
    intro pre hp
    refine Ev.step (fun k => by simp only [fountainref1_Scale.l0]; rfl) ?_
    subst hp
    rw [List.append_nil]
    exact ev_neg (by rw [tl_length]; omega) (Ev.now _)
  | cons x t ih =>
    intro pre hp
    have hlen : l.length = pre.length + (t.length + 1) := by rw [hp]; simp
    have e1 : rd (tl l) (pre.length : Int) = ti x := by rw [hp]; exact rd_mid pre t x
    refine Ev.step (fun k => by simp only [fountainref1_Scale.l0]; rfl) ?_
    refine ev_pos (by rw [tl_length]; omega) (ev_pos (by omega) ?_)
    rw [e1]
    refine Ev.bind (rtimesF_ev c x) (ev_pos (by rw [tl_length, scaleR_length]; omega) ?_)
    rw [w64 (i := (pre.length : Int) + 1) (by omega) (by omega), show (pre.length : Int) + 1 = ((pre.length + 1 : Nat) : Int) from by omega]
    have := ih (pre ++ [x]) (by rw [hp, List.append_assoc]; rfl)
    rw [List.length_append, List.length_singleton] at this
    have e4 : tl (scaleR c pre) ++ [ti (fm c x)] = tl (scaleR c (pre ++ [x])) := by unfold scaleR tl; simp
    rw [e4]
    exact this
theorem rscale_ev (c : F) (l : List F) (hl : l.length < 2 ^ 40) : Ev (fun k => fountainref1_Scale.f k (ti c) (tl l)) (tl (scaleR c l)) := by
  unfold fountainref1_Scale.f
  exact rscale_l0 c l hl l [] rfl

end Go.Proofs.Ytbfhinfblepidaa.FSolveTells
