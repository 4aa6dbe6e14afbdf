/- What the printed functions of package field, and of the document's first chapter, come to, in the numbers of Gf: for bytes, whatever the other arguments. -/
import Derived.Test.YtbfhinfblepidaaRw
import Derived.Test.YtbfhinfblepidaaPSolveTellsx
import Derived.Test.YtbfhinfblepidaaPc
import Derived.Test.YtbfhinfblepidaaPa
import Derived.Test.YtbfhinfblepidaaPSeedTellsx
namespace Go.Proofs.Ytbfhinfblepidaa.FSolveTells
open Go.RowKit Go.Proofs.Ytbfhinfblepidaa.PSolveTells Go.Proofs.YtbfhinfblepidaaW.PrintWords Go.Proofs.YtbfhinfblepidaaW.PrintLast Go.Proofs.YtbfhinfblepidaaW.PrintMore Go.Proofs.Ytbfhinfblepidaa.Gf Go.Proofs.Ytbfhinfblepidaa.Rw
theorem w64 {i : Int} (h0 : -9223372036854775808 ≤ i) (h1 : i < 9223372036854775808) : wrap64 i = i := by unfold wrap64; omega
theorem u64w {i : Int} (h0 : 0 ≤ i) (h1 : i < 9223372036854775808) : IntKind.u64.wrap i = i := by
  simp [IntKind.wrap, IntKind.bits, IntKind.signed]; omega
theorem rd_drop {l : List Int} {x : Int} {t : List Int} {i : Nat} (h : l.drop i = x :: t) : rd l (i : Int) = x ∧ i < l.length ∧ l.drop (i + 1) = t := by
  have hi : i < l.length := by
    rcases Nat.lt_or_ge i l.length with h' | h'
    · exact h'
    · rw [List.drop_eq_nil_of_le h'] at h; cases h
  have := List.drop_eq_getElem_cons hi
  rw [this] at h
  injection h with h1 h2
  refine ⟨?_, hi, h2⟩
  unfold rd
  simp [List.getD, hi, h1]
theorem xor_i64 (a b : Nat) (ha : a < 2 ^ 40) (hb : b < 2 ^ 40) : Go.bits .xor .i64 (a : Int) (b : Int) = ((a ^^^ b : Nat) : Int) := by
  have hx : a ^^^ b < 2 ^ 40 := Nat.xor_lt_two_pow ha hb
  have hp : 2 ^ 40 ≤ 2 ^ IntKind.i64.bits := by decide
  have ha' : a % 2 ^ IntKind.i64.bits = a := Nat.mod_eq_of_lt (by omega)
  have hb' : b % 2 ^ IntKind.i64.bits = b := Nat.mod_eq_of_lt (by omega)
  simp only [Go.bits, BitVec.ofInt_natCast, BitVec.toNat_xor, BitVec.toNat_ofNat, ha', hb']
  rw [IntWalk.i64_left]
  exact w64 (by omega) (by omega)
theorem and_i64 (a b : Nat) (ha : a < 2 ^ 40) (hb : b < 2 ^ 40) : Go.bits .and .i64 (a : Int) (b : Int) = ((a &&& b : Nat) : Int) := by
  have hx : a &&& b < 2 ^ 40 := Nat.and_lt_two_pow a hb
  have hp : 2 ^ 40 ≤ 2 ^ IntKind.i64.bits := by decide
  have ha' : a % 2 ^ IntKind.i64.bits = a := Nat.mod_eq_of_lt (by omega)
  have hb' : b % 2 ^ IntKind.i64.bits = b := Nat.mod_eq_of_lt (by omega)
  simp only [Go.bits, BitVec.ofInt_natCast, BitVec.toNat_and, BitVec.toNat_ofNat, ha', hb']
  rw [IntWalk.i64_left]
  exact w64 (by omega) (by omega)
theorem and1_i64 (a : Nat) (ha : a < 2 ^ 40) : Go.bits .and .i64 (a : Int) 1 = ((a % 2 : Nat) : Int) := by
  have := and_i64 a 1 ha (by decide)
  rw [Nat.and_one_is_mod] at this; exact this
theorem and1_u8 (a : Nat) (ha : a < 256) : Go.bits .and .u8 (a : Int) 1 = ((a % 2 : Nat) : Int) := by
  have := u8_and_nat a 1 ha (by decide)
  rw [Nat.and_one_is_mod] at this; exact this
theorem tb0 (a : Nat) : a.testBit 0 = decide (a % 2 = 1) := by simp [Nat.testBit_zero]
theorem odd_iff (a : Nat) : (((a % 2 : Nat) : Int) = 1) ↔ a.testBit 0 = true := by rw [tb0]; simp; omega
theorem ev_pos {α : Type} {c : Prop} [Decidable c] {f g : Nat → Option α} {r : α} (h : c) (e : Ev f r) : Ev (fun k => if c then f k else g k) r := by
  simp only [if_pos h]; exact e
theorem ev_neg {α : Type} {c : Prop} [Decidable c] {f g : Nat → Option α} {r : α} (h : ¬ c) (e : Ev g r) : Ev (fun k => if c then f k else g k) r := by
  simp only [if_neg h]; exact e
theorem ev_val {α β : Type} {o : Option α} {a : α} {F : Nat → α → Option β} {r : β} (h : o = some a) (e : Ev (fun k => F k a) r) : Ev (fun k => o.bind (F k)) r := by
  subst h; exact e
def sumB (l : List Nat) : Nat := l.foldl (· ^^^ ·) 0
theorem add_l0 (l : List Nat) (hl : ∀ x ∈ l, x < 256) (hn : l.length < 2 ^ 62) (t : List Nat) : ∀ (i k o : Nat), o < 256 → l.drop i = t → t.length < k →
    field_Add.l0 k (o : Int) (l.map fun x : Nat => (x : Int)) (l.length : Int) (i : Int) = some ((t.foldl (· ^^^ ·) o : Nat) : Int) := by
  induction t with
  | nil =>
    intro i k o ho hd hk
    obtain ⟨k, rfl⟩ : ∃ m, k = m + 1 := ⟨k - 1, by simp at hk; omega⟩
    have : l.length ≤ i := by have := congrArg List.length hd; simp at this; omega
    simp only [field_Add.l0]; rw [if_neg (by omega)]; rfl
  | cons x t ih =>
    intro i k o ho hd hk
    obtain ⟨k, rfl⟩ : ∃ m, k = m + 1 := ⟨k - 1, by simp at hk; omega⟩
    have hd' : (l.map fun x : Nat => (x : Int)).drop i = (x : Int) :: t.map fun x : Nat => (x : Int) := by rw [← List.map_drop, hd]; rfl
    obtain ⟨h1, h2, h3⟩ := rd_drop hd'
    simp only [List.length_map] at h2
    have hx : x < 256 := hl x (List.mem_of_mem_drop (hd ▸ List.mem_cons_self : x ∈ l.drop i))
    simp only [field_Add.l0]
    rw [if_pos (by omega), if_pos (by omega), if_pos (by rw [List.length_map]; omega), h1, u8_xor_nat o x ho hx, w64 (by omega) (by omega)]
    have := ih (i + 1) k (o ^^^ x) (xor_lt ho hx) (by rw [← List.tail_drop, hd]; rfl) (by simp at hk; omega)
    rw [show ((i : Int) + 1) = ((i + 1 : Nat) : Int) from by omega]
    exact this
theorem add_ev (l : List Nat) (hl : ∀ x ∈ l, x < 256) (hn : l.length < 2 ^ 62) : Ev (fun k => field_Add.f k (l.map fun x : Nat => (x : Int))) ((sumB l : Nat) : Int) := by
  refine ⟨l.length + 1, fun k hk => ?_⟩
  unfold field_Add.f
  rw [List.length_map]
  exact add_l0 l hl hn l 0 k 0 (by decide) rfl (by omega)
theorem add2_ev {a b : Nat} (ha : a < 256) (hb : b < 256) : Ev (fun k => field_Add.f k [(a : Int), (b : Int)]) ((a ^^^ b : Nat) : Int) := by
  have := add_ev [a, b] (by simp [ha, hb]) (by simp)
  simpa [sumB] using this
theorem and128 {a : Nat} (ha : a < 256) : (Go.bits .and .u8 (a : Int) 128 = 0) ↔ a.testBit 7 = false := by
  have h := u8_and_nat a 128 ha (by decide)
  rw [show ((128 : Nat) : Int) = 128 from rfl] at h
  rw [h]
  have hs : ∀ a < 256, (((a &&& 128 : Nat) : Int) = 0) ↔ a.testBit 7 = false := by decide +kernel
  exact hs a ha
theorem xt_low {a : Nat} (ha : a < 256) (h : a.testBit 7 = false) : (((a : Int) * 2) % 256) = ((xt a : Nat) : Int) := by
  have hs : ∀ a < 256, a.testBit 7 = false → (a * 2) % 256 = xt a := by decide +kernel
  have := hs a ha h; omega
theorem xt_high {a : Nat} (ha : a < 256) (h : a.testBit 7 = true) : Go.bits .xor .u8 (((a : Int) * 2) % 256) 29 = ((xt a : Nat) : Int) := by
  have hs : ∀ a < 256, a.testBit 7 = true → ((a * 2) % 256) ^^^ 29 = xt a := by decide +kernel
  have h2 := u8_xor_nat ((a * 2) % 256) 29 (by omega) (by decide)
  rw [show (((a * 2 % 256 : Nat)) : Int) = ((a : Int) * 2) % 256 from by omega, show ((29 : Nat) : Int) = 29 from rfl] at h2
  rw [h2, hs a ha h]
theorem times_l0 (n : Nat) : ∀ (a b o k : Nat), a < 256 → o < 256 → b < 2 ^ n → n ≤ 8 → n < k →
    field_times.l0 k (a : Int) (b : Int) (o : Int) = some ((o ^^^ mulN n a b : Nat) : Int) := by
  induction n with
  | zero =>
    intro a b o k _ _ hb _ hk
    obtain ⟨k, rfl⟩ : ∃ m, k = m + 1 := ⟨k - 1, by omega⟩
    simp only [field_times.l0]; rw [if_pos (by omega)]; simp [mulN]
  | succ n ih =>
    intro a b o k ha ho hb hn hk
    obtain ⟨k, rfl⟩ : ∃ m, k = m + 1 := ⟨k - 1, by omega⟩
    have hb8 : b < 256 := Nat.lt_of_lt_of_le hb (Nat.pow_le_pow_right (by decide : 0 < 2) hn)
    by_cases h0 : b = 0
    · subst h0
      simp only [field_times.l0]; rw [if_pos (by omega), mulN_zero_right]; simp
    · have hx := xt_lt ha
      have hb2 : b / 2 < 2 ^ n := by rw [Nat.pow_succ] at hb; omega
      have e2 : ((b : Int) / 2) = ((b / 2 : Nat) : Int) := by omega
      simp only [field_times.l0]
      rw [if_neg (by omega), and1_u8 b hb8]
      simp only [mulN]
      by_cases ho1 : b.testBit 0 = true
      · rw [if_pos ((odd_iff b).2 ho1), if_pos ho1, u8_xor_nat o a ho ha, ← Nat.xor_assoc]
        by_cases h7 : a.testBit 7 = true
        · rw [if_neg (by rw [and128 ha]; simp [h7]), xt_high ha h7, e2]
          exact ih _ _ _ _ hx (xor_lt ho ha) hb2 (by omega) (by omega)
        · have h7' : a.testBit 7 = false := by simpa using h7
          rw [if_pos ((and128 ha).2 h7'), xt_low ha h7', e2]
          exact ih _ _ _ _ hx (xor_lt ho ha) hb2 (by omega) (by omega)
      · rw [if_neg (by rw [odd_iff]; exact ho1), if_neg ho1, Nat.zero_xor]
        by_cases h7 : a.testBit 7 = true
        · rw [if_neg (by rw [and128 ha]; simp [h7]), xt_high ha h7, e2]
          exact ih _ _ _ _ hx ho hb2 (by omega) (by omega)
        · have h7' : a.testBit 7 = false := by simpa using h7
          rw [if_pos ((and128 ha).2 h7'), xt_low ha h7', e2]
          exact ih _ _ _ _ hx ho hb2 (by omega) (by omega)
theorem times_at {a b : Nat} (ha : a < 256) (hb : b < 256) (k : Nat) (hk : 9 ≤ k) : field_times.f k (a : Int) (b : Int) = some ((mul a b : Nat) : Int) := by
  unfold field_times.f
  have := times_l0 8 a b 0 k ha (by decide) hb (by omega) (by omega)
  rw [Nat.zero_xor] at this
  exact this
def prodB (l : List Nat) : Nat := l.foldl mul 1
theorem mul_l0 (l : List Nat) (hl : ∀ x ∈ l, x < 256) (hn : l.length < 2 ^ 62) (t : List Nat) : ∀ (i k o : Nat), o < 256 → l.drop i = t → t.length + 9 < k →
    field_Mul.l0 k (o : Int) (l.map fun x : Nat => (x : Int)) (l.length : Int) (i : Int) = some ((t.foldl mul o : Nat) : Int) := by
  induction t with
  | nil =>
    intro i k o ho hd hk
    obtain ⟨k, rfl⟩ : ∃ m, k = m + 1 := ⟨k - 1, by simp at hk; omega⟩
    have : l.length ≤ i := by have := congrArg List.length hd; simp at this; omega
    simp only [field_Mul.l0]; rw [if_neg (by omega)]; rfl
  | cons x t ih =>
    intro i k o ho hd hk
    obtain ⟨k, rfl⟩ : ∃ m, k = m + 1 := ⟨k - 1, by simp at hk; omega⟩
    have hd' : (l.map fun x : Nat => (x : Int)).drop i = (x : Int) :: t.map fun x : Nat => (x : Int) := by rw [← List.map_drop, hd]; rfl
    obtain ⟨h1, h2, h3⟩ := rd_drop hd'
    simp only [List.length_map] at h2
    have hx : x < 256 := hl x (List.mem_of_mem_drop (hd ▸ List.mem_cons_self : x ∈ l.drop i))
    simp only [field_Mul.l0]
    rw [if_pos (by omega), if_pos (by omega), if_pos (by rw [List.length_map]; omega), h1, times_at ho hx k (by simp at hk; omega), w64 (by omega) (by omega)]
    simp only [Option.bind_some]
    have := ih (i + 1) k (mul o x) (mul_lt x ho) (by rw [← List.tail_drop, hd]; rfl) (by simp at hk; omega)
    rw [show ((i : Int) + 1) = ((i + 1 : Nat) : Int) from by omega]
    exact this
theorem mul_ev (l : List Nat) (hl : ∀ x ∈ l, x < 256) (hn : l.length < 2 ^ 62) : Ev (fun k => field_Mul.f k (l.map fun x : Nat => (x : Int))) ((prodB l : Nat) : Int) := by
  refine ⟨l.length + 11, fun k hk => ?_⟩
  unfold field_Mul.f
  rw [List.length_map]
  exact mul_l0 l hl hn l 0 k 1 (by decide) rfl (by omega)
theorem mul2_ev {a b : Nat} (ha : a < 256) (hb : b < 256) : Ev (fun k => field_Mul.f k [(a : Int), (b : Int)]) ((mul a b : Nat) : Int) := by
  have := mul_ev [a, b] (by simp [ha, hb]) (by simp)
  simpa [prodB, one_mul ha] using this
theorem rd_tl {l : List F} {i : Nat} {x : F} (h : l[i]? = some x) : rd (tl l) (i : Int) = ti x := by
  unfold rd tl
  rw [Int.toNat_natCast, List.getD_eq_getElem?_getD, List.getElem?_map, h]; rfl
theorem rd_mid (pre r : List F) (x : F) : rd (tl (pre ++ x :: r)) (pre.length : Int) = ti x := by
  refine rd_tl ?_
  rw [List.getElem?_append_right (Nat.le_refl _), Nat.sub_self]; rfl
theorem set_mid (pre r : List F) (x y : F) : (tl (pre ++ x :: r)).set pre.length (ti y) = tl (pre ++ y :: r) := by
  unfold tl
  rw [← List.map_set, List.set_append_right _ _ (Nat.le_refl _), Nat.sub_self]; rfl
theorem rd_row {L : List (List F)} {r : List F} {t : List (List F)} {i : Nat} (h : L.drop i = r :: t) : rd_L1 (tll L) (i : Int) = tl r ∧ i < L.length ∧ L.drop (i + 1) = t := by
  have hi : i < L.length := by
    rcases Nat.lt_or_ge i L.length with h' | h'
    · exact h'
    · rw [List.drop_eq_nil_of_le h'] at h; cases h
  have hc := List.drop_eq_getElem_cons hi
  rw [hc] at h
  injection h with h1 h2
  refine ⟨?_, hi, h2⟩
  unfold rd_L1 tll
  rw [Int.toNat_natCast, List.getD_eq_getElem?_getD, List.getElem?_map, List.getElem?_eq_getElem hi, h1]; rfl
theorem addF_ev (a b : F) : Ev (fun k => field_Add.f k [ti a, ti b]) (ti (a ^^^ b)) := by
  have h := add2_ev (toNat_lt a) (toNat_lt b)
  unfold ti; rw [fx_toNat]; exact h
theorem mn_len (a b : Nat) : mn (a : Int) (b : Int) = ((min a b : Nat) : Int) := by unfold mn; split <;> omega
theorem sum_l1 (x13 : List (List Int)) (x14 : Int) (i : Nat) (hi : i < 2 ^ 60) (R : List Int) (a : List F) : ∀ (pre rpre r : List F), rpre.length = pre.length → pre.length + a.length < 2 ^ 60 → pre.length + r.length < 2 ^ 60 →
    Ev (fun k => rows_Sum.l0 k (tl (pre ++ addTo a r)) x13 x14 ((i + 1 : Nat) : Int)) R →
    Ev (fun k => rows_Sum.l1 k (tl (pre ++ a)) (tl (rpre ++ r)) x13 x14 (i : Int) ((min (pre.length + a.length) (pre.length + r.length) : Nat) : Int) (pre.length : Int)) R := by
  induction a with
  | nil =>
    intro pre rpre r hr h1 h2 hR
    refine Ev.step (fun k => by simp only [rows_Sum.l1]; rfl) ?_
    refine ev_neg (by simp only [List.length_nil]; omega) ?_
    rw [w64 (i := (i : Int) + 1) (by omega) (by omega), show (i : Int) + 1 = ((i + 1 : Nat) : Int) from by omega]
    cases r <;> exact hR
  | cons x a ih =>
    intro pre rpre r hr h1 h2 hR
    cases r with
    | nil =>
      refine Ev.step (fun k => by simp only [rows_Sum.l1]; rfl) ?_
      refine ev_neg (by simp only [List.length_nil]; omega) ?_
      rw [w64 (i := (i : Int) + 1) (by omega) (by omega), show (i : Int) + 1 = ((i + 1 : Nat) : Int) from by omega]
      exact hR
    | cons y r =>
      simp only [List.length_cons] at h1 h2 ⊢
      refine Ev.step (fun k => by simp only [rows_Sum.l1]; rfl) ?_
      refine ev_pos (by omega) (ev_pos (by omega) (ev_pos (by rw [tl_length, List.length_append, List.length_cons]; omega) (ev_pos (by rw [tl_length, List.length_append, List.length_cons]; omega) ?_)))
      have e2 : rd (tl (rpre ++ y :: r)) (pre.length : Int) = ti y := by rw [← hr]; exact rd_mid rpre r y
      rw [rd_mid, e2]
      refine Ev.bind (addF_ev x y) ?_
      rw [Int.toNat_natCast, set_mid, w64 (i := (pre.length : Int) + 1) (by omega) (by omega)]
      have := ih (pre ++ [x ^^^ y]) (rpre ++ [y]) r (by simp [hr]) (by simp only [List.length_append, List.length_singleton]; omega) (by simp only [List.length_append, List.length_singleton]; omega) (by rw [List.append_assoc]; exact hR)
      simp only [List.length_append, List.length_singleton, List.append_assoc, List.singleton_append] at this
      rw [show min (pre.length + (a.length + 1)) (pre.length + (r.length + 1)) = min (pre.length + 1 + a.length) (pre.length + 1 + r.length) from by omega, show (pre.length : Int) + 1 = ((pre.length + 1 : Nat) : Int) from by omega]
      exact this
theorem sum_l0 (L : List (List F)) (hL : L.length < 2 ^ 50) (hs : ∀ r ∈ L, r.length < 2 ^ 50) (t : List (List F)) : ∀ (i : Nat) (acc : List F), L.drop i = t → acc.length < 2 ^ 50 →
    Ev (fun k => rows_Sum.l0 k (tl acc) (tll L) (L.length : Int) (i : Int)) (tl (t.foldl addTo acc)) := by
  induction t with
  | nil =>
    intro i acc hd ha
    refine Ev.step (fun k => by simp only [rows_Sum.l0]; rfl) ?_
    have : L.length ≤ i := by have := congrArg List.length hd; simp at this; omega
    exact ev_neg (by omega) (Ev.now _)
  | cons r t ih =>
    intro i acc hd ha
    obtain ⟨h1, h2, h3⟩ := rd_row hd
    have hr := hs r (List.mem_of_mem_drop (hd ▸ List.mem_cons_self : r ∈ L.drop i))
    refine Ev.step (fun k => by simp only [rows_Sum.l0]; rfl) ?_
    refine ev_pos (by omega) (ev_pos (by omega) (ev_pos (by rw [tll_length]; omega) ?_))
    rw [h1, tl_length, tl_length, mn_len]
    have := sum_l1 (tll L) (L.length : Int) i (by omega) _ acc [] [] r rfl (by simp only [List.length_nil]; omega) (by simp only [List.length_nil]; omega) (ih (i + 1) (addTo acc r) h3 (by rw [addTo_length]; exact ha))
    simp only [List.length_nil, Nat.zero_add, List.nil_append] at this
    exact this
def cutN (n : Int) : Nat := (max 0 (min n 1000)).toNat
theorem cutN_le (n : Int) : cutN n ≤ 1000 := by unfold cutN; omega
theorem cutN_mx (n : Int) : mx 0 (mn n 1000) = (cutN n : Int) := by
  unfold mx mn cutN; split <;> split <;> omega
theorem sum_ev (n : Int) (L : List (List F)) (hL : L.length < 2 ^ 50) (hs : ∀ r ∈ L, r.length < 2 ^ 50) : Ev (fun k => rows_Sum.f k n (tll L)) (tl (sumR (cutN n) L)) := by
  unfold rows_Sum.f
  have hc := cutN_le n
  rw [cutN_mx]
  refine ev_pos (by omega) (ev_pos (by rw [Int.toNat_natCast]; omega) ?_)
  rw [Int.toNat_natCast, ← tl_replicate, tll_length]
  exact sum_l0 L hL hs L 0 _ rfl (by rw [List.length_replicate]; omega)
theorem mulF_ev (a b : F) : Ev (fun k => field_Mul.f k [ti a, ti b]) (ti (fm a b)) := by
  have h := mul2_ev (toNat_lt a) (toNat_lt b)
  unfold ti; rw [fm_toNat]; exact h
theorem scale_l0 (c : F) (l : List F) (hl : l.length < 2 ^ 50) (t : List F) : ∀ (pre : List F), l = pre ++ t →
    Ev (fun k => rows_Scale.l0 k (ti c) (tl (scaleR c pre ++ List.replicate t.length 0)) (tl l) (l.length : Int) (pre.length : Int)) (tl (scaleR c l)) := by
  induction t with
  | nil =>
    intro pre hp
    refine Ev.step (fun k => by simp only [rows_Scale.l0]; rfl) ?_
    subst hp
    rw [List.append_nil]
    refine ev_neg (by omega) ?_
    rw [List.length_nil, List.replicate_zero, List.append_nil]
    exact Ev.now _
  | cons x t ih =>
    intro pre hp
    have hlen : l.length = pre.length + (t.length + 1) := by rw [hp]; simp
    have e1 : rd (tl l) (pre.length : Int) = ti x := by rw [hp]; exact rd_mid pre t x
    have e2 : (tl (scaleR c pre ++ List.replicate (t.length + 1) 0)).length = l.length := by rw [tl_length, List.length_append, scaleR_length, List.length_replicate, hlen]
    refine Ev.step (fun k => by simp only [rows_Scale.l0]; rfl) ?_
    rw [List.length_cons]
    refine ev_pos (by omega) (ev_pos (by omega) (ev_pos (by rw [tl_length]; omega) ?_))
    rw [e1]
    refine Ev.bind (mulF_ev c x) (ev_pos (by rw [e2]; omega) ?_)
    have e3 := set_mid (scaleR c pre) (List.replicate t.length 0) 0 (fm c x)
    rw [scaleR_length] at e3
    rw [List.replicate_succ, Int.toNat_natCast, e3, w64 (i := (pre.length : Int) + 1) (by omega) (by omega), show (pre.length : Int) + 1 = ((pre.length + 1 : Nat) : Int) from by omega]
    have := ih (pre ++ [x]) (by rw [hp, List.append_assoc]; rfl)
    rw [List.length_append, List.length_singleton] at this
    have e4 : scaleR c (pre ++ [x]) = scaleR c pre ++ [fm c x] := by unfold scaleR; rw [List.map_append]; rfl
    rw [e4, List.append_assoc, List.singleton_append] at this
    exact this
theorem scale_ev (c : F) (l : List F) (hl : l.length < 2 ^ 40) : Ev (fun k => rows_Scale.f k (ti c) (tl l)) (tl (scaleR c l)) := by
  unfold rows_Scale.f
  refine ev_pos (by omega) (ev_pos (by rw [tl_length, Int.toNat_natCast]; omega) ?_)
  rw [tl_length, Int.toNat_natCast, ← tl_replicate]
  exact scale_l0 c l (by omega) l [] rfl
theorem fit_ev (n : Nat) (hn : n ≤ 1000) (r : List F) (hr : r.length < 2 ^ 50) : Ev (fun k => rows_Fit.f k (n : Int) (tl r)) (tl (fitR n r)) := by
  unfold rows_Fit.f
  have h := sum_ev (n : Int) [r] (by simp) (by simp [hr])
  have hc : cutN (n : Int) = n := by unfold cutN; omega
  rw [hc, sumR_one] at h
  exact Ev.bind h (Ev.now _)
theorem few_l0 (L : List (List F)) (hL : L.length < 2 ^ 50) (hs : ∀ r ∈ L, r.length < 2 ^ 50) (t : List (List F)) : ∀ (i n : Nat), L.drop i = t → n < 2 ^ 55 →
    ∃ b, Ev (fun k => fountainlaw2_Few.l0 k (tll L) (n : Int) (i : Int)) b ∧ (b = true → n + t.length ≤ 4000 ∧ ∀ r ∈ t, n + r.length ≤ 4000) := by
  induction t with
  | nil =>
    intro i n hd hn
    have : L.length ≤ i := by have := congrArg List.length hd; simp at this; omega
    refine ⟨decide ((n : Int) ≤ 4000), Ev.step (fun k => by simp only [fountainlaw2_Few.l0]; rfl) (ev_neg (by rw [tll_length]; omega) (Ev.now _)), fun h => ?_⟩
    have := of_decide_eq_true h
    exact ⟨by simp; omega, fun r hr => by simp at hr⟩
  | cons r t ih =>
    intro i n hd hn
    obtain ⟨h1, h2, h3⟩ := rd_row hd
    have hr := hs r (List.mem_of_mem_drop (hd ▸ List.mem_cons_self : r ∈ L.drop i))
    by_cases c : n ≤ 4000
    · obtain ⟨b, hb, himp⟩ := ih (i + 1) (n + 1 + r.length) h3 (by omega)
      refine ⟨b, ?_, fun h => ?_⟩
      · refine Ev.step (fun k => by simp only [fountainlaw2_Few.l0]; rfl) ?_
        refine ev_pos (by rw [tll_length]; omega) (ev_pos (by omega) (ev_pos (by omega) ?_))
        rw [h1, tl_length, w64 (i := (n : Int) + 1) (by omega) (by omega), w64 (i := (n : Int) + 1 + (r.length : Int)) (by omega) (by omega), w64 (i := (i : Int) + 1) (by omega) (by omega),
          show (n : Int) + 1 + (r.length : Int) = ((n + 1 + r.length : Nat) : Int) from by omega, show (i : Int) + 1 = ((i + 1 : Nat) : Int) from by omega]
        exact hb
      · obtain ⟨g1, g2⟩ := himp h
        refine ⟨by simp only [List.length_cons]; omega, fun q hq => ?_⟩
        rcases List.mem_cons.1 hq with rfl | hq
        · omega
        · have := g2 q hq; omega
    · refine ⟨false, ?_, fun h => by cases h⟩
      refine Ev.step (fun k => by simp only [fountainlaw2_Few.l0]; rfl) ?_
      refine ev_pos (by rw [tll_length]; omega) (ev_neg (by omega) ?_)
      rw [decide_eq_false (show ¬ ((n : Int) ≤ 4000) by omega)]
      exact Ev.now _
theorem few_ev (L : List (List F)) (hL : L.length < 2 ^ 50) (hs : ∀ r ∈ L, r.length < 2 ^ 50) : ∃ b, Ev (fun k => fountainlaw2_Few.f k (tll L)) b ∧ (b = true → L.length ≤ 4000 ∧ ∀ r ∈ L, r.length ≤ 4000) := by
  obtain ⟨b, h1, h2⟩ := few_l0 L hL hs L 0 0 rfl (by decide)
  exact ⟨b, h1, fun h => by have := h2 h; simpa using this⟩
theorem from_l0 (L : List (List Int)) (hL : L.length < 2 ^ 42) (t : List (List Int)) : ∀ (i : Nat) (acc : List (List Int)), L.drop i = t → acc.length = i →
    Ev (fun k => fountainlaw2_From.l0 k L acc (i : Int)) (acc ++ t) := by
  induction t with
  | nil =>
    intro i acc hd ha
    refine Ev.step (fun k => by simp only [fountainlaw2_From.l0]; rfl) ?_
    have : L.length ≤ i := by have := congrArg List.length hd; simp at this; omega
    rw [List.append_nil]
    exact ev_neg (by omega) (Ev.now _)
  | cons x t ih =>
    intro i acc hd ha
    have hi : i < L.length := by
      rcases Nat.lt_or_ge i L.length with h' | h'
      · exact h'
      · rw [List.drop_eq_nil_of_le h'] at hd; cases hd
    have hc := List.drop_eq_getElem_cons hi
    rw [hd] at hc
    injection hc with h1 h2
    refine Ev.step (fun k => by simp only [fountainlaw2_From.l0]; rfl) ?_
    refine ev_pos (by omega) (ev_pos (by omega) (ev_pos (by omega) ?_))
    have e : rd_L1 L (i : Int) = x := by unfold rd_L1; rw [Int.toNat_natCast, List.getD_eq_getElem?_getD, List.getElem?_eq_getElem hi, h1]; rfl
    rw [e, w64 (i := (i : Int) + 1) (by omega) (by omega), show (i : Int) + 1 = ((i + 1 : Nat) : Int) from by omega]
    have := ih (i + 1) (acc ++ [x]) (by rw [← List.tail_drop, hd]; rfl) (by rw [List.length_append, List.length_singleton, ha])
    rw [List.append_assoc] at this
    exact this
theorem from_ev (L : List (List Int)) (hL : L.length < 2 ^ 42) : Ev (fun k => fountainlaw2_From.f k L) L := by
  unfold fountainlaw2_From.f
  exact from_l0 L hL L 0 [] rfl rfl
theorem same_l0 (L : List (List Int)) (hL : L.length < 2 ^ 42) (d : Nat) : ∀ i, i + d = L.length → Ev (fun k => fountainref1_SameRows.l0 k L L (i : Int)) true := by
  induction d with
  | zero =>
    intro i hi
    refine Ev.step (fun k => by simp only [fountainref1_SameRows.l0]; rfl) ?_
    exact ev_neg (by omega) (Ev.now _)
  | succ d ih =>
    intro i hi
    refine Ev.step (fun k => by simp only [fountainref1_SameRows.l0]; rfl) ?_
    refine ev_pos (by omega) (ev_pos (by omega) (ev_pos (by omega) (ev_pos (by trivial) ?_)))
    rw [w64 (i := (i : Int) + 1) (by omega) (by omega), show (i : Int) + 1 = ((i + 1 : Nat) : Int) from by omega]
    exact ih (i + 1) (by omega)
theorem same_ev (L : List (List Int)) (hL : L.length < 2 ^ 42) : Ev (fun k => fountainref1_SameRows.f k L L) true := by
  unfold fountainref1_SameRows.f
  exact ev_pos rfl (same_l0 L hL L.length 0 (by omega))
theorem power_l0 (n : Nat) : ∀ (a o k : Nat), a < 256 → o < 256 → n < 2 ^ 30 → n + 10 < k →
    field_power.l0 k (a : Int) (n : Int) (o : Int) = some ((mul o (pw a n) : Nat) : Int) := by
  induction n using Nat.strongRecOn with
  | ind n ih =>
    intro a o k ha ho hn hk
    obtain ⟨k, rfl⟩ : ∃ m, k = m + 1 := ⟨k - 1, by omega⟩
    simp only [field_power.l0]
    by_cases h0 : n = 0
    · subst h0
      rw [if_neg (by omega)]; simp only [pw]; rw [mul_one ho]
    · have e2 : ((n : Int) / 2) = ((n / 2 : Nat) : Int) := by omega
      rw [if_pos (by omega), and1_i64 n (by omega)]
      by_cases h1 : n % 2 = 1
      · rw [if_pos (by omega), times_at ho ha k (by omega)]; simp only [Option.bind_some]
        rw [times_at ha ha k (by omega)]; simp only [Option.bind_some]
        rw [e2, ih (n / 2) (by omega) _ _ _ (mul_lt a ha) (mul_lt a ho) (by omega) (by omega), ← pw_odd ha ho n h1]
      · rw [if_neg (by omega), times_at ha ha k (by omega)]; simp only [Option.bind_some]
        rw [e2, ih (n / 2) (by omega) _ _ _ (mul_lt a ha) ho (by omega) (by omega), ← pw_even ha n (by omega)]
theorem power_ev {a n : Nat} (ha : a < 256) (hn : n < 2 ^ 30) : Ev (fun k => field_power.f k (a : Int) (n : Int)) ((pw a n : Nat) : Int) := by
  refine ⟨n + 11, fun k hk => ?_⟩
  unfold field_power.f
  have := power_l0 n a 1 k ha (by decide) hn (by omega)
  rw [one_mul (pw_lt a n)] at this
  exact this
theorem inv_ev {a : Nat} (ha : a < 256) : Ev (fun k => field_Inv.f k (a : Int)) ((iv a : Nat) : Int) := by
  unfold field_Inv.f
  exact Ev.bind (power_ev (n := 254) ha (by decide)) (Ev.now _)
theorem shr_nat (k : IntKind) (x i : Nat) (h : i ≤ k.bits) : shr k (x : Int) (i : Int) = ((x / 2 ^ i : Nat) : Int) := by
  unfold shr
  rw [Int.toNat_natCast, Nat.min_eq_left h]
  simp
theorem shl_i64 (x i : Nat) (hx : x < 2 ^ 10) (h : i ≤ 20) : shl .i64 (x : Int) (i : Int) = ((x * 2 ^ i : Nat) : Int) := by
  unfold shl
  rw [Int.toNat_natCast, Nat.min_eq_left (by simp [IntKind.bits]; omega), IntWalk.i64_left]
  have hp : 2 ^ i ≤ 2 ^ 20 := Nat.pow_le_pow_right (by decide) h
  have hb : x * 2 ^ i < 2 ^ 30 := Nat.lt_of_lt_of_le (Nat.mul_lt_mul_of_lt_of_le hx hp (by decide)) (by decide)
  rw [show ((x : Int) * 2 ^ i) = ((x * 2 ^ i : Nat) : Int) from by simp]
  exact w64 (by omega) (by omega)
theorem tb_div (x i : Nat) : (((x / 2 ^ i % 2 : Nat) : Int) = 1) ↔ x.testBit i = true := by
  rw [Nat.testBit_eq_decide_div_mod_eq, decide_eq_true_eq]
  generalize x / 2 ^ i % 2 = y
  omega
theorem pow15 (n : Nat) (h : n < 7) : 285 * 2 ^ n < 2 ^ 15 := by
  have : 2 ^ n ≤ 2 ^ 6 := Nat.pow_le_pow_right (by decide) (by omega)
  omega
theorem rtimes_l1 (n : Nat) : ∀ (x : Nat) (k : Nat), n ≤ 7 → x < 2 ^ 15 → n < k →
    fountainref1_Times.l1 k (x : Int) ((n : Int) + 7) = some ((redN n x % 256 : Nat) : Int) := by
  induction n with
  | zero =>
    intro x k _ hx hk
    obtain ⟨k, rfl⟩ : ∃ m, k = m + 1 := ⟨k - 1, by omega⟩
    simp only [fountainref1_Times.l1]; rw [if_neg (by omega)]; simp [redN]
  | succ n ih =>
    intro x k hn hx hk
    obtain ⟨k, rfl⟩ : ∃ m, k = m + 1 := ⟨k - 1, by omega⟩
    have h15 := pow15 n (by omega)
    simp only [fountainref1_Times.l1]
    have e8 : ((n + 1 : Nat) : Int) + 7 = ((n + 8 : Nat) : Int) := by omega
    rw [if_pos (by omega), e8, u64w (by omega) (by omega), if_pos (by omega), shr_nat _ _ _ (by simp [IntKind.bits]; omega), and1_i64 _ (Nat.lt_of_le_of_lt (Nat.div_le_self _ _) (by omega))]
    rw [w64 (i := ((n + 8 : Nat) : Int) - 8) (by omega) (by omega), w64 (i := ((n + 8 : Nat) : Int) - 1) (by omega) (by omega)]
    rw [show ((n + 8 : Nat) : Int) - 8 = (n : Int) from by omega, show ((n + 8 : Nat) : Int) - 1 = (n : Int) + 7 from by omega, u64w (i := (n : Int)) (by omega) (by omega), if_pos (show (0 : Int) ≤ n by omega)]
    simp only [redN]
    by_cases hb : x.testBit (n + 8) = true
    · rw [if_pos ((tb_div x (n + 8)).2 hb), if_pos hb]
      have := shl_i64 285 n (by decide) (by omega)
      rw [show ((285 : Nat) : Int) = 285 from rfl] at this
      rw [this, xor_i64 _ _ (by omega) (by omega)]
      exact ih _ _ (by omega) (Nat.xor_lt_two_pow hx h15) (by omega)
    · rw [if_neg (by rw [tb_div]; exact hb), if_neg hb, Nat.xor_zero]
      exact ih _ _ (by omega) hx (by omega)
theorem rtimes_l0 (n : Nat) : ∀ (a b x i k : Nat), a < 256 → b < 256 → x < 2 ^ 15 → n + i = 8 → n + 8 < k →
    fountainref1_Times.l0 k (a : Int) (b : Int) (x : Int) (i : Int) = some ((redN 7 (x ^^^ clN n i a b) % 256 : Nat) : Int) := by
  induction n with
  | zero =>
    intro a b x i k ha hb hx hi hk
    obtain ⟨k, rfl⟩ : ∃ m, k = m + 1 := ⟨k - 1, by omega⟩
    simp only [fountainref1_Times.l0]; rw [if_neg (by omega)]
    simp only [clN, Nat.xor_zero]
    exact rtimes_l1 7 x k (by omega) hx (by omega)
  | succ n ih =>
    intro a b x i k ha hb hx hi hk
    obtain ⟨k, rfl⟩ : ∃ m, k = m + 1 := ⟨k - 1, by omega⟩
    simp only [fountainref1_Times.l0]
    rw [if_pos (by omega), u64w (by omega) (by omega), if_pos (by omega), shr_nat _ _ _ (by simp [IntKind.bits]; omega), and1_u8 _ (Nat.lt_of_le_of_lt (Nat.div_le_self _ _) hb), w64 (i := (a : Int)) (by omega) (by omega), w64 (i := (i : Int) + 1) (by omega) (by omega)]
    rw [show (i : Int) + 1 = ((i + 1 : Nat) : Int) from by omega]
    simp only [clN]
    have hai : a * 2 ^ i < 2 ^ 15 := by
      have : 2 ^ i ≤ 2 ^ 7 := Nat.pow_le_pow_right (by decide) (by omega)
      exact Nat.lt_of_lt_of_le (Nat.mul_lt_mul_of_lt_of_le ha this (by decide)) (by decide)
    by_cases h1 : b.testBit i = true
    · rw [if_pos ((tb_div b i).2 h1), if_pos h1, shl_i64 a i (by omega) (by omega), xor_i64 _ _ (by omega) (by omega), ← Nat.xor_assoc]
      exact ih _ _ _ _ _ ha hb (Nat.xor_lt_two_pow hx hai) (by omega) (by omega)
    · rw [if_neg (by rw [tb_div]; exact h1), if_neg h1, Nat.zero_xor]
      exact ih _ _ _ _ _ ha hb hx (by omega) (by omega)
theorem rtimes_at {a b : Nat} (ha : a < 256) (hb : b < 256) (k : Nat) (hk : 17 ≤ k) : fountainref1_Times.f k (a : Int) (b : Int) = some ((mul a b : Nat) : Int) := by
  unfold fountainref1_Times.f
  have := rtimes_l0 8 a b 0 0 k ha hb (by decide) (by omega) (by omega)
  rw [Nat.zero_xor, ← ref, ref_eq ha hb] at this
  exact this
theorem rtimes_ev {a b : Nat} (ha : a < 256) (hb : b < 256) : Ev (fun k => fountainref1_Times.f k (a : Int) (b : Int)) ((mul a b : Nat) : Int) := ⟨17, fun k hk => rtimes_at ha hb k hk⟩
theorem rinv_l0 (d : Nat) : ∀ (a b k : Nat), a < 256 → 1 ≤ b → b + d = 256 → (∀ c, 1 ≤ c → c < b → mul a c ≠ 1) → d + 18 < k →
    fountainref1_Inv.l0 k (a : Int) (b : Int) = some ((iv a : Nat) : Int) := by
  induction d with
  | zero =>
    intro a b k ha h1 hb hno hk
    obtain ⟨k, rfl⟩ : ∃ m, k = m + 1 := ⟨k - 1, by omega⟩
    simp only [fountainref1_Inv.l0]; rw [if_neg (by omega)]
    have h0 : a = 0 := by
      apply Classical.byContradiction
      intro h0
      have hi := iv_lt a
      have hn := iv_ne ha h0
      exact hno (iv a) (by omega) (by omega) (mul_iv ha h0)
    subst h0
    rw [iv_zero]; rfl
  | succ d ih =>
    intro a b k ha h1 hb hno hk
    obtain ⟨k, rfl⟩ : ∃ m, k = m + 1 := ⟨k - 1, by omega⟩
    simp only [fountainref1_Inv.l0]
    rw [if_pos (by omega), show ((b : Int) % 256) = (b : Int) from by omega, rtimes_at ha (by omega) k (by omega)]
    simp only [Option.bind_some]
    by_cases h : mul a b = 1
    · rw [if_pos (by omega), iv_unique ha (by omega) h]
    · rw [if_neg (by omega), w64 (by omega) (by omega), show (b : Int) + 1 = ((b + 1 : Nat) : Int) from by omega]
      refine ih a (b + 1) k ha (by omega) (by omega) ?_ (by omega)
      intro c hc1 hc2
      by_cases hcb : c = b
      · subst hcb; exact h
      · exact hno c hc1 (by omega)
theorem rinv_ev {a : Nat} (ha : a < 256) : Ev (fun k => fountainref1_Inv.f k (a : Int)) ((iv a : Nat) : Int) := by
  refine ⟨300, fun k hk => ?_⟩
  unfold fountainref1_Inv.f
  exact rinv_l0 255 a 1 k ha (by omega) (by omega) (fun c h1 h2 => by omega) (by omega)
theorem rcut_eq (n : Int) : fountainref1_Cut.f n 0 1000 = some ((cutN n : Nat) : Int) := by
  unfold fountainref1_Cut.f cutN
  by_cases h1 : n < 0
  · rw [if_pos h1]; congr 1; omega
  · rw [if_neg h1]
    by_cases h2 : n > 1000
    · rw [if_pos h2]; congr 1; omega
    · rw [if_neg h2]; congr 1; omega
theorem rat_lt {r : List F} {i : Nat} {x : F} (h : r[i]? = some x) : fountainref1_at.f (tl r) (i : Int) = some (ti x) := by
  unfold fountainref1_at.f
  have := (List.getElem?_eq_some_iff.1 h).1
  rw [if_pos (by rw [tl_length]; omega), if_pos (by omega), rd_tl h]
theorem rat_ge {r : List F} {i : Nat} (h : r.length ≤ i) : fountainref1_at.f (tl r) (i : Int) = some 0 := by
  unfold fountainref1_at.f
  rw [if_neg (by rw [tl_length]; omega)]
theorem xorF (a b : F) : Go.bits .xor .u8 (ti a) (ti b) = ti (a ^^^ b) := by
  unfold ti; rw [u8_xor_nat _ _ (toNat_lt a) (toNat_lt b), fx_toNat]
theorem rsum_l1 (L : List (List F)) (row : List F) (i : Nat) (hi : i < L.length) (hi2 : i < 2 ^ 60) (hrow : rd_L1 (tll L) (i : Int) = tl row) (R : List Int) (a : List F) : ∀ (pre rpre r : List F), row = rpre ++ r → (rpre.length = pre.length ∨ (r = [] ∧ rpre.length ≤ pre.length)) → pre.length + a.length < 2 ^ 60 →
    Ev (fun k => fountainref1_Sum.l0 k (tll L) (tl (pre ++ addTo a r)) ((i + 1 : Nat) : Int)) R →
    Ev (fun k => fountainref1_Sum.l1 k (tll L) (tl (pre ++ a)) (i : Int) (pre.length : Int)) R := by
  induction a with
  | nil =>
    intro pre rpre r hr h1 h2 hR
    refine Ev.step (fun k => by simp only [fountainref1_Sum.l1]; rfl) ?_
    refine ev_neg (by rw [tl_length, List.append_nil]; omega) ?_
    rw [w64 (i := (i : Int) + 1) (by omega) (by omega), show (i : Int) + 1 = ((i + 1 : Nat) : Int) from by omega]
    cases r <;> exact hR
  | cons x a ih =>
    intro pre rpre r hr h1 h2 hR
    simp only [List.length_cons] at h2
    refine Ev.step (fun k => by simp only [fountainref1_Sum.l1]; rfl) ?_
    refine ev_pos (by rw [tl_length, List.length_append, List.length_cons]; omega) (ev_pos (by omega) (ev_pos (by omega) (ev_pos (by rw [tll_length]; omega) ?_)))
    rw [hrow, rd_mid, Int.toNat_natCast, w64 (i := (pre.length : Int) + 1) (by omega) (by omega), show (pre.length : Int) + 1 = ((pre.length + 1 : Nat) : Int) from by omega]
    cases r with
    | nil =>
      have hge : row.length ≤ pre.length := by rw [hr, List.append_nil]; omega
      refine ev_val (rat_ge hge) ?_
      have e := xorF x 0
      have e0 : ti 0 = 0 := rfl
      rw [e0, fx_zero] at e
      rw [e, set_mid]
      have := ih (pre ++ [x]) rpre [] hr (.inr ⟨rfl, by rw [List.length_append]; omega⟩) (by rw [List.length_append, List.length_singleton]; omega) (by cases a <;> (rw [List.append_assoc]; exact hR))
      rw [List.length_append, List.length_singleton, List.append_assoc] at this
      exact this
    | cons y r =>
      have hl : rpre.length = pre.length := by rcases h1 with h | ⟨h, _⟩; exact h; cases h
      have hy : row[pre.length]? = some y := by rw [hr, ← hl, List.getElem?_append_right (Nat.le_refl _), Nat.sub_self]; rfl
      refine ev_val (rat_lt hy) ?_
      rw [xorF, set_mid]
      have := ih (pre ++ [x ^^^ y]) (rpre ++ [y]) r (by rw [hr, List.append_assoc]; rfl) (.inl (by simp [hl])) (by rw [List.length_append, List.length_singleton]; omega) (by rw [List.append_assoc]; exact hR)
      rw [List.length_append, List.length_singleton, List.append_assoc] at this
      exact this
theorem rsum_l0 (L : List (List F)) (hL : L.length < 2 ^ 50) (t : List (List F)) : ∀ (i : Nat) (acc : List F), L.drop i = t → acc.length < 2 ^ 50 →
    Ev (fun k => fountainref1_Sum.l0 k (tll L) (tl acc) (i : Int)) (tl (t.foldl addTo acc)) := by
  induction t with
  | nil =>
    intro i acc hd ha
    refine Ev.step (fun k => by simp only [fountainref1_Sum.l0]; rfl) ?_
    have : L.length ≤ i := by have := congrArg List.length hd; simp at this; omega
    exact ev_neg (by rw [tll_length]; omega) (Ev.now _)
  | cons r t ih =>
    intro i acc hd ha
    obtain ⟨h1, h2, h3⟩ := rd_row hd
    refine Ev.step (fun k => by simp only [fountainref1_Sum.l0]; rfl) ?_
    refine ev_pos (by rw [tll_length]; omega) ?_
    have := rsum_l1 L r i h2 (by omega) h1 _ acc [] [] r rfl (.inl rfl) (by simp only [List.length_nil]; omega) (ih (i + 1) (addTo acc r) h3 (by rw [addTo_length]; exact ha))
    exact this
theorem rsum_ev (n : Int) (L : List (List F)) (hL : L.length < 2 ^ 50) : Ev (fun k => fountainref1_Sum.f k n (tll L)) (tl (sumR (cutN n) L)) := by
  unfold fountainref1_Sum.f
  have hc := cutN_le n
  refine ev_val (rcut_eq n) (ev_pos (by omega) (ev_pos (by rw [Int.toNat_natCast]; omega) ?_))
  rw [Int.toNat_natCast, ← tl_replicate]
  exact rsum_l0 L hL L 0 _ rfl (by rw [List.length_replicate]; omega)
theorem rtimesF_ev (a b : F) : Ev (fun k => fountainref1_Times.f k (ti a) (ti b)) (ti (fm a b)) := by
  have h := rtimes_ev (toNat_lt a) (toNat_lt b)
  unfold ti; rw [fm_toNat]; exact h
theorem rscale_l0 (c : F) (l : List F) (hl : l.length < 2 ^ 40) (t : List F) : ∀ (pre : List F), l = pre ++ t →
    Ev (fun k => fountainref1_Scale.l0 k (ti c) (tl l) (tl (scaleR c pre)) (pre.length : Int)) (tl (scaleR c l)) := by
  induction t with
  | nil =>
    intro pre hp
    refine Ev.step (fun k => by simp only [fountainref1_Scale.l0]; rfl) ?_
    subst hp
    rw [List.append_nil]
    exact ev_neg (by rw [tl_length]; omega) (Ev.now _)
  | cons x t ih =>
    intro pre hp
    have hlen : l.length = pre.length + (t.length + 1) := by rw [hp]; simp
    have e1 : rd (tl l) (pre.length : Int) = ti x := by rw [hp]; exact rd_mid pre t x
    refine Ev.step (fun k => by simp only [fountainref1_Scale.l0]; rfl) ?_
    refine ev_pos (by rw [tl_length]; omega) (ev_pos (by omega) ?_)
    rw [e1]
    refine Ev.bind (rtimesF_ev c x) (ev_pos (by rw [tl_length, scaleR_length]; omega) ?_)
    rw [w64 (i := (pre.length : Int) + 1) (by omega) (by omega), show (pre.length : Int) + 1 = ((pre.length + 1 : Nat) : Int) from by omega]
    have := ih (pre ++ [x]) (by rw [hp, List.append_assoc]; rfl)
    rw [List.length_append, List.length_singleton] at this
    have e4 : tl (scaleR c pre) ++ [ti (fm c x)] = tl (scaleR c (pre ++ [x])) := by unfold scaleR tl; simp
    rw [e4]
    exact this
theorem rscale_ev (c : F) (l : List F) (hl : l.length < 2 ^ 40) : Ev (fun k => fountainref1_Scale.f k (ti c) (tl l)) (tl (scaleR c l)) := by
  unfold fountainref1_Scale.f
  exact rscale_l0 c l hl l [] rfl
end Go.Proofs.Ytbfhinfblepidaa.FSolveTells
namespace Go.Proofs.Ytbfhinfblepidaa.FSeedTells
open Go.RowKit Go.Proofs.Ytbfhinfblepidaa.PSolveTells Go.Proofs.Ytbfhinfblepidaa.PSeedTells Go.Proofs.YtbfhinfblepidaaW.PrintWords Go.Proofs.YtbfhinfblepidaaW.PrintLast Go.Proofs.YtbfhinfblepidaaW.PrintMore Go.Proofs.Ytbfhinfblepidaa.Gf Go.Proofs.Ytbfhinfblepidaa.Rw Go.Proofs.Ytbfhinfblepidaa.FSolveTells Go.Proofs.Ytbfhinfblepidaa.Pc Go.Proofs.Ytbfhinfblepidaa.Pz
def m255 (n : Int) : Nat := (n % 255).toNat
theorem m255_small {n : Nat} (h : n < 255) : m255 (n : Int) = n := by unfold m255; omega
theorem tmod_255 (n : Int) : (Int.tmod n 255 < 0 ∧ Int.tmod n 255 + 255 = (m255 n : Int)) ∨ (0 ≤ Int.tmod n 255 ∧ Int.tmod n 255 = (m255 n : Int)) := by
  unfold m255
  have h1 := Int.tmod_add_mul_tdiv n 255
  have h2 := Int.tmod_lt_of_pos n (b := 255) (by decide)
  have h3 : -255 < Int.tmod n 255 := Int.lt_tmod_of_pos n (by decide)
  omega
theorem Power_arg (n : Int) : Int.tmod (wrap64 (Int.tmod n 255 + 255)) 255 = (m255 n : Int) := by
  have h2 := Int.tmod_lt_of_pos n (b := 255) (by decide)
  have h3 : -255 < Int.tmod n 255 := Int.lt_tmod_of_pos n (by decide)
  have hm : m255 n < 255 := by unfold m255; omega
  rw [w64 (by omega) (by omega), Int.tmod_eq_emod_of_nonneg (by omega)]
  rcases tmod_255 n with ⟨h, e⟩ | ⟨h, e⟩ <;> omega
theorem Power_ev (n : Int) : Ev (fun k => field_Power.f k n) ((pw 2 (m255 n) : Nat) : Int) := by
  unfold field_Power.f
  rw [Power_arg]
  have hm : m255 n < 255 := by unfold m255; omega
  exact Ev.bind (power_ev (a := 2) (by decide) (by omega)) (Ev.now _)
theorem of_ok {k : Nat} (h1 : 1 ≤ k) (h2 : k ≤ 40) : params_Of.f (k : Int) = some ((k : Int), ((kS k : Nat) : Int), 2, 0) := by
  unfold params_Of.f
  rw [if_neg (by omega), if_neg (by omega)]
  have h8 : Int.tdiv (k : Int) 8 = ((k / 8 : Nat) : Int) := (Int.ofNat_tdiv k 8).symm
  rw [h8, w64 (i := ((k / 8 : Nat) : Int)) (by omega) (by omega), w64 (by omega) (by omega)]
  unfold kS
  rw [show (2 : Int) + ((k / 8 : Nat) : Int) = ((2 + k / 8 : Nat) : Int) from by omega]
theorem of_no {a : Int} (h : a < 1 ∨ 40 < a) : params_Of.f a = some (0, 0, 0, 1) := by
  unfold params_Of.f
  by_cases h1 : a < 1
  · rw [if_pos h1]
  · rw [if_neg h1, if_pos (by omega)]
theorem right_ok {k : Nat} (h1 : 1 ≤ k) (h2 : k ≤ 40) : params_Params_Right.f (k : Int) ((kS k : Nat) : Int) 2 = some true := by
  unfold params_Params_Right.f
  rw [of_ok h1 h2]
  simp
theorem kS_le {k : Nat} (h2 : k ≤ 40) : kS k ≤ 7 := by unfold kS; omega
theorem kS_pos (k : Nat) : 2 ≤ kS k := by unfold kS; omega
theorem w_ok {k : Nat} (h2 : k ≤ 40) : params_Params_W.f (k : Int) ((kS k : Nat) : Int) 2 = some ((kW k : Nat) : Int) := by
  unfold params_Params_W.f kW
  have := kS_le h2
  rw [w64 (by omega) (by omega), Int.natCast_add]
theorem l_ok {k : Nat} (h2 : k ≤ 40) : params_Params_L.f (k : Int) ((kS k : Nat) : Int) 2 = some ((kL k : Nat) : Int) := by
  unfold params_Params_L.f
  have := kS_le h2
  rw [w_ok h2, Option.bind_some, w64 (by unfold kW; omega) (by unfold kW; omega)]
  unfold kL
  rw [Int.natCast_add]; rfl
theorem tmod_nat (a b : Nat) : Int.tmod (a : Int) (b : Int) = ((a % b : Nat) : Int) := (Int.ofNat_tmod a b).symm
theorem tmod_two (a : Nat) : Int.tmod (a : Int) 2 = ((a % 2 : Nat) : Int) := tmod_nat a 2
theorem tdiv_nat (a b : Nat) : Int.tdiv (a : Int) (b : Int) = ((a / b : Nat) : Int) := (Int.ofNat_tdiv a b).symm
theorem low_step (k i c : Nat) (A B : List Int) (hA : A = (List.range c).map (lowVal k i)) :
    (A ++ 0 :: B).set c (1 : Int) = A ++ 1 :: B := by
  have hl : A.length = c := by rw [hA]; simp
  have := grow_set A B 0 1
  rw [hl] at this; exact this
theorem low_next (k i c : Nat) : (List.range (c + 1)).map (lowVal k i) = (List.range c).map (lowVal k i) ++ [lowVal k i c] := by
  rw [List.range_succ, List.map_append]; rfl
theorem low_l1 {k : Nat} (h1 : 1 ≤ k) (h2 : k ≤ 40) (x3 : List (List Int)) (hx : x3.length < 100) (i : Nat) (hi : i < kS k) (R : List (List Int)) (x11 : Int)
    (hR : Ev (fun q => precode_Low.l0 q (x3 ++ [lowRow k i]) x11 ((i + 1 : Nat) : Int) (k : Int) ((kS k : Nat) : Int) 2) R) (d : Nat) : ∀ c, c + d = k →
    Ev (fun q => precode_Low.l1 q x3 (i : Int) (((List.range c).map (lowVal k i)) ++ List.replicate (d + (kS k + 2)) 0) x11 (i : Int) (k : Int) (c : Int) (k : Int) ((kS k : Nat) : Int) 2) R := by
  have hs := kS_le h2
  have hs2 := kS_pos k
  induction d with
  | zero =>
    intro c hc
    obtain rfl : c = k := by omega
    refine Ev.step (fun q => by simp only [precode_Low.l1]; rfl) ?_
    refine ev_neg (by omega) ?_
    rw [w64 (i := (c : Int) + (i : Int)) (by omega) (by omega), show (c : Int) + (i : Int) = ((c + i : Nat) : Int) from by omega]
    have hlen : (((List.range c).map (lowVal c i)) ++ List.replicate (0 + (kS c + 2)) 0).length = kL c := by simp [kL, kW]; omega
    refine ev_pos (by omega) (ev_pos (by rw [hlen]; unfold kL kW; omega) ?_)
    refine ev_val (w_ok h2) ?_
    refine ev_neg (by omega) ?_
    rw [tmod_two i, w64 (i := ((kW c : Nat) : Int) + ((i % 2 : Nat) : Int)) (by omega) (by unfold kW; omega), show ((kW c : Nat) : Int) + ((i % 2 : Nat) : Int) = ((kW c + i % 2 : Nat) : Int) from by omega]
    refine ev_pos (by omega) (ev_pos (by rw [hlen]; unfold kL; omega) (ev_pos (by omega) ?_))
    rw [w64 (i := (i : Int) + 1) (by omega) (by omega), Int.toNat_natCast, Int.toNat_natCast, Nat.zero_add, show (i : Int) + 1 = ((i + 1 : Nat) : Int) from by omega]
    exact hR
  | succ d ih =>
    intro c hc
    refine Ev.step (fun q => by simp only [precode_Low.l1]; rfl) ?_
    refine ev_pos (by omega) (ev_neg (by omega) ?_)
    obtain ⟨q, hq0⟩ : ∃ q, c / kS k = q := ⟨_, rfl⟩
    have hq : q ≤ c := hq0 ▸ Nat.div_le_self _ _
    rw [tmod_nat, tdiv_nat, hq0, w64 (i := (q : Int)) (by omega) (by omega), w64 (i := (q : Int) + (c : Int)) (by omega) (by omega), w64 (i := (q : Int) + (c : Int) + 1) (by omega) (by omega),
      show (q : Int) + (c : Int) + 1 = ((q + c + 1 : Nat) : Int) from by omega, tmod_nat, w64 (i := (c : Int) + 1) (by omega) (by omega), Int.toNat_natCast, show (c : Int) + 1 = ((c + 1 : Nat) : Int) from by omega]
    have e1 : List.replicate (d + 1 + (kS k + 2)) (0 : Int) = 0 :: List.replicate (d + (kS k + 2)) 0 := by rw [show d + 1 + (kS k + 2) = (d + (kS k + 2)) + 1 from by omega, List.replicate_succ]
    rw [e1, low_step k i c _ _ rfl]
    have hih := ih (c + 1) (by omega)
    rw [low_next, List.append_assoc, List.singleton_append] at hih
    have hlen : (((List.range c).map (lowVal k i)) ++ 0 :: List.replicate (d + (kS k + 2)) (0 : Int)).length = kL k := by simp [kL, kW]; omega
    by_cases b1 : c % kS k = i
    · have hv : lowVal k i c = 1 := by unfold lowVal lowBit; simp [b1]
      rw [hv] at hih
      exact ev_pos (by omega) (ev_pos (by omega) (ev_pos (by rw [hlen]; unfold kL kW; omega) hih))
    · refine ev_neg (by omega) ?_
      by_cases b2 : (q + c + 1) % kS k = i
      · have hv : lowVal k i c = 1 := by unfold lowVal lowBit; rw [hq0]; simp [b2]
        rw [hv] at hih
        exact ev_pos (by omega) (ev_pos (by omega) (ev_pos (by rw [hlen]; unfold kL kW; omega) hih))
      · have hv : lowVal k i c = 0 := by unfold lowVal lowBit; rw [hq0]; simp [b1, b2]
        rw [hv] at hih
        exact ev_neg (by omega) hih
theorem low_l0 {k : Nat} (h1 : 1 ≤ k) (h2 : k ≤ 40) (d : Nat) : ∀ i, i + d = kS k →
    Ev (fun q => precode_Low.l0 q ((List.range i).map (lowRow k)) ((kS k : Nat) : Int) (i : Int) (k : Int) ((kS k : Nat) : Int) 2) (lowRows k) := by
  have hs := kS_le h2
  induction d with
  | zero =>
    intro i hi
    refine Ev.step (fun q => by simp only [precode_Low.l0]; rfl) ?_
    refine ev_neg (by omega) ?_
    obtain rfl : i = kS k := by omega
    exact Ev.now _
  | succ d ih =>
    intro i hi
    refine Ev.step (fun q => by simp only [precode_Low.l0]; rfl) ?_
    refine ev_pos (by omega) ?_
    refine ev_val (l_ok h2) ?_
    refine ev_pos (by omega) (ev_pos (by rw [Int.toNat_natCast]; unfold kL kW; omega) ?_)
    rw [Int.toNat_natCast]
    have hih := ih (i + 1) (by omega)
    have e : (List.range (i + 1)).map (lowRow k) = (List.range i).map (lowRow k) ++ [lowRow k i] := by rw [List.range_succ, List.map_append]; rfl
    rw [e] at hih
    have := low_l1 h1 h2 ((List.range i).map (lowRow k)) (by simp; omega) i (by omega) _ _ hih k 0 (by omega)
    rw [show kL k = k + (kS k + 2) from by unfold kL kW; omega]
    exact this
theorem low_ev {k : Nat} (h1 : 1 ≤ k) (h2 : k ≤ 40) : Ev (fun q => precode_Low.f q (k : Int) ((kS k : Nat) : Int) 2) (lowRows k) := by
  unfold precode_Low.f
  refine ev_val (right_ok h1 h2) (ev_pos rfl ?_)
  exact low_l0 h1 h2 (kS k) 0 (by omega)
theorem rand_ok (y i : Int) {m : Nat} (h : 0 < m) (hm : m < 2 ^ 40) : random_Rand.f y i (m : Int) = some ((rnd y i m : Nat) : Int) := by
  unfold random_Rand.f
  rw [if_neg (by omega)]
  have e : ∀ x, random_Stir.f x = some (stir x) := fun x => rfl
  simp only [e, Option.bind_some]
  have h1 := stir_range ((stir y + (i * 2654435769) % 4294967296) % 4294967296)
  rw [if_neg (by omega), w64 (by omega) (by omega), Int.tmod_eq_emod_of_nonneg (by omega), rnd_cast y i h]
theorem high_next (h c : Nat) : (List.range (c + 1)).map (highVal h) = (List.range c).map (highVal h) ++ [highVal h c] := by
  rw [List.range_succ, List.map_append]; rfl
theorem high_l1 {k : Nat} (h1 : 1 ≤ k) (h2 : k ≤ 40) (x3 : List (List Int)) (hx : x3.length < 100) (i : Nat) (hi : i < 2) (R : List (List Int)) (x11 : Int)
    (hR : Ev (fun q => precode_High.l0 q (x3 ++ [highRow k i]) x11 ((i + 1 : Nat) : Int) (k : Int) ((kS k : Nat) : Int) 2) R) (d : Nat) : ∀ c, c + d = kW k →
    Ev (fun q => precode_High.l1 q x3 (i : Int) (((List.range c).map (highVal i)) ++ List.replicate (d + 2) 0) x11 (i : Int) ((kW k : Nat) : Int) (c : Int) (k : Int) ((kS k : Nat) : Int) 2) R := by
  have hs := kS_le h2
  have hs2 := kS_pos k
  have hw : kW k ≤ 47 := by unfold kW; omega
  induction d with
  | zero =>
    intro c hc
    obtain rfl : c = kW k := by omega
    refine Ev.step (fun q => by simp only [precode_High.l1]; rfl) ?_
    refine ev_neg (by omega) ?_
    refine ev_val (w_ok h2) ?_
    rw [w64 (i := ((kW k : Nat) : Int) + (i : Int)) (by omega) (by omega), show ((kW k : Nat) : Int) + (i : Int) = ((kW k + i : Nat) : Int) from by omega]
    have hlen : (((List.range (kW k)).map (highVal i)) ++ List.replicate (0 + 2) 0).length = kL k := by simp [kL]
    refine ev_pos (by omega) (ev_pos (by rw [hlen]; unfold kL; omega) (ev_pos (by omega) ?_))
    rw [w64 (i := (i : Int) + 1) (by omega) (by omega), Int.toNat_natCast, Nat.zero_add, show (i : Int) + 1 = ((i + 1 : Nat) : Int) from by omega]
    exact hR
  | succ d ih =>
    intro c hc
    refine Ev.step (fun q => by simp only [precode_High.l1]; rfl) ?_
    refine ev_pos (by omega) ?_
    have er : (c : Int) % 4294967296 = (c : Int) := by omega
    have ei : wrap64 ((i : Int) + 7) % 4294967296 = (i : Int) + 7 := by rw [w64 (by omega) (by omega)]; omega
    have ra := rand_ok (c : Int) ((i : Int) + 7) (m := 255) (by decide) (by decide)
    rw [er, ei]
    refine ev_val ra ?_
    have hr := rnd_lt (c : Int) ((i : Int) + 7) (m := 255) (by decide)
    have hm : m255 ((rnd (c : Int) ((i : Int) + 7) 255 : Nat) : Int) = rnd (c : Int) ((i : Int) + 7) 255 := m255_small hr
    have hp := Power_ev ((rnd (c : Int) ((i : Int) + 7) 255 : Nat) : Int)
    rw [hm] at hp
    refine Ev.bind hp ?_
    have hlen : (((List.range c).map (highVal i)) ++ List.replicate (d + 1 + 2) (0 : Int)).length = kL k := by simp [kL]; omega
    refine ev_pos (by omega) (ev_pos (by rw [hlen]; unfold kL; omega) ?_)
    have hih := ih (c + 1) (by omega)
    rw [high_next, List.append_assoc, List.singleton_append] at hih
    have e1 : List.replicate (d + 1 + 2) (0 : Int) = 0 :: List.replicate (d + 2) 0 := by rw [show d + 1 + 2 = (d + 2) + 1 from by omega, List.replicate_succ]
    have e2 := grow_set ((List.range c).map (highVal i)) (List.replicate (d + 2) 0) 0 (highVal i c)
    rw [List.length_map, List.length_range] at e2
    rw [w64 (i := (c : Int) + 1) (by omega) (by omega), Int.toNat_natCast, show (c : Int) + 1 = ((c + 1 : Nat) : Int) from by omega, e1]
    have e3 : ((pw 2 (rnd (c : Int) ((i : Int) + 7) 255) : Nat) : Int) = highVal i c := by unfold highVal; rfl
    rw [e3, e2]
    exact hih
theorem high_l0 {k : Nat} (h1 : 1 ≤ k) (h2 : k ≤ 40) (d : Nat) : ∀ i, i + d = 2 →
    Ev (fun q => precode_High.l0 q ((List.range i).map (highRow k)) 2 (i : Int) (k : Int) ((kS k : Nat) : Int) 2) (highRows k) := by
  have hs := kS_le h2
  induction d with
  | zero =>
    intro i hi
    refine Ev.step (fun q => by simp only [precode_High.l0]; rfl) ?_
    refine ev_neg (by omega) ?_
    obtain rfl : i = 2 := by omega
    exact Ev.now _
  | succ d ih =>
    intro i hi
    refine Ev.step (fun q => by simp only [precode_High.l0]; rfl) ?_
    refine ev_pos (by omega) ?_
    refine ev_val (l_ok h2) ?_
    refine ev_pos (by omega) (ev_pos (by rw [Int.toNat_natCast]; unfold kL kW; omega) ?_)
    refine ev_val (w_ok h2) ?_
    rw [Int.toNat_natCast]
    have hih := ih (i + 1) (by omega)
    have e : (List.range (i + 1)).map (highRow k) = (List.range i).map (highRow k) ++ [highRow k i] := by rw [List.range_succ, List.map_append]; rfl
    rw [e] at hih
    have := high_l1 h1 h2 ((List.range i).map (highRow k)) (by simp; omega) i (by omega) _ _ hih (kW k) 0 (by omega)
    exact this
theorem high_ev {k : Nat} (h1 : 1 ≤ k) (h2 : k ≤ 40) : Ev (fun q => precode_High.f q (k : Int) ((kS k : Nat) : Int) 2) (highRows k) := by
  unfold precode_High.f
  refine ev_val (right_ok h1 h2) (ev_pos rfl ?_)
  exact high_l0 h1 h2 2 0 (by omega)
theorem rand_two (y i : Int) : random_Rand.f y i 2 = some ((rnd y i 2 : Nat) : Int) := rand_ok y i (m := 2) (by decide) (by decide)
theorem degree_l0 (L : List Int) (hL : L.length < 2 ^ 30) (v : Int) (t : List Int) : ∀ (i n : Nat), L.drop i = t → n + t.length < 2 ^ 40 →
    Ev (fun k => random_Degree.l0 k v (n : Int) L (L.length : Int) (i : Int)) ((n + (t.filter fun s => decide (s ≤ v)).length : Nat) : Int) := by
  induction t with
  | nil =>
    intro i n hd hn
    refine Ev.step (fun k => by simp only [random_Degree.l0]; rfl) ?_
    have : L.length ≤ i := by have := congrArg List.length hd; simp at this; omega
    exact ev_neg (by omega) (Ev.now _)
  | cons x t ih =>
    intro i n hd hn
    obtain ⟨h1, h2, h3⟩ := rd_drop hd
    refine Ev.step (fun k => by simp only [random_Degree.l0]; rfl) ?_
    refine ev_pos (by omega) (ev_pos (by omega) (ev_pos (by omega) ?_))
    rw [h1, w64 (i := (i : Int) + 1) (by omega) (by omega), show (i : Int) + 1 = ((i + 1 : Nat) : Int) from by omega]
    simp only [List.length_cons] at hn
    by_cases hx : x ≤ v
    · refine ev_pos hx ?_
      rw [w64 (i := (n : Int) + 1) (by omega) (by omega), show (n : Int) + 1 = ((n + 1 : Nat) : Int) from by omega]
      have := ih (i + 1) (n + 1) h3 (by omega)
      rw [List.filter_cons, if_pos (by simpa using hx), List.length_cons, show n + ((t.filter fun s => decide (s ≤ v)).length + 1) = n + 1 + (t.filter fun s => decide (s ≤ v)).length from by omega]
      exact this
    · refine ev_neg hx ?_
      have := ih (i + 1) n h3 (by omega)
      rw [List.filter_cons, if_neg (by simpa using hx)]
      exact this
theorem degree_ev {v : Nat} (hv : v < 1048576) : Ev (fun k => random_Degree.f k (v : Int)) ((deg v : Nat) : Int) := by
  unfold random_Degree.f
  have hs : random_steps.f = some stepsL := rfl
  refine ev_val hs ?_
  have hm : mx 0 (mn (v : Int) 1048575) = (v : Int) := by unfold mx mn; split <;> split <;> omega
  rw [hm]
  exact degree_l0 stepsL (by decide) (v : Int) stepsL 0 1 rfl (by decide)
def iN (l : List Nat) : List Int := l.map fun x : Nat => (x : Int)
theorem iN_snoc (l : List Nat) (x : Nat) : iN l ++ [(x : Int)] = iN (l ++ [x]) := by unfold iN; rw [List.map_append]; rfl
theorem iN_length (l : List Nat) : (iN l).length = l.length := by unfold iN; rw [List.length_map]
theorem rdOf_nat (met : List Bool) (i : Nat) : rdOf false met (i : Int) = met.getD i false := by unfold rdOf; rw [Int.toNat_natCast]
theorem y_ok {j esi : Nat} (hj : j ≤ 255) (he : esi < 16777216) : (wrap64 ((wrap64 ((j : Int) * 65537)) + (wrap64 ((esi : Int) * 31)))) % 4294967296 = yOf j esi := by
  rw [w64 (i := (j : Int) * 65537) (by omega) (by omega), w64 (i := (esi : Int) * 31) (by omega) (by omega), w64 (by omega) (by omega)]
  unfold yOf; omega
theorem step_small {i a : Nat} (hi : i ≤ 50) (ha : a ≤ 50) : i * a ≤ 2500 := Nat.mul_le_mul hi ha
theorem at_ok {w a b i : Nat} (ha : a ≤ 50) (hb : b ≤ 50) (hi : i ≤ 50) : Int.tmod (wrap64 ((b : Int) + (wrap64 ((i : Int) * (a : Int))))) (w : Int) = (((b + i * a) % w : Nat) : Int) := by
  have := step_small hi ha
  have e : (i : Int) * (a : Int) = ((i * a : Nat) : Int) := by rw [Int.natCast_mul]
  rw [e]
  obtain ⟨m, hm⟩ : ∃ m, i * a = m := ⟨_, rfl⟩
  rw [hm] at this ⊢
  rw [w64 (i := (m : Int)) (by omega) (by omega), w64 (by omega) (by omega), show (b : Int) + (m : Int) = ((b + m : Nat) : Int) from by omega]
  exact (Int.ofNat_tmod _ _).symm
theorem next_ok {w at_ : Nat} (ha : at_ < w) (hw : w ≤ 50) : Int.tmod (wrap64 ((at_ : Int) + 1)) (w : Int) = (((at_ + 1) % w : Nat) : Int) := by
  rw [w64 (by omega) (by omega), show (at_ : Int) + 1 = ((at_ + 1 : Nat) : Int) from by omega]
  exact (Int.ofNat_tmod _ _).symm
theorem parts_l1 (w : Nat) (hw : w ≤ 50) (y : Int) (a b : Nat) (met : List Bool) (hm : met.length = w) (out : List Nat) (ho : out.length < 100) (d i : Nat) (hi : i < 100) (K S H : Int) (R : List Int) (n : Nat) : ∀ at_, at_ < w →
    met.getD (seek n met w at_) false = false →
    Ev (fun k => tuple_Parts.l0 k (w : Int) y (a : Int) (b : Int) (met.set (seek n met w at_) true) (iN (out ++ [seek n met w at_])) (d : Int) ((i + 1 : Nat) : Int) K S H) R →
    Ev (fun k => tuple_Parts.l1 k (w : Int) y (a : Int) (b : Int) met (iN out) (at_ : Int) (d : Int) (i : Int) K S H) R := by
  have fin : ∀ at_, at_ < w → met.getD at_ false = false →
      Ev (fun k => tuple_Parts.l0 k (w : Int) y (a : Int) (b : Int) (met.set at_ true) (iN (out ++ [at_])) (d : Int) ((i + 1 : Nat) : Int) K S H) R →
      Ev (fun k => tuple_Parts.l1 k (w : Int) y (a : Int) (b : Int) met (iN out) (at_ : Int) (d : Int) (i : Int) K S H) R := by
    intro at_ ha hf hR
    refine Ev.step (fun k => by simp only [tuple_Parts.l1]; rfl) ?_
    refine ev_pos (by omega) (ev_pos (by omega) ?_)
    refine ev_neg (by rw [rdOf_nat, hf]; decide) (ev_pos (by rw [iN_length]; omega) ?_)
    rw [iN_snoc, Int.toNat_natCast, w64 (i := (i : Int) + 1) (by omega) (by omega), show (i : Int) + 1 = ((i + 1 : Nat) : Int) from by omega]
    exact hR
  induction n with
  | zero => intro at_ ha hf hR; exact fin at_ ha hf hR
  | succ n ih =>
    intro at_ ha hf hR
    by_cases hb : met.getD at_ false = true
    · have hs : seek (n + 1) met w at_ = seek n met w ((at_ + 1) % w) := by simp only [seek]; rw [if_pos hb]
      rw [hs] at hf hR
      refine Ev.step (fun k => by simp only [tuple_Parts.l1]; rfl) ?_
      refine ev_pos (by omega) (ev_pos (by omega) (ev_pos (by rw [rdOf_nat]; exact hb) (ev_neg (by omega) ?_)))
      rw [next_ok ha hw]
      exact ih _ (Nat.mod_lt _ (by omega)) hf hR
    · have hs : seek (n + 1) met w at_ = at_ := by simp only [seek]; rw [if_neg hb]
      rw [hs] at hf hR
      exact fin at_ ha hf hR
theorem parts_l0 (w : Nat) (h0 : 0 < w) (hw : w ≤ 50) (y : Int) (a b : Nat) (ha : a ≤ 50) (hb : b ≤ 50) (d : Nat) (hd : d ≤ w) (K S : Int) (n : Nat) : ∀ (i : Nat) (met : List Bool) (out : List Nat), i + n = d → met.length = w → met.count true ≤ i → out.length = i →
    Ev (fun k => tuple_Parts.l0 k (w : Int) y (a : Int) (b : Int) met (iN out) (d : Int) (i : Int) K S 2) (iN (pl w a b n i met out ++ [w + rnd y 3 2])) := by
  induction n with
  | zero =>
    intro i met out hi hm hc ho
    refine Ev.step (fun k => by simp only [tuple_Parts.l0]; rfl) ?_
    refine ev_neg (by omega) ?_
    refine ev_val (rand_two y 3) ?_
    refine ev_pos (by rw [iN_length]; omega) ?_
    have hr := rnd_lt y 3 (m := 2) (by decide)
    simp only [pl]
    obtain ⟨r, hr0⟩ : ∃ r, rnd y 3 2 = r := ⟨_, rfl⟩
    rw [hr0] at hr ⊢
    rw [w64 (by omega) (by omega), show (w : Int) + (r : Int) = ((w + r : Nat) : Int) from by omega, iN_snoc]
    exact Ev.now _
  | succ n ih =>
    intro i met out hi hm hc ho
    refine Ev.step (fun k => by simp only [tuple_Parts.l0]; rfl) ?_
    refine ev_pos (by omega) (ev_neg (by omega) ?_)
    rw [at_ok ha hb (by omega)]
    have hat : (b + i * a) % w < w := Nat.mod_lt _ h0
    have hs := seek_lt w met w ((b + i * a) % w) hat
    have hf : met.getD (seek w met w ((b + i * a) % w)) false = false := by
      have := seek_free met ((b + i * a) % w) (by omega) (by omega)
      rw [hm] at this; exact this
    refine parts_l1 w hw y a b met hm out (by omega) d i (by omega) K S 2 _ w _ hat hf ?_
    have hcs := count_set_le met (seek w met w ((b + i * a) % w)) (by omega)
    simp only [pl]
    exact ih (i + 1) _ _ (by omega) (by rw [List.length_set]; exact hm) (by omega) (by rw [List.length_append, List.length_singleton]; omega)
theorem parts_ev {k j esi : Nat} (h1 : 1 ≤ k) (h2 : k ≤ 40) (hj : j ≤ 255) (he : esi < 16777216) : Ev (fun q => tuple_Parts.f q (k : Int) ((kS k : Nat) : Int) 2 (j : Int) (esi : Int)) (iN (parts k j esi)) := by
  have hs := kS_le h2
  have hs2 := kS_pos k
  have hw : kW k ≤ 47 := by unfold kW; omega
  have hw3 : 3 ≤ kW k := by unfold kW; omega
  unfold tuple_Parts.f
  refine ev_val (right_ok h1 h2) (ev_pos rfl ?_)
  refine ev_neg (by omega) (ev_neg (by omega) (ev_neg (by omega) ?_))
  refine Ev.step (fun q => by simp only [tuple_Parts.j0]; rfl) ?_
  refine ev_neg (by rw [decide_eq_true_eq]; omega) ?_
  refine ev_val (w_ok h2) ?_
  rw [y_ok hj he]
  have r0 := rand_ok (yOf j esi) 0 (m := 1048576) (by decide) (by decide)
  refine ev_val r0 ?_
  refine Ev.bind (degree_ev (rnd_lt (yOf j esi) 0 (m := 1048576) (by decide))) ?_
  refine ev_val (rand_ok (yOf j esi) 2 (m := kW k) (by omega) (by omega)) ?_
  refine ev_pos (by omega) ?_
  rw [w64 (i := ((kW k : Nat) : Int) - 1) (by omega) (by omega), show ((kW k : Nat) : Int) - 1 = ((kW k - 1 : Nat) : Int) from by omega]
  refine ev_val (rand_ok (yOf j esi) 1 (m := kW k - 1) (by omega) (by omega)) ?_
  have ha := rnd_lt (yOf j esi) 1 (m := kW k - 1) (by omega)
  have hb := rnd_lt (yOf j esi) 2 (m := kW k) (by omega)
  have hd := deg_le (rnd (yOf j esi) 0 1048576)
  have hd1 := deg_pos (rnd (yOf j esi) 0 1048576)
  unfold parts dOf aOf bOf
  obtain ⟨ra, ea⟩ : ∃ r, rnd (yOf j esi) 1 (kW k - 1) = r := ⟨_, rfl⟩
  obtain ⟨rb, eb⟩ : ∃ r, rnd (yOf j esi) 2 (kW k) = r := ⟨_, rfl⟩
  obtain ⟨dd, ed⟩ : ∃ r, deg (rnd (yOf j esi) 0 1048576) = r := ⟨_, rfl⟩
  rw [ea] at ha ⊢
  rw [eb] at hb ⊢
  rw [ed] at hd hd1 ⊢
  refine Ev.step (fun q => by simp only [tuple_Parts.j1]; rfl) ?_
  refine ev_pos (by omega) (ev_pos (by rw [Int.toNat_natCast]; omega) ?_)
  have hmn : mn ((kW k : Nat) : Int) ((dd : Nat) : Int) = ((min (kW k) dd : Nat) : Int) := by unfold mn; split <;> omega
  rw [hmn, w64 (i := (1 : Int) + (ra : Int)) (by omega) (by omega), show (1 : Int) + (ra : Int) = ((1 + ra : Nat) : Int) from by omega, Int.toNat_natCast]
  exact parts_l0 (kW k) (by omega) (by omega) (yOf j esi) (1 + ra) rb (by omega) (by omega) (min (kW k) dd) (Nat.min_le_left _ _) (k : Int) ((kS k : Nat) : Int) (min (kW k) dd) 0 (List.replicate (kW k) false) [] (by omega) (by simp) (by simp [List.count_replicate]) rfl
theorem parts_none {k : Nat} {j esi : Int} (h1 : 1 ≤ k) (h2 : k ≤ 40) (h : j < 0 ∨ 255 < j ∨ esi < 0 ∨ 16777216 ≤ esi) : Ev (fun q => tuple_Parts.f q (k : Int) ((kS k : Nat) : Int) 2 j esi) [] := by
  unfold tuple_Parts.f
  refine ev_val (right_ok h1 h2) (ev_pos rfl ?_)
  have fin : ∀ b : Bool, b = true → Ev (fun q => tuple_Parts.j0 q j esi b (k : Int) ((kS k : Nat) : Int) 2) [] := by
    intro b hb
    refine Ev.step (fun q => by simp only [tuple_Parts.j0]; rfl) ?_
    exact ev_pos hb (Ev.now _)
  by_cases c1 : j < 0
  · exact ev_pos c1 (fin _ rfl)
  refine ev_neg c1 ?_
  by_cases c2 : j > 255
  · exact ev_pos c2 (fin _ rfl)
  refine ev_neg c2 ?_
  by_cases c3 : esi < 0
  · exact ev_pos c3 (fin _ rfl)
  exact ev_neg c3 (fin _ (decide_eq_true (by omega)))
theorem row_l0 (L : List Nat) (hL : L.length < 1000) (t : List Nat) : ∀ (i : Nat) (row : List Int), L.drop i = t → (∀ x ∈ t, x < row.length) →
    Ev (fun k => tuple_Row.l0 k row (iN L) (L.length : Int) (i : Int)) (marks t row) := by
  induction t with
  | nil =>
    intro i row hd _
    refine Ev.step (fun k => by simp only [tuple_Row.l0]; rfl) ?_
    have : L.length ≤ i := by have := congrArg List.length hd; simp at this; omega
    exact ev_neg (by omega) (Ev.now _)
  | cons x t ih =>
    intro i row hd hx
    have hd' : (iN L).drop i = (x : Int) :: iN t := by unfold iN; rw [← List.map_drop, hd]; rfl
    obtain ⟨g1, g2, g3⟩ := rd_drop hd'
    rw [iN_length] at g2
    have hx0 := hx x (by simp)
    refine Ev.step (fun k => by simp only [tuple_Row.l0]; rfl) ?_
    refine ev_pos (by omega) (ev_pos (by omega) (ev_pos (by rw [iN_length]; omega) ?_))
    rw [g1]
    refine ev_pos (by omega) (ev_pos (by omega) ?_)
    rw [Int.toNat_natCast, w64 (i := (i : Int) + 1) (by omega) (by omega), show (i : Int) + 1 = ((i + 1 : Nat) : Int) from by omega]
    have := ih (i + 1) (row.set x 1) (by rw [← List.tail_drop, hd]; rfl) (fun z hz => by rw [List.length_set]; exact hx z (by simp [hz]))
    exact this
theorem row_ev {k j esi : Nat} (h1 : 1 ≤ k) (h2 : k ≤ 40) (hj : j ≤ 255) (he : esi < 16777216) : Ev (fun q => tuple_Row.f q (k : Int) ((kS k : Nat) : Int) 2 (j : Int) (esi : Int)) (partRow k j esi) := by
  have hs := kS_le h2
  unfold tuple_Row.f
  refine Ev.bind (parts_ev h1 h2 hj he) ?_
  have hn := parts_ne k j esi
  have hlen := parts_length k j esi
  have hd := deg_le (rnd (yOf j esi) 0 1048576)
  have hdl : dOf k j esi ≤ 8 := by unfold dOf; omega
  refine ev_neg (by rw [iN_length]; omega) ?_
  refine ev_val (l_ok h2) ?_
  refine ev_pos (by omega) (ev_pos (by rw [Int.toNat_natCast]; unfold kL kW; omega) ?_)
  rw [Int.toNat_natCast, iN_length]
  exact row_l0 (parts k j esi) (by omega) (parts k j esi) 0 (List.replicate (kL k) 0) rfl (fun x hx => by rw [List.length_replicate]; exact parts_lt k j esi x hx)
theorem row_none {k : Nat} {j esi : Int} (h1 : 1 ≤ k) (h2 : k ≤ 40) (h : j < 0 ∨ 255 < j ∨ esi < 0 ∨ 16777216 ≤ esi) : Ev (fun q => tuple_Row.f q (k : Int) ((kS k : Nat) : Int) 2 j esi) [] := by
  unfold tuple_Row.f
  refine Ev.bind (parts_none h1 h2 h) ?_
  exact ev_pos (by simp) (Ev.now _)
def okE (e : Int) : Prop := 0 ≤ e ∧ e < 16777216
instance (e : Int) : Decidable (okE e) := by unfold okE; infer_instance
def esiRows (k : Nat) (j : Int) (t : List Int) : List (List Int) := t.map fun e => partRow k j.toNat e.toNat
def matOf (k : Nat) (j : Int) (esis : List Int) : List (List Int) := if (0 ≤ j ∧ j ≤ 255) ∧ ∀ e ∈ esis, okE e then ties k ++ esiRows k j esis else []
theorem matrix_l0 {k : Nat} (h1 : 1 ≤ k) (h2 : k ≤ 40) (j : Int) (esis : List Int) (hn : esis.length < 2 ^ 42) (t : List Int) : ∀ (i : Nat) (acc : List (List Int)), esis.drop i = t → acc.length + t.length < 2 ^ 42 →
    Ev (fun q => precode_Matrix.l0 q j acc esis (esis.length : Int) (i : Int) (k : Int) ((kS k : Nat) : Int) 2) (if (0 ≤ j ∧ j ≤ 255) ∧ ∀ e ∈ t, okE e then acc ++ esiRows k j t else []) := by
  induction t with
  | nil =>
    intro i acc hd ha
    refine Ev.step (fun q => by simp only [precode_Matrix.l0]; rfl) ?_
    have : esis.length ≤ i := by have := congrArg List.length hd; simp at this; omega
    refine ev_neg (by omega) ?_
    obtain ⟨R, eR⟩ : ∃ R, (if (0 ≤ j ∧ j ≤ 255) ∧ ∀ e ∈ ([] : List Int), okE e then acc ++ esiRows k j [] else []) = R := ⟨_, rfl⟩
    rw [eR]
    by_cases c1 : j < 0
    · rw [if_neg (fun h => by omega)] at eR
      subst eR
      exact ev_pos c1 (Ev.now _)
    refine ev_neg c1 ?_
    by_cases c2 : j > 255
    · rw [if_neg (fun h => by omega)] at eR
      subst eR
      exact ev_pos c2 (Ev.now _)
    rw [if_pos ⟨⟨by omega, by omega⟩, by simp⟩] at eR
    subst eR
    refine ev_neg c2 ?_
    simp only [esiRows, List.map_nil, List.append_nil]
    exact Ev.now _
  | cons x t ih =>
    intro i acc hd ha
    obtain ⟨g1, g2, g3⟩ := rd_drop hd
    simp only [List.length_cons] at ha
    refine Ev.step (fun q => by simp only [precode_Matrix.l0]; rfl) ?_
    refine ev_pos (by omega) (ev_pos (by omega) (ev_pos (by omega) ?_))
    rw [g1]
    by_cases hv : (0 ≤ j ∧ j ≤ 255) ∧ okE x
    · obtain ⟨⟨hj0, hj1⟩, hx0, hx1⟩ := hv
      have hr := row_ev (j := j.toNat) (esi := x.toNat) h1 h2 (by omega) (by omega)
      rw [show ((j.toNat : Nat) : Int) = j from by omega, show ((x.toNat : Nat) : Int) = x from by omega] at hr
      refine Ev.bind hr ?_
      have hlen : (partRow k j.toNat x.toNat).length = kL k := partRow_length _ _ _
      refine ev_neg (by rw [hlen]; unfold kL; omega) (ev_pos (by omega) ?_)
      rw [w64 (i := (i : Int) + 1) (by omega) (by omega), show (i : Int) + 1 = ((i + 1 : Nat) : Int) from by omega]
      have := ih (i + 1) (acc ++ [partRow k j.toNat x.toNat]) g3 (by rw [List.length_append, List.length_singleton]; omega)
      by_cases hall : ∀ e ∈ t, okE e
      · rw [if_pos ⟨⟨hj0, hj1⟩, hall⟩] at this
        rw [if_pos ⟨⟨hj0, hj1⟩, fun e he => (List.mem_cons.1 he).elim (fun h => h ▸ ⟨hx0, hx1⟩) (hall e)⟩]
        simp only [esiRows, List.map_cons] at this ⊢
        rw [List.append_assoc] at this
        exact this
      · rw [if_neg (fun h => hall h.2)] at this
        rw [if_neg (fun h => hall fun e he => h.2 e (List.mem_cons_of_mem _ he))]
        exact this
    · have hbad : j < 0 ∨ 255 < j ∨ x < 0 ∨ 16777216 ≤ x := by unfold okE at hv; omega
      refine Ev.bind (row_none h1 h2 hbad) ?_
      rw [if_neg (fun h => hv ⟨h.1, h.2 x (by simp)⟩)]
      exact ev_pos rfl (Ev.now _)
theorem ties_length {k : Nat} (h2 : k ≤ 40) : (lowRows k).length + (highRows k).length ≤ 9 := by
  have := kS_le h2
  rw [lowRows_length, highRows_length]; omega
theorem matrix_ev {k : Nat} (h1 : 1 ≤ k) (h2 : k ≤ 40) (j : Int) (esis : List Int) (hn : esis.length < 2 ^ 41) : Ev (fun q => precode_Matrix.f q (k : Int) ((kS k : Nat) : Int) 2 j esis) (matOf k j esis) := by
  have ht := ties_length h2
  unfold precode_Matrix.f
  refine Ev.bind (low_ev h1 h2) (Ev.bind (high_ev h1 h2) ?_)
  refine ev_pos (by omega) ?_
  have := matrix_l0 h1 h2 j esis (by omega) esis 0 (lowRows k ++ highRows k) rfl (by rw [List.length_append]; omega)
  exact this
theorem rpower_l0 (d : Nat) : ∀ (m i k : Nat), m < 255 → i + d = m → d + 18 < k →
    fountainref1_Power.l0 k (m : Int) ((pw 2 i : Nat) : Int) (i : Int) = some ((pw 2 m : Nat) : Int) := by
  induction d with
  | zero =>
    intro m i k hm hi hk
    obtain ⟨k, rfl⟩ : ∃ m, k = m + 1 := ⟨k - 1, by omega⟩
    obtain rfl : i = m := by omega
    simp only [fountainref1_Power.l0]; rw [if_neg (by omega)]
  | succ d ih =>
    intro m i k hm hi hk
    obtain ⟨k, rfl⟩ : ∃ m, k = m + 1 := ⟨k - 1, by omega⟩
    simp only [fountainref1_Power.l0]
    have := rtimes_at (pw_lt 2 i) (b := 2) (by decide) k (by omega)
    rw [show ((2 : Nat) : Int) = 2 from rfl] at this
    rw [if_pos (by omega), this]
    simp only [Option.bind_some]
    rw [w64 (by omega) (by omega), show (i : Int) + 1 = ((i + 1 : Nat) : Int) from by omega]
    exact ih m (i + 1) k hm (by omega) (by omega)
theorem rpower_j0 {m k : Nat} (hm : m < 255) (hk : m + 20 ≤ k) : fountainref1_Power.j0 k (m : Int) = some ((pw 2 m : Nat) : Int) := by
  obtain ⟨k, rfl⟩ : ∃ n, k = n + 1 := ⟨k - 1, by omega⟩
  simp only [fountainref1_Power.j0]
  exact rpower_l0 m m 0 k hm (by omega) (by omega)
theorem rPower_ev (n : Int) : Ev (fun k => fountainref1_Power.f k n) ((pw 2 (m255 n) : Nat) : Int) := by
  refine ⟨300, fun k hk => ?_⟩
  have hm : m255 n < 255 := by unfold m255; omega
  unfold fountainref1_Power.f
  show (if n.tmod 255 < 0 then fountainref1_Power.j0 k (wrap64 (n.tmod 255 + 255)) else fountainref1_Power.j0 k (n.tmod 255)) = _
  rcases tmod_255 n with ⟨h, e⟩ | ⟨h, e⟩
  · rw [if_pos h, w64 (by omega) (by omega), e, rpower_j0 hm (by omega)]
  · rw [if_neg (by omega), e, rpower_j0 hm (by omega)]
theorem rrand_ok (y i : Int) {m : Nat} (h : 0 < m) (hm : m < 2 ^ 40) : fountainref1_Rand.f y i (m : Int) = some ((rnd y i m : Nat) : Int) := by
  unfold fountainref1_Rand.f
  rw [if_neg (by omega)]
  have e : ∀ x, fountainref1_Stir.f x = some (stir x) := fun x => rfl
  simp only [e, Option.bind_some]
  have h1 := stir_range ((stir y + (i * 2654435769) % 4294967296) % 4294967296)
  have h2 := Int.emod_lt_of_pos (stir ((stir y + (i * 2654435769) % 4294967296) % 4294967296)) (b := (m : Int)) (by omega)
  have h3 := Int.emod_nonneg (stir ((stir y + (i * 2654435769) % 4294967296) % 4294967296)) (b := (m : Int)) (by omega)
  rw [u64w (i := (m : Int)) (by omega) (by omega), if_neg (by omega), u64w (by omega) (by omega), Int.tmod_eq_emod_of_nonneg (by omega), w64 (by omega) (by omega), rnd_cast y i h]
theorem rrand_two (y i : Int) : fountainref1_Rand.f y i 2 = some ((rnd y i 2 : Nat) : Int) := rrand_ok y i (m := 2) (by decide) (by decide)
theorem rcut_ok {v m : Nat} (h : v ≤ m) : fountainref1_Cut.f (v : Int) 0 (m : Int) = some (v : Int) := by
  unfold fountainref1_Cut.f; rw [if_neg (by omega), if_neg (by omega)]
theorem rdegree_l0 (L : List Int) (hL : L.length < 2 ^ 30) (v : Int) (t : List Int) : ∀ (i n : Nat), L.drop i = t → n + t.length < 2 ^ 40 →
    Ev (fun k => fountainref1_Degree.l0 k v L (n : Int) (i : Int)) ((n + (t.filter fun s => decide (s ≤ v)).length : Nat) : Int) := by
  induction t with
  | nil =>
    intro i n hd hn
    refine Ev.step (fun k => by simp only [fountainref1_Degree.l0]; rfl) ?_
    have : L.length ≤ i := by have := congrArg List.length hd; simp at this; omega
    exact ev_neg (by omega) (Ev.now _)
  | cons x t ih =>
    intro i n hd hn
    obtain ⟨h1, h2, h3⟩ := rd_drop hd
    refine Ev.step (fun k => by simp only [fountainref1_Degree.l0]; rfl) ?_
    refine ev_pos (by omega) (ev_pos (by omega) ?_)
    rw [h1, w64 (i := (i : Int) + 1) (by omega) (by omega), show (i : Int) + 1 = ((i + 1 : Nat) : Int) from by omega]
    simp only [List.length_cons] at hn
    by_cases hx : x ≤ v
    · refine ev_pos hx ?_
      rw [w64 (i := (n : Int) + 1) (by omega) (by omega), show (n : Int) + 1 = ((n + 1 : Nat) : Int) from by omega]
      have := ih (i + 1) (n + 1) h3 (by omega)
      rw [List.filter_cons, if_pos (by simpa using hx), List.length_cons, show n + ((t.filter fun s => decide (s ≤ v)).length + 1) = n + 1 + (t.filter fun s => decide (s ≤ v)).length from by omega]
      exact this
    · refine ev_neg hx ?_
      have := ih (i + 1) n h3 (by omega)
      rw [List.filter_cons, if_neg (by simpa using hx)]
      exact this
theorem rdegree_ev {v : Nat} (hv : v < 1048576) : Ev (fun k => fountainref1_Degree.f k (v : Int)) ((deg v : Nat) : Int) := by
  unfold fountainref1_Degree.f
  have hc : fountainref1_Cut.f (v : Int) 0 1048575 = some (v : Int) := rcut_ok (m := 1048575) (by omega)
  refine ev_val hc ?_
  exact rdegree_l0 stepsL (by decide) (v : Int) stepsL 0 1 rfl (by decide)
theorem rS_ok {k : Nat} (h2 : k ≤ 40) : fountainref1_S.f (k : Int) = some ((kS k : Nat) : Int) := by
  unfold fountainref1_S.f
  have h8 : Int.tdiv (k : Int) 8 = ((k / 8 : Nat) : Int) := (Int.ofNat_tdiv k 8).symm
  rw [h8, w64 (i := ((k / 8 : Nat) : Int)) (by omega) (by omega), w64 (by omega) (by omega)]
  unfold kS
  rw [show (2 : Int) + ((k / 8 : Nat) : Int) = ((2 + k / 8 : Nat) : Int) from by omega]
theorem rW_ok {k : Nat} (h2 : k ≤ 40) : fountainref1_W.f (k : Int) = some ((kW k : Nat) : Int) := by
  unfold fountainref1_W.f kW
  have := kS_le h2
  rw [rS_ok h2, Option.bind_some, w64 (by omega) (by omega), Int.natCast_add]
theorem rL_ok {k : Nat} (h2 : k ≤ 40) : fountainref1_L.f (k : Int) = some ((kL k : Nat) : Int) := by
  unfold fountainref1_L.f
  have := kS_le h2
  rw [rW_ok h2, Option.bind_some, w64 (by unfold kW; omega) (by unfold kW; omega)]
  unfold kL
  rw [Int.natCast_add]; rfl
theorem rparts_l1 (w : Nat) (hw : w ≤ 50) (y : Int) (d a b : Nat) (met : List Bool) (hm : met.length = w) (out : List Nat) (ho : out.length < 100) (i : Nat) (hi : i < 100) (R : List Int) (n : Nat) : ∀ at_, at_ < w →
    met.getD (seek n met w at_) false = false →
    Ev (fun k => fountainref1_Parts.l0 k (w : Int) y (d : Int) (a : Int) (b : Int) (met.set (seek n met w at_) true) (iN (out ++ [seek n met w at_])) ((i + 1 : Nat) : Int)) R →
    Ev (fun k => fountainref1_Parts.l1 k (w : Int) y (d : Int) (a : Int) (b : Int) met (iN out) (i : Int) (at_ : Int)) R := by
  have fin : ∀ at_, at_ < w → met.getD at_ false = false →
      Ev (fun k => fountainref1_Parts.l0 k (w : Int) y (d : Int) (a : Int) (b : Int) (met.set at_ true) (iN (out ++ [at_])) ((i + 1 : Nat) : Int)) R →
      Ev (fun k => fountainref1_Parts.l1 k (w : Int) y (d : Int) (a : Int) (b : Int) met (iN out) (i : Int) (at_ : Int)) R := by
    intro at_ ha hf hR
    refine Ev.step (fun k => by simp only [fountainref1_Parts.l1]; rfl) ?_
    refine ev_pos (by omega) (ev_pos (by omega) ?_)
    refine ev_neg (by rw [rdOf_nat, hf]; decide) (ev_pos (by rw [iN_length]; omega) ?_)
    rw [iN_snoc, Int.toNat_natCast, w64 (i := (i : Int) + 1) (by omega) (by omega), show (i : Int) + 1 = ((i + 1 : Nat) : Int) from by omega]
    exact hR
  induction n with
  | zero => intro at_ ha hf hR; exact fin at_ ha hf hR
  | succ n ih =>
    intro at_ ha hf hR
    by_cases hb : met.getD at_ false = true
    · have hs : seek (n + 1) met w at_ = seek n met w ((at_ + 1) % w) := by simp only [seek]; rw [if_pos hb]
      rw [hs] at hf hR
      refine Ev.step (fun k => by simp only [fountainref1_Parts.l1]; rfl) ?_
      refine ev_pos (by omega) (ev_pos (by omega) (ev_pos (by rw [rdOf_nat]; exact hb) (ev_neg (by omega) ?_)))
      rw [next_ok ha hw]
      exact ih _ (Nat.mod_lt _ (by omega)) hf hR
    · have hs : seek (n + 1) met w at_ = at_ := by simp only [seek]; rw [if_neg hb]
      rw [hs] at hf hR
      exact fin at_ ha hf hR
theorem rparts_l0 (w : Nat) (h0 : 0 < w) (hw : w ≤ 50) (y : Int) (a b : Nat) (ha : a ≤ 50) (hb : b ≤ 50) (d : Nat) (hd : d ≤ w) (n : Nat) : ∀ (i : Nat) (met : List Bool) (out : List Nat), i + n = d → met.length = w → met.count true ≤ i → out.length = i →
    Ev (fun k => fountainref1_Parts.l0 k (w : Int) y (d : Int) (a : Int) (b : Int) met (iN out) (i : Int)) (iN (pl w a b n i met out ++ [w + rnd y 3 2])) := by
  induction n with
  | zero =>
    intro i met out hi hm hc ho
    refine Ev.step (fun k => by simp only [fountainref1_Parts.l0]; rfl) ?_
    refine ev_neg (by omega) ?_
    refine ev_val (rrand_two y 3) ?_
    refine ev_pos (by rw [iN_length]; omega) ?_
    have hr := rnd_lt y 3 (m := 2) (by decide)
    simp only [pl]
    obtain ⟨r, hr0⟩ : ∃ r, rnd y 3 2 = r := ⟨_, rfl⟩
    rw [hr0] at hr ⊢
    rw [w64 (by omega) (by omega), show (w : Int) + (r : Int) = ((w + r : Nat) : Int) from by omega, iN_snoc]
    exact Ev.now _
  | succ n ih =>
    intro i met out hi hm hc ho
    refine Ev.step (fun k => by simp only [fountainref1_Parts.l0]; rfl) ?_
    refine ev_pos (by omega) (ev_neg (by omega) ?_)
    rw [at_ok ha hb (by omega)]
    have hat : (b + i * a) % w < w := Nat.mod_lt _ h0
    have hs := seek_lt w met w ((b + i * a) % w) hat
    have hf : met.getD (seek w met w ((b + i * a) % w)) false = false := by
      have := seek_free met ((b + i * a) % w) (by omega) (by omega)
      rw [hm] at this; exact this
    refine rparts_l1 w hw y d a b met hm out (by omega) i (by omega) _ w _ hat hf ?_
    have hcs := count_set_le met (seek w met w ((b + i * a) % w)) (by omega)
    simp only [pl]
    exact ih (i + 1) _ _ (by omega) (by rw [List.length_set]; exact hm) (by omega) (by rw [List.length_append, List.length_singleton]; omega)
theorem ry_ok {j esi : Nat} (hj : j ≤ 255) (he : esi < 16777216) : (Go.bits .and .u64 (IntKind.u64.wrap (wrap64 ((wrap64 ((j : Int) * 65537)) + (wrap64 ((esi : Int) * 31))))) 4294967295) % 4294967296 = yOf j esi := by
  rw [w64 (i := (j : Int) * 65537) (by omega) (by omega), w64 (i := (esi : Int) * 31) (by omega) (by omega), w64 (by omega) (by omega), u64w (by omega) (by omega)]
  have h := u64_and_nat (j * 65537 + esi * 31) 4294967295 (by omega) (by decide)
  rw [show ((j * 65537 + esi * 31 : Nat) : Int) = (j : Int) * 65537 + (esi : Int) * 31 from by omega, show ((4294967295 : Nat) : Int) = 4294967295 from rfl] at h
  rw [h, nat_mask32]
  unfold yOf; omega
theorem rparts_ev {k j esi : Nat} (h1 : 1 ≤ k) (h2 : k ≤ 40) (hj : j ≤ 255) (he : esi < 16777216) : Ev (fun q => fountainref1_Parts.f q (k : Int) (j : Int) (esi : Int)) (iN (parts k j esi)) := by
  have hs := kS_le h2
  have hs2 := kS_pos k
  have hw : kW k ≤ 47 := by unfold kW; omega
  have hw3 : 3 ≤ kW k := by unfold kW; omega
  unfold fountainref1_Parts.f
  refine ev_neg (by omega) (ev_neg (by omega) (ev_neg (by omega) (ev_neg (by omega) (ev_neg (by omega) ?_))))
  refine Ev.step (fun q => by simp only [fountainref1_Parts.j0]; rfl) ?_
  refine ev_neg (by rw [decide_eq_true_eq]; omega) ?_
  refine ev_val (rW_ok h2) ?_
  rw [ry_ok hj he]
  have r0 := rrand_ok (yOf j esi) 0 (m := 1048576) (by decide) (by decide)
  refine ev_val r0 ?_
  refine Ev.bind (rdegree_ev (rnd_lt (yOf j esi) 0 (m := 1048576) (by decide))) ?_
  have ha := rnd_lt (yOf j esi) 1 (m := kW k - 1) (by omega)
  have hb := rnd_lt (yOf j esi) 2 (m := kW k) (by omega)
  have hd := deg_le (rnd (yOf j esi) 0 1048576)
  have hd1 := deg_pos (rnd (yOf j esi) 0 1048576)
  have r1 := rrand_ok (yOf j esi) 1 (m := kW k - 1) (by omega) (by omega)
  have r2 := rrand_ok (yOf j esi) 2 (m := kW k) (by omega) (by omega)
  unfold parts dOf aOf bOf
  obtain ⟨ra, ea⟩ : ∃ r, rnd (yOf j esi) 1 (kW k - 1) = r := ⟨_, rfl⟩
  obtain ⟨rb, eb⟩ : ∃ r, rnd (yOf j esi) 2 (kW k) = r := ⟨_, rfl⟩
  obtain ⟨dd, ed⟩ : ∃ r, deg (rnd (yOf j esi) 0 1048576) = r := ⟨_, rfl⟩
  rw [ea] at ha r1 ⊢
  rw [eb] at hb r2 ⊢
  rw [ed] at hd hd1 ⊢
  have hcut : fountainref1_Cut.f (dd : Int) 0 ((kW k : Nat) : Int) = some ((min (kW k) dd : Nat) : Int) := by
    unfold fountainref1_Cut.f
    rw [if_neg (by omega)]
    by_cases c : (dd : Int) > ((kW k : Nat) : Int)
    · rw [if_pos c]; congr 1; omega
    · rw [if_neg c]; congr 1; omega
  refine ev_val hcut ?_
  refine ev_pos (by omega) ?_
  rw [w64 (i := ((kW k : Nat) : Int) - 1) (by omega) (by omega), show ((kW k : Nat) : Int) - 1 = ((kW k - 1 : Nat) : Int) from by omega]
  refine ev_val r1 ?_
  refine Ev.step (fun q => by simp only [fountainref1_Parts.j1]; rfl) ?_
  refine ev_val r2 ?_
  refine ev_pos (by omega) (ev_pos (by rw [Int.toNat_natCast]; omega) ?_)
  rw [w64 (i := (1 : Int) + (ra : Int)) (by omega) (by omega), show (1 : Int) + (ra : Int) = ((1 + ra : Nat) : Int) from by omega, Int.toNat_natCast]
  exact rparts_l0 (kW k) (by omega) (by omega) (yOf j esi) (1 + ra) rb (by omega) (by omega) (min (kW k) dd) (Nat.min_le_left _ _) (min (kW k) dd) 0 (List.replicate (kW k) false) [] (by omega) (by simp) (by simp [List.count_replicate]) rfl
theorem rparts_none {k j esi : Int} (h : k < 1 ∨ 40 < k ∨ j < 0 ∨ 255 < j ∨ esi < 0 ∨ 16777216 ≤ esi) : Ev (fun q => fountainref1_Parts.f q k j esi) [] := by
  unfold fountainref1_Parts.f
  have fin : ∀ b : Bool, b = true → Ev (fun q => fountainref1_Parts.j0 q k j esi b) [] := by
    intro b hb
    refine Ev.step (fun q => by simp only [fountainref1_Parts.j0]; rfl) ?_
    exact ev_pos hb (Ev.now _)
  by_cases a1 : k < 1
  · exact ev_pos a1 (fin _ rfl)
  refine ev_neg a1 ?_
  by_cases a2 : k > 40
  · exact ev_pos a2 (fin _ rfl)
  refine ev_neg a2 ?_
  by_cases c1 : j < 0
  · exact ev_pos c1 (fin _ rfl)
  refine ev_neg c1 ?_
  by_cases c2 : j > 255
  · exact ev_pos c2 (fin _ rfl)
  refine ev_neg c2 ?_
  by_cases c3 : esi < 0
  · exact ev_pos c3 (fin _ rfl)
  exact ev_neg c3 (fin _ (decide_eq_true (by omega)))
theorem rrow_l0 (L : List Nat) (hL : L.length < 1000) (t : List Nat) : ∀ (i : Nat) (row : List Int), L.drop i = t → (∀ x ∈ t, x < row.length) →
    Ev (fun k => fountainref1_Row.l0 k (iN L) row (i : Int)) (marks t row) := by
  induction t with
  | nil =>
    intro i row hd _
    refine Ev.step (fun k => by simp only [fountainref1_Row.l0]; rfl) ?_
    have : L.length ≤ i := by have := congrArg List.length hd; simp at this; omega
    exact ev_neg (by rw [iN_length]; omega) (Ev.now _)
  | cons x t ih =>
    intro i row hd hx
    have hd' : (iN L).drop i = (x : Int) :: iN t := by unfold iN; rw [← List.map_drop, hd]; rfl
    obtain ⟨g1, g2, g3⟩ := rd_drop hd'
    rw [iN_length] at g2
    have hx0 := hx x (by simp)
    refine Ev.step (fun k => by simp only [fountainref1_Row.l0]; rfl) ?_
    refine ev_pos (by rw [iN_length]; omega) (ev_pos (by omega) ?_)
    rw [g1]
    refine ev_pos (by omega) (ev_pos (by omega) ?_)
    rw [Int.toNat_natCast, w64 (i := (i : Int) + 1) (by omega) (by omega), show (i : Int) + 1 = ((i + 1 : Nat) : Int) from by omega]
    have := ih (i + 1) (row.set x 1) (by rw [← List.tail_drop, hd]; rfl) (fun z hz => by rw [List.length_set]; exact hx z (by simp [hz]))
    exact this
theorem rrow_ev {k j esi : Nat} (h1 : 1 ≤ k) (h2 : k ≤ 40) (hj : j ≤ 255) (he : esi < 16777216) : Ev (fun q => fountainref1_Row.f q (k : Int) (j : Int) (esi : Int)) (partRow k j esi) := by
  have hs := kS_le h2
  unfold fountainref1_Row.f
  refine Ev.bind (rparts_ev h1 h2 hj he) ?_
  have hlen := parts_length k j esi
  have hd := deg_le (rnd (yOf j esi) 0 1048576)
  have hdl : dOf k j esi ≤ 8 := by unfold dOf; omega
  refine ev_neg (by rw [iN_length]; omega) ?_
  refine ev_val (rL_ok h2) ?_
  refine ev_pos (by omega) (ev_pos (by rw [Int.toNat_natCast]; unfold kL kW; omega) ?_)
  rw [Int.toNat_natCast]
  exact rrow_l0 (parts k j esi) (by omega) (parts k j esi) 0 (List.replicate (kL k) 0) rfl (fun x hx => by rw [List.length_replicate]; exact parts_lt k j esi x hx)
theorem rrow_none {k j esi : Int} (h : k < 1 ∨ 40 < k ∨ j < 0 ∨ 255 < j ∨ esi < 0 ∨ 16777216 ≤ esi) : Ev (fun q => fountainref1_Row.f q k j esi) [] := by
  unfold fountainref1_Row.f
  refine Ev.bind (rparts_none h) ?_
  exact ev_pos (by simp) (Ev.now _)
theorem rlow_l1 {k : Nat} (h1 : 1 ≤ k) (h2 : k ≤ 40) (x4 : List (List Int)) (hx : x4.length < 100) (i : Nat) (hi : i < kS k) (R : List (List Int))
    (hR : Ev (fun q => fountainref1_Low.l0 q (k : Int) ((kS k : Nat) : Int) (x4 ++ [lowRow k i]) ((i + 1 : Nat) : Int)) R) (d : Nat) : ∀ c, c + d = k →
    Ev (fun q => fountainref1_Low.l1 q (k : Int) ((kS k : Nat) : Int) x4 (i : Int) (((List.range c).map (lowVal k i)) ++ List.replicate (d + (kS k + 2)) 0) (c : Int)) R := by
  have hs := kS_le h2
  have hs2 := kS_pos k
  induction d with
  | zero =>
    intro c hc
    obtain rfl : c = k := by omega
    refine Ev.step (fun q => by simp only [fountainref1_Low.l1]; rfl) ?_
    refine ev_neg (by omega) ?_
    rw [w64 (i := (c : Int) + (i : Int)) (by omega) (by omega), show (c : Int) + (i : Int) = ((c + i : Nat) : Int) from by omega]
    have hlen : (((List.range c).map (lowVal c i)) ++ List.replicate (0 + (kS c + 2)) 0).length = kL c := by simp [kL, kW]; omega
    refine ev_pos (by omega) (ev_pos (by rw [hlen]; unfold kL kW; omega) ?_)
    refine ev_val (rW_ok h2) ?_
    rw [tmod_two i, w64 (i := ((kW c : Nat) : Int) + ((i % 2 : Nat) : Int)) (by omega) (by unfold kW; omega), show ((kW c : Nat) : Int) + ((i % 2 : Nat) : Int) = ((kW c + i % 2 : Nat) : Int) from by omega]
    refine ev_pos (by omega) (ev_pos (by rw [hlen]; unfold kL; omega) (ev_pos (by omega) ?_))
    rw [w64 (i := (i : Int) + 1) (by omega) (by omega), Int.toNat_natCast, Int.toNat_natCast, Nat.zero_add, show (i : Int) + 1 = ((i + 1 : Nat) : Int) from by omega]
    exact hR
  | succ d ih =>
    intro c hc
    refine Ev.step (fun q => by simp only [fountainref1_Low.l1]; rfl) ?_
    refine ev_pos (by omega) (ev_neg (by omega) ?_)
    obtain ⟨q, hq0⟩ : ∃ q, c / kS k = q := ⟨_, rfl⟩
    have hq : q ≤ c := hq0 ▸ Nat.div_le_self _ _
    rw [tmod_nat, tdiv_nat, hq0, w64 (i := (q : Int)) (by omega) (by omega), w64 (i := (q : Int) + (c : Int)) (by omega) (by omega), w64 (i := (q : Int) + (c : Int) + 1) (by omega) (by omega),
      show (q : Int) + (c : Int) + 1 = ((q + c + 1 : Nat) : Int) from by omega, tmod_nat, w64 (i := (c : Int) + 1) (by omega) (by omega), Int.toNat_natCast, show (c : Int) + 1 = ((c + 1 : Nat) : Int) from by omega]
    have e1 : List.replicate (d + 1 + (kS k + 2)) (0 : Int) = 0 :: List.replicate (d + (kS k + 2)) 0 := by rw [show d + 1 + (kS k + 2) = (d + (kS k + 2)) + 1 from by omega, List.replicate_succ]
    rw [e1, low_step k i c _ _ rfl]
    have hih := ih (c + 1) (by omega)
    rw [low_next, List.append_assoc, List.singleton_append] at hih
    have hlen : (((List.range c).map (lowVal k i)) ++ 0 :: List.replicate (d + (kS k + 2)) (0 : Int)).length = kL k := by simp [kL, kW]; omega
    by_cases b1 : c % kS k = i
    · have hv : lowVal k i c = 1 := by unfold lowVal lowBit; simp [b1]
      rw [hv] at hih
      exact ev_pos (by omega) (ev_pos (by omega) (ev_pos (by rw [hlen]; unfold kL kW; omega) hih))
    · refine ev_neg (by omega) ?_
      by_cases b2 : (q + c + 1) % kS k = i
      · have hv : lowVal k i c = 1 := by unfold lowVal lowBit; rw [hq0]; simp [b2]
        rw [hv] at hih
        exact ev_pos (by omega) (ev_pos (by omega) (ev_pos (by rw [hlen]; unfold kL kW; omega) hih))
      · have hv : lowVal k i c = 0 := by unfold lowVal lowBit; rw [hq0]; simp [b1, b2]
        rw [hv] at hih
        exact ev_neg (by omega) hih
theorem rlow_l0 {k : Nat} (h1 : 1 ≤ k) (h2 : k ≤ 40) (d : Nat) : ∀ i, i + d = kS k →
    Ev (fun q => fountainref1_Low.l0 q (k : Int) ((kS k : Nat) : Int) ((List.range i).map (lowRow k)) (i : Int)) (lowRows k) := by
  have hs := kS_le h2
  induction d with
  | zero =>
    intro i hi
    refine Ev.step (fun q => by simp only [fountainref1_Low.l0]; rfl) ?_
    refine ev_neg (by omega) ?_
    obtain rfl : i = kS k := by omega
    exact Ev.now _
  | succ d ih =>
    intro i hi
    refine Ev.step (fun q => by simp only [fountainref1_Low.l0]; rfl) ?_
    refine ev_pos (by omega) ?_
    refine ev_val (rL_ok h2) ?_
    refine ev_pos (by omega) (ev_pos (by rw [Int.toNat_natCast]; unfold kL kW; omega) ?_)
    rw [Int.toNat_natCast]
    have hih := ih (i + 1) (by omega)
    have e : (List.range (i + 1)).map (lowRow k) = (List.range i).map (lowRow k) ++ [lowRow k i] := by rw [List.range_succ, List.map_append]; rfl
    rw [e] at hih
    have := rlow_l1 h1 h2 ((List.range i).map (lowRow k)) (by simp; omega) i (by omega) _ hih k 0 (by omega)
    rw [show kL k = k + (kS k + 2) from by unfold kL kW; omega]
    exact this
theorem rlow_ev {k : Nat} (h1 : 1 ≤ k) (h2 : k ≤ 40) : Ev (fun q => fountainref1_Low.f q (k : Int)) (lowRows k) := by
  unfold fountainref1_Low.f
  refine ev_neg (by omega) ?_
  refine Ev.step (fun q => by simp only [fountainref1_Low.j0]; rfl) ?_
  refine ev_neg (by rw [decide_eq_true_eq]; omega) ?_
  refine ev_val (rS_ok h2) ?_
  exact rlow_l0 h1 h2 (kS k) 0 (by omega)
theorem rhigh_l1 {k : Nat} (h1 : 1 ≤ k) (h2 : k ≤ 40) (x3 : List (List Int)) (hx : x3.length < 100) (i : Nat) (hi : i < 2) (R : List (List Int))
    (hR : Ev (fun q => fountainref1_High.l0 q (k : Int) (x3 ++ [highRow k i]) ((i + 1 : Nat) : Int)) R) (d : Nat) : ∀ c, c + d = kW k →
    Ev (fun q => fountainref1_High.l1 q (k : Int) x3 (i : Int) (((List.range c).map (highVal i)) ++ List.replicate (d + 2) 0) (c : Int)) R := by
  have hs := kS_le h2
  have hs2 := kS_pos k
  have hw : kW k ≤ 47 := by unfold kW; omega
  induction d with
  | zero =>
    intro c hc
    obtain rfl : c = kW k := by omega
    refine Ev.step (fun q => by simp only [fountainref1_High.l1]; rfl) ?_
    refine ev_val (rW_ok h2) (ev_neg (by omega) (ev_val (rW_ok h2) ?_))
    rw [w64 (i := ((kW k : Nat) : Int) + (i : Int)) (by omega) (by omega), show ((kW k : Nat) : Int) + (i : Int) = ((kW k + i : Nat) : Int) from by omega]
    have hlen : (((List.range (kW k)).map (highVal i)) ++ List.replicate (0 + 2) 0).length = kL k := by simp [kL]
    refine ev_pos (by omega) (ev_pos (by rw [hlen]; unfold kL; omega) (ev_pos (by omega) ?_))
    rw [w64 (i := (i : Int) + 1) (by omega) (by omega), Int.toNat_natCast, Nat.zero_add, show (i : Int) + 1 = ((i + 1 : Nat) : Int) from by omega]
    exact hR
  | succ d ih =>
    intro c hc
    refine Ev.step (fun q => by simp only [fountainref1_High.l1]; rfl) ?_
    refine ev_val (rW_ok h2) (ev_pos (by omega) ?_)
    have er : (c : Int) % 4294967296 = (c : Int) := by omega
    have ei : wrap64 ((i : Int) + 7) % 4294967296 = (i : Int) + 7 := by rw [w64 (by omega) (by omega)]; omega
    have ra := rrand_ok (c : Int) ((i : Int) + 7) (m := 255) (by decide) (by decide)
    rw [er, ei]
    refine ev_val ra ?_
    have hr := rnd_lt (c : Int) ((i : Int) + 7) (m := 255) (by decide)
    have hm : m255 ((rnd (c : Int) ((i : Int) + 7) 255 : Nat) : Int) = rnd (c : Int) ((i : Int) + 7) 255 := m255_small hr
    have hp := rPower_ev ((rnd (c : Int) ((i : Int) + 7) 255 : Nat) : Int)
    rw [hm] at hp
    refine Ev.bind hp ?_
    have hlen : (((List.range c).map (highVal i)) ++ List.replicate (d + 1 + 2) (0 : Int)).length = kL k := by simp [kL]; omega
    refine ev_pos (by omega) (ev_pos (by rw [hlen]; unfold kL; omega) ?_)
    have hih := ih (c + 1) (by omega)
    rw [high_next, List.append_assoc, List.singleton_append] at hih
    have e1 : List.replicate (d + 1 + 2) (0 : Int) = 0 :: List.replicate (d + 2) 0 := by rw [show d + 1 + 2 = (d + 2) + 1 from by omega, List.replicate_succ]
    have e2 := grow_set ((List.range c).map (highVal i)) (List.replicate (d + 2) 0) 0 (highVal i c)
    rw [List.length_map, List.length_range] at e2
    rw [w64 (i := (c : Int) + 1) (by omega) (by omega), Int.toNat_natCast, show (c : Int) + 1 = ((c + 1 : Nat) : Int) from by omega, e1]
    have e3 : ((pw 2 (rnd (c : Int) ((i : Int) + 7) 255) : Nat) : Int) = highVal i c := by unfold highVal; rfl
    rw [e3, e2]
    exact hih
theorem rhigh_l0 {k : Nat} (h1 : 1 ≤ k) (h2 : k ≤ 40) (d : Nat) : ∀ i, i + d = 2 →
    Ev (fun q => fountainref1_High.l0 q (k : Int) ((List.range i).map (highRow k)) (i : Int)) (highRows k) := by
  have hs := kS_le h2
  induction d with
  | zero =>
    intro i hi
    refine Ev.step (fun q => by simp only [fountainref1_High.l0]; rfl) ?_
    refine ev_neg (by omega) ?_
    obtain rfl : i = 2 := by omega
    exact Ev.now _
  | succ d ih =>
    intro i hi
    refine Ev.step (fun q => by simp only [fountainref1_High.l0]; rfl) ?_
    refine ev_pos (by omega) ?_
    refine ev_val (rL_ok h2) ?_
    refine ev_pos (by omega) (ev_pos (by rw [Int.toNat_natCast]; unfold kL kW; omega) ?_)
    rw [Int.toNat_natCast]
    have hih := ih (i + 1) (by omega)
    have e : (List.range (i + 1)).map (highRow k) = (List.range i).map (highRow k) ++ [highRow k i] := by rw [List.range_succ, List.map_append]; rfl
    rw [e] at hih
    have := rhigh_l1 h1 h2 ((List.range i).map (highRow k)) (by simp; omega) i (by omega) _ hih (kW k) 0 (by omega)
    exact this
theorem rhigh_ev {k : Nat} (h1 : 1 ≤ k) (h2 : k ≤ 40) : Ev (fun q => fountainref1_High.f q (k : Int)) (highRows k) := by
  unfold fountainref1_High.f
  refine ev_neg (by omega) ?_
  refine Ev.step (fun q => by simp only [fountainref1_High.j0]; rfl) ?_
  refine ev_neg (by rw [decide_eq_true_eq]; omega) ?_
  exact rhigh_l0 h1 h2 2 0 (by omega)
theorem rmatrix_l0 {k : Nat} (h1 : 1 ≤ k) (h2 : k ≤ 40) (j : Int) (hj0 : 0 ≤ j) (hj1 : j ≤ 255) (esis : List Int) (hn : esis.length < 2 ^ 42) (t : List Int) : ∀ (i : Nat) (acc : List (List Int)), esis.drop i = t → acc.length + t.length < 2 ^ 42 →
    Ev (fun q => fountainref1_Matrix.l0 q (k : Int) j esis acc (i : Int)) (if ∀ e ∈ t, okE e then acc ++ esiRows k j t else []) := by
  induction t with
  | nil =>
    intro i acc hd ha
    refine Ev.step (fun q => by simp only [fountainref1_Matrix.l0]; rfl) ?_
    have : esis.length ≤ i := by have := congrArg List.length hd; simp at this; omega
    refine ev_neg (by omega) ?_
    rw [if_pos (by simp)]
    simp only [esiRows, List.map_nil, List.append_nil]
    exact Ev.now _
  | cons x t ih =>
    intro i acc hd ha
    obtain ⟨g1, g2, g3⟩ := rd_drop hd
    simp only [List.length_cons] at ha
    refine Ev.step (fun q => by simp only [fountainref1_Matrix.l0]; rfl) ?_
    refine ev_pos (by omega) (ev_pos (by omega) ?_)
    rw [g1]
    by_cases hv : okE x
    · obtain ⟨hx0, hx1⟩ := hv
      have hr := rrow_ev (j := j.toNat) (esi := x.toNat) h1 h2 (by omega) (by omega)
      rw [show ((j.toNat : Nat) : Int) = j from by omega, show ((x.toNat : Nat) : Int) = x from by omega] at hr
      refine Ev.bind hr ?_
      have hlen : (partRow k j.toNat x.toNat).length = kL k := partRow_length _ _ _
      refine ev_neg (by rw [hlen]; unfold kL; omega) (ev_pos (by omega) ?_)
      rw [w64 (i := (i : Int) + 1) (by omega) (by omega), show (i : Int) + 1 = ((i + 1 : Nat) : Int) from by omega]
      have := ih (i + 1) (acc ++ [partRow k j.toNat x.toNat]) g3 (by rw [List.length_append, List.length_singleton]; omega)
      by_cases hall : ∀ e ∈ t, okE e
      · rw [if_pos hall] at this
        rw [if_pos (fun e he => (List.mem_cons.1 he).elim (fun h => h ▸ ⟨hx0, hx1⟩) (hall e))]
        simp only [esiRows, List.map_cons] at this ⊢
        rw [List.append_assoc] at this
        exact this
      · rw [if_neg hall] at this
        rw [if_neg (fun h => hall fun e he => h e (List.mem_cons_of_mem _ he))]
        exact this
    · have hbad : x < 0 ∨ 16777216 ≤ x := by unfold okE at hv; omega
      refine Ev.bind (rrow_none (by omega)) ?_
      rw [if_neg (fun h => hv (h x (by simp)))]
      exact ev_pos rfl (Ev.now _)
theorem rmatrix_ev {k : Nat} (h1 : 1 ≤ k) (h2 : k ≤ 40) (j : Int) (esis : List Int) (hn : esis.length < 2 ^ 41) : Ev (fun q => fountainref1_Matrix.f q (k : Int) j esis) (matOf k j esis) := by
  have ht := ties_length h2
  unfold fountainref1_Matrix.f
  refine ev_neg (by omega) (ev_neg (by omega) ?_)
  have fin : ∀ b : Bool, b = true → Ev (fun q => fountainref1_Matrix.j0 q (k : Int) j esis b) [] := by
    intro b hb
    refine Ev.step (fun q => by simp only [fountainref1_Matrix.j0]; rfl) ?_
    exact ev_pos hb (Ev.now _)
  unfold matOf
  by_cases c1 : j < 0
  · rw [if_neg (fun h => by omega)]
    exact ev_pos c1 (fin _ rfl)
  refine ev_neg c1 ?_
  by_cases c2 : j > 255
  · rw [if_neg (fun h => by omega)]
    exact fin _ (decide_eq_true c2)
  refine Ev.step (fun q => by simp only [fountainref1_Matrix.j0]; rfl) ?_
  refine ev_neg (by rw [decide_eq_true_eq]; omega) ?_
  refine Ev.bind (rlow_ev h1 h2) (Ev.bind (rhigh_ev h1 h2) ?_)
  refine ev_pos (by omega) ?_
  have := rmatrix_l0 h1 h2 j (by omega) (by omega) esis (by omega) esis 0 (lowRows k ++ highRows k) rfl (by rw [List.length_append]; omega)
  by_cases hall : ∀ e ∈ esis, okE e
  · rw [if_pos hall] at this
    rw [if_pos ⟨⟨by omega, by omega⟩, hall⟩]
    exact this
  · rw [if_neg hall] at this
    rw [if_neg (fun h => hall h.2)]
    exact this
end Go.Proofs.Ytbfhinfblepidaa.FSeedTells
