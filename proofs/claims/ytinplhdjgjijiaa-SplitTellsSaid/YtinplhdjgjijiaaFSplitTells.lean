/- What the printed functions of package field, and of the document's first chapter, come to, in the numbers of Gf: for bytes, whatever the other arguments. -/
import Derived.Test.YtinplhdjgjijiaaGf
import Derived.Test.YtinplhdjgjijiaaRw
import Derived.Test.YtinplhdjgjijiaaSp
import Derived.Test.YtinplhdjgjijiaaPSplitTellsx
namespace Go.Proofs.Ytinplhdjgjijiaa.FSplitTells
open Go.RowKit Go.Proofs.Ytinplhdjgjijiaa.PSplitTells Go.Proofs.YtinplhdjgjijiaaW.PrintWords Go.Proofs.YtinplhdjgjijiaaW.PrintLast Go.Proofs.YtinplhdjgjijiaaW.PrintMore Go.Proofs.Ytinplhdjgjijiaa.Gf Go.Proofs.Ytinplhdjgjijiaa.Rw Go.Proofs.Ytinplhdjgjijiaa.Sp

theorem w64 {i : Int} (h0 : -9223372036854775808 ≤ i) (h1 : i < 9223372036854775808) : wrap64 i = i := by unfold wrap64; omega
theorem u64w {i : Int} (h0 : 0 ≤ i) (h1 : i < 9223372036854775808) : IntKind.u64.wrap i = i := by
  simp [IntKind.wrap, IntKind.bits, IntKind.signed]; omega
theorem rd_drop {l : List Int} {x : Int} {t : List Int} {i : Nat} (h : l.drop i = x :: t) : rd l (i : Int) = x ∧ i < l.length ∧ l.drop (i + 1) = t := by
  have hi : i < l.length := by
    rcases Nat.lt_or_ge i l.length with h' | h'
    · exact h'
    · rw [List.drop_eq_nil_of_le h'] at h; cases h
  have := List.drop_eq_getElem_cons hi
  rw [this] at h
  injection h with h1 h2
  refine ⟨?_, hi, h2⟩
  unfold rd
  simp [List.getD, hi, h1]
theorem xor_i64 (a b : Nat) (ha : a < 2 ^ 40) (hb : b < 2 ^ 40) : Go.bits .xor .i64 (a : Int) (b : Int) = ((a ^^^ b : Nat) : Int) := by
  have hx : a ^^^ b < 2 ^ 40 := Nat.xor_lt_two_pow ha hb
  have hp : 2 ^ 40 ≤ 2 ^ IntKind.i64.bits := by decide
  have ha' : a % 2 ^ IntKind.i64.bits = a := Nat.mod_eq_of_lt (by omega)
  have hb' : b % 2 ^ IntKind.i64.bits = b := Nat.mod_eq_of_lt (by omega)
  simp only [Go.bits, BitVec.ofInt_natCast, BitVec.toNat_xor, BitVec.toNat_ofNat, ha', hb']
  rw [IntWalk.i64_left]
  exact w64 (by omega) (by omega)
theorem and_i64 (a b : Nat) (ha : a < 2 ^ 40) (hb : b < 2 ^ 40) : Go.bits .and .i64 (a : Int) (b : Int) = ((a &&& b : Nat) : Int) := by
  have hx : a &&& b < 2 ^ 40 := Nat.and_lt_two_pow a hb
  have hp : 2 ^ 40 ≤ 2 ^ IntKind.i64.bits := by decide
  have ha' : a % 2 ^ IntKind.i64.bits = a := Nat.mod_eq_of_lt (by omega)
  have hb' : b % 2 ^ IntKind.i64.bits = b := Nat.mod_eq_of_lt (by omega)
  simp only [Go.bits, BitVec.ofInt_natCast, BitVec.toNat_and, BitVec.toNat_ofNat, ha', hb']
  rw [IntWalk.i64_left]
  exact w64 (by omega) (by omega)
theorem and1_i64 (a : Nat) (ha : a < 2 ^ 40) : Go.bits .and .i64 (a : Int) 1 = ((a % 2 : Nat) : Int) := by
  have := and_i64 a 1 ha (by decide)
  rw [Nat.and_one_is_mod] at this; exact this
theorem and1_u8 (a : Nat) (ha : a < 256) : Go.bits .and .u8 (a : Int) 1 = ((a % 2 : Nat) : Int) := by
  have := u8_and_nat a 1 ha (by decide)
  rw [Nat.and_one_is_mod] at this; exact this
theorem tb0 (a : Nat) : a.testBit 0 = decide (a % 2 = 1) := by simp [Nat.testBit_zero]
theorem odd_iff (a : Nat) : (((a % 2 : Nat) : Int) = 1) ↔ a.testBit 0 = true := by rw [tb0]; simp; omega
theorem ev_pos {α : Type} {c : Prop} [Decidable c] {f g : Nat → Option α} {r : α} (h : c) (e : Ev f r) : Ev (fun k => if c then f k else g k) r := by
  simp only [if_pos h]; exact e
theorem ev_neg {α : Type} {c : Prop} [Decidable c] {f g : Nat → Option α} {r : α} (h : ¬ c) (e : Ev g r) : Ev (fun k => if c then f k else g k) r := by
  simp only [if_neg h]; exact e
/-- A call without rounds: what it comes to is laid in. (By a lemma, not by 'simp only [Option.bind_some]': the kernel would reckon on both sides.) -/
theorem ev_val {α β : Type} {o : Option α} {a : α} {F : Nat → α → Option β} {r : β} (h : o = some a) (e : Ev (fun k => F k a) r) : Ev (fun k => o.bind (F k)) r := by
  subst h; exact e
theorem ev_eq {α : Type} {g f : Nat → Option α} {r : α} (h : ∀ k, g k = f k) (e : Ev f r) : Ev g r := Ev.congr h e

/-! ### sums -/
def sumB (l : List Nat) : Nat := l.foldl (· ^^^ ·) 0
theorem foldl_xor_lt (l : List Nat) : ∀ o, o < 256 → (∀ x ∈ l, x < 256) → l.foldl (· ^^^ ·) o < 256 := by
  induction l with
  | nil => intro o ho _; exact ho
  | cons x l ih => intro o ho h; exact ih _ (xor_lt ho (h x (by simp))) (fun y hy => h y (by simp [hy]))
theorem add_l0 (l : List Nat) (hl : ∀ x ∈ l, x < 256) (hn : l.length < 2 ^ 62) (t : List Nat) : ∀ (i k o : Nat), o < 256 → l.drop i = t → t.length < k →
    field_Add.l0 k (o : Int) (l.map fun x : Nat => (x : Int)) (l.length : Int) (i : Int) = some ((t.foldl (· ^^^ ·) o : Nat) : Int) := by
  induction t with
  | nil =>
    intro i k o ho hd hk
    obtain ⟨k, rfl⟩ : ∃ m, k = m + 1 := ⟨k - 1, by simp at hk; omega⟩
    have : l.length ≤ i := by have := congrArg List.length hd; simp at this; omega
    simp only [field_Add.l0]; rw [if_neg (by omega)]; rfl
  | cons x t ih =>
    intro i k o ho hd hk
    obtain ⟨k, rfl⟩ : ∃ m, k = m + 1 := ⟨k - 1, by simp at hk; omega⟩
    have hd' : (l.map fun x : Nat => (x : Int)).drop i = (x : Int) :: t.map fun x : Nat => (x : Int) := by rw [← List.map_drop, hd]; rfl
    obtain ⟨h1, h2, h3⟩ := rd_drop hd'
    simp only [List.length_map] at h2
    have hx : x < 256 := hl x (List.mem_of_mem_drop (hd ▸ List.mem_cons_self : x ∈ l.drop i))
    simp only [field_Add.l0]
    rw [if_pos (by omega), if_pos (by omega), if_pos (by rw [List.length_map]; omega), h1, u8_xor_nat o x ho hx, w64 (by omega) (by omega)]
    have := ih (i + 1) k (o ^^^ x) (xor_lt ho hx) (by rw [← List.tail_drop, hd]; rfl) (by simp at hk; omega)
    rw [show ((i : Int) + 1) = ((i + 1 : Nat) : Int) from by omega]
    exact this
theorem add_ev (l : List Nat) (hl : ∀ x ∈ l, x < 256) (hn : l.length < 2 ^ 62) : Ev (fun k => field_Add.f k (l.map fun x : Nat => (x : Int))) ((sumB l : Nat) : Int) := by
  refine ⟨l.length + 1, fun k hk => ?_⟩
  unfold field_Add.f
  rw [List.length_map]
  exact add_l0 l hl hn l 0 k 0 (by decide) rfl (by omega)
theorem add2_ev {a b : Nat} (ha : a < 256) (hb : b < 256) : Ev (fun k => field_Add.f k [(a : Int), (b : Int)]) ((a ^^^ b : Nat) : Int) := by
  have := add_ev [a, b] (by simp [ha, hb]) (by simp)
  simpa [sumB] using this

/-! ### sums of rows -/
theorem rd_tl {l : List F} {i : Nat} {x : F} (h : l[i]? = some x) : rd (tl l) (i : Int) = ti x := by
  unfold rd tl
  rw [Int.toNat_natCast, List.getD_eq_getElem?_getD, List.getElem?_map, h]; rfl
theorem rd_mid (pre r : List F) (x : F) : rd (tl (pre ++ x :: r)) (pre.length : Int) = ti x := by
  refine rd_tl ?_
  rw [List.getElem?_append_right (Nat.le_refl _), Nat.sub_self]; rfl
theorem set_mid (pre r : List F) (x y : F) : (tl (pre ++ x :: r)).set pre.length (ti y) = tl (pre ++ y :: r) := by
  unfold tl
  rw [← List.map_set, List.set_append_right _ _ (Nat.le_refl _), Nat.sub_self]; rfl
theorem rd_row {L : List (List F)} {r : List F} {t : List (List F)} {i : Nat} (h : L.drop i = r :: t) : rd_L1 (tll L) (i : Int) = tl r ∧ i < L.length ∧ L.drop (i + 1) = t := by
  have hi : i < L.length := by
    rcases Nat.lt_or_ge i L.length with h' | h'
    · exact h'
    · rw [List.drop_eq_nil_of_le h'] at h; cases h
  have hc := List.drop_eq_getElem_cons hi
  rw [hc] at h
  injection h with h1 h2
  refine ⟨?_, hi, h2⟩
  unfold rd_L1 tll
  rw [Int.toNat_natCast, List.getD_eq_getElem?_getD, List.getElem?_map, List.getElem?_eq_getElem hi, h1]; rfl
theorem addF_ev (a b : F) : Ev (fun k => field_Add.f k [ti a, ti b]) (ti (a ^^^ b)) := by
  have h := add2_ev (toNat_lt a) (toNat_lt b)
  unfold ti; rw [fx_toNat]; exact h
theorem mn_len (a b : Nat) : mn (a : Int) (b : Int) = ((min a b : Nat) : Int) := by unfold mn; split <;> omega
theorem sum_l1 (x13 : List (List Int)) (x14 : Int) (i : Nat) (hi : i < 2 ^ 60) (R : List Int) (a : List F) : ∀ (pre rpre r : List F), rpre.length = pre.length → pre.length + a.length < 2 ^ 60 → pre.length + r.length < 2 ^ 60 →
    Ev (fun k => rows_Sum.l0 k (tl (pre ++ addTo a r)) x13 x14 ((i + 1 : Nat) : Int)) R →
    Ev (fun k => rows_Sum.l1 k (tl (pre ++ a)) (tl (rpre ++ r)) x13 x14 (i : Int) ((min (pre.length + a.length) (pre.length + r.length) : Nat) : Int) (pre.length : Int)) R := by
  induction a with
  | nil =>
    intro pre rpre r hr h1 h2 hR
    refine Ev.step (fun k => by simp only [rows_Sum.l1]; rfl) ?_
    refine ev_neg (by simp only [List.length_nil]; omega) ?_
    rw [w64 (i := (i : Int) + 1) (by omega) (by omega), show (i : Int) + 1 = ((i + 1 : Nat) : Int) from by omega]
    cases r <;> exact hR
  | cons x a ih =>
    intro pre rpre r hr h1 h2 hR
    cases r with
    | nil =>
      refine Ev.step (fun k => by simp only [rows_Sum.l1]; rfl) ?_
      refine ev_neg (by simp only [List.length_nil]; omega) ?_
      rw [w64 (i := (i : Int) + 1) (by omega) (by omega), show (i : Int) + 1 = ((i + 1 : Nat) : Int) from by omega]
      exact hR
    | cons y r =>
      simp only [List.length_cons] at h1 h2 ⊢
      refine Ev.step (fun k => by simp only [rows_Sum.l1]; rfl) ?_
      refine ev_pos (by omega) (ev_pos (by omega) (ev_pos (by rw [tl_length, List.length_append, List.length_cons]; omega) (ev_pos (by rw [tl_length, List.length_append, List.length_cons]; omega) ?_)))
      have e2 : rd (tl (rpre ++ y :: r)) (pre.length : Int) = ti y := by rw [← hr]; exact rd_mid rpre r y
      rw [rd_mid, e2]
      refine Ev.bind (addF_ev x y) ?_
      rw [Int.toNat_natCast, set_mid, w64 (i := (pre.length : Int) + 1) (by omega) (by omega)]
      have := ih (pre ++ [x ^^^ y]) (rpre ++ [y]) r (by simp [hr]) (by simp only [List.length_append, List.length_singleton]; omega) (by simp only [List.length_append, List.length_singleton]; omega) (by rw [List.append_assoc]; exact hR)
      simp only [List.length_append, List.length_singleton, List.append_assoc, List.singleton_append] at this
      rw [show min (pre.length + (a.length + 1)) (pre.length + (r.length + 1)) = min (pre.length + 1 + a.length) (pre.length + 1 + r.length) from by omega, show (pre.length : Int) + 1 = ((pre.length + 1 : Nat) : Int) from by omega]
      exact this
theorem sum_l0 (L : List (List F)) (hL : L.length < 2 ^ 50) (hs : ∀ r ∈ L, r.length < 2 ^ 50) (t : List (List F)) : ∀ (i : Nat) (acc : List F), L.drop i = t → acc.length < 2 ^ 50 →
    Ev (fun k => rows_Sum.l0 k (tl acc) (tll L) (L.length : Int) (i : Int)) (tl (t.foldl addTo acc)) := by
  induction t with
  | nil =>
    intro i acc hd ha
    refine Ev.step (fun k => by simp only [rows_Sum.l0]; rfl) ?_
    have : L.length ≤ i := by have := congrArg List.length hd; simp at this; omega
    exact ev_neg (by omega) (Ev.now _)
  | cons r t ih =>
    intro i acc hd ha
    obtain ⟨h1, h2, h3⟩ := rd_row hd
    have hr := hs r (List.mem_of_mem_drop (hd ▸ List.mem_cons_self : r ∈ L.drop i))
    refine Ev.step (fun k => by simp only [rows_Sum.l0]; rfl) ?_
    refine ev_pos (by omega) (ev_pos (by omega) (ev_pos (by rw [tll_length]; omega) ?_))
    rw [h1, tl_length, tl_length, mn_len]
    have := sum_l1 (tll L) (L.length : Int) i (by omega) _ acc [] [] r rfl (by simp only [List.length_nil]; omega) (by simp only [List.length_nil]; omega) (ih (i + 1) (addTo acc r) h3 (by rw [addTo_length]; exact ha))
    simp only [List.length_nil, Nat.zero_add, List.nil_append] at this
    exact this
/-- How long a sum is. -/
def cutN (n : Int) : Nat := (max 0 (min n 1000)).toNat
theorem cutN_le (n : Int) : cutN n ≤ 1000 := by unfold cutN; omega
theorem cutN_mx (n : Int) : mx 0 (mn n 1000) = (cutN n : Int) := by
  unfold mx mn cutN; split <;> split <;> omega
theorem sum_ev (n : Int) (L : List (List F)) (hL : L.length < 2 ^ 50) (hs : ∀ r ∈ L, r.length < 2 ^ 50) : Ev (fun k => rows_Sum.f k n (tll L)) (tl (sumR (cutN n) L)) := by
  unfold rows_Sum.f
  have hc := cutN_le n
  rw [cutN_mx]
  refine ev_pos (by omega) (ev_pos (by rw [Int.toNat_natCast]; omega) ?_)
  rw [Int.toNat_natCast, ← tl_replicate, tll_length]
  exact sum_l0 L hL hs L 0 _ rfl (by rw [List.length_replicate]; omega)
theorem fit_ev (n : Nat) (hn : n ≤ 1000) (r : List F) (hr : r.length < 2 ^ 50) : Ev (fun k => rows_Fit.f k (n : Int) (tl r)) (tl (fitR n r)) := by
  unfold rows_Fit.f
  have h := sum_ev (n : Int) [r] (by simp) (by simp [hr])
  have hc : cutN (n : Int) = n := by unfold cutN; omega
  rw [hc, sumR_one] at h
  exact Ev.bind h (Ev.now _)

/-! ### shapes -/
theorem within_eq (a m : Int) : split_within.f a m = some (decide (1 ≤ a ∧ a ≤ m)) := by
  unfold split_within.f
  by_cases h : a ≥ 1
  · rw [if_pos h]; congr 1; by_cases h2 : a ≤ m <;> simp [h2] <;> omega
  · rw [if_neg h]; congr 1; simp; omega
theorem right_eq (b s m : Int) : split_Right.f b s m = some (decide (okS b s m)) := by
  unfold split_Right.f
  rw [within_eq, Option.bind_some]
  by_cases h1 : 1 ≤ b ∧ b ≤ 4000
  · rw [if_pos (decide_eq_true h1), within_eq, Option.bind_some]
    by_cases h2 : 1 ≤ s ∧ s ≤ 64
    · rw [if_pos (decide_eq_true h2), within_eq, Option.bind_some]
      exact congrArg some (decide_eq_decide.2 ⟨fun h3 => ⟨h1, h2, h3⟩, fun h => h.2.2⟩)
    · rw [if_neg (by rw [decide_eq_true_eq]; exact h2)]
      congr 1; exact (decide_eq_false (fun h => h2 h.2.1)).symm
  · rw [if_neg (by rw [decide_eq_true_eq]; exact h1)]
    congr 1; exact (decide_eq_false (fun h => h1 h.1)).symm
theorem right_yes {b s m : Int} (h : okS b s m) : split_Right.f b s m = some true := by rw [right_eq, decide_eq_true h]
theorem right_no {b s m : Int} (h : ¬ okS b s m) : split_Right.f b s m = some false := by rw [right_eq, decide_eq_false h]
theorem up_eq {a b : Nat} (ha : 1 ≤ a) (ha2 : a < 2 ^ 40) (hb : 1 ≤ b) : split_up.f (a : Int) (b : Int) = some ((upN a b : Nat) : Int) := by
  unfold split_up.f
  rw [if_neg (by omega), w64 (i := (a : Int) - 1) (by omega) (by omega), show (a : Int) - 1 = ((a - 1 : Nat) : Int) from by omega]
  have e : Int.tdiv ((a - 1 : Nat) : Int) (b : Int) = (((a - 1) / b : Nat) : Int) := (Int.ofNat_tdiv _ _).symm
  have hle : (a - 1) / b ≤ a - 1 := Nat.div_le_self _ _
  unfold upN
  rw [e]
  obtain ⟨q, hq⟩ : ∃ q, (a - 1) / b = q := ⟨_, rfl⟩
  rw [hq] at hle ⊢
  rw [w64 (i := (q : Int)) (by omega) (by omega), w64 (by omega) (by omega)]
  congr 1
theorem ok_nat {b s m : Nat} (h : okS (b : Int) (s : Int) (m : Int)) : (1 ≤ b ∧ b ≤ 4000) ∧ (1 ≤ s ∧ s ≤ 64) ∧ (1 ≤ m ∧ m ≤ 40) := by unfold okS at h; omega
theorem symbols_yes {b s m : Nat} (h : okS (b : Int) (s : Int) (m : Int)) : split_Symbols.f (b : Int) (s : Int) (m : Int) = some ((symN b s : Nat) : Int) := by
  obtain ⟨h1, h2, h3⟩ := ok_nat h
  unfold split_Symbols.f
  rw [right_yes h, Option.bind_some, if_pos rfl, up_eq h1.1 (by omega) h2.1, Option.bind_some]; rfl
theorem symbols_no {b s m : Int} (h : ¬ okS b s m) : split_Symbols.f b s m = some 0 := by
  unfold split_Symbols.f
  rw [right_no h, Option.bind_some, if_neg (by decide)]
theorem blocks_yes {b s m : Nat} (h : okS (b : Int) (s : Int) (m : Int)) : split_Blocks.f (b : Int) (s : Int) (m : Int) = some ((blkN b s m : Nat) : Int) := by
  obtain ⟨h1, h2, h3⟩ := ok_nat h
  have hs := sym_pos b s
  have hl := sym_le (s := s) h1.1
  unfold split_Blocks.f
  rw [right_yes h, Option.bind_some, if_pos rfl, symbols_yes h, Option.bind_some, up_eq hs (by omega) h3.1, Option.bind_some]; rfl
theorem blocks_no {b s m : Int} (h : ¬ okS b s m) : split_Blocks.f b s m = some 0 := by
  unfold split_Blocks.f
  rw [right_no h, Option.bind_some, if_neg (by decide)]
theorem K_yes {b s m : Nat} (h : okS (b : Int) (s : Int) (m : Int)) (i : Nat) : Ev (fun k => split_K.f k (b : Int) (s : Int) (m : Int) (i : Int)) ((kN b s m i : Nat) : Int) := by
  obtain ⟨h1, h2, h3⟩ := ok_nat h
  have hs := sym_pos b s
  have hl := sym_le (s := s) h1.1
  have hbp := blk_pos b s m
  have hbl := @blk_le b s m
  unfold split_K.f
  refine ev_val (blocks_yes h) (ev_neg (by omega) ?_)
  refine Ev.step (fun k => by simp only [split_K.j0]; rfl) ?_
  by_cases c : i < blkN b s m
  · refine ev_neg (by rw [decide_eq_true_eq]; omega) ?_
    refine ev_val (symbols_yes h) (ev_neg (by omega) ?_)
    have e1 : Int.tmod ((symN b s : Nat) : Int) ((blkN b s m : Nat) : Int) = ((symN b s % blkN b s m : Nat) : Int) := (Int.ofNat_tmod _ _).symm
    have e2 : Int.tdiv ((symN b s : Nat) : Int) ((blkN b s m : Nat) : Int) = ((symN b s / blkN b s m : Nat) : Int) := (Int.ofNat_tdiv _ _).symm
    have hle : symN b s / blkN b s m ≤ symN b s := Nat.div_le_self _ _
    have hk : kN b s m i = symN b s / blkN b s m + (if i < symN b s % blkN b s m then 1 else 0) := by unfold kN; rw [if_pos c]
    rw [e1, e2, hk]
    obtain ⟨q, hq⟩ : ∃ q, symN b s / blkN b s m = q := ⟨_, rfl⟩
    obtain ⟨p, hp⟩ : ∃ p, symN b s % blkN b s m = p := ⟨_, rfl⟩
    rw [hq] at hle ⊢
    rw [hp]
    by_cases c2 : i < p
    · rw [if_pos c2]
      refine ev_pos (by omega) ?_
      rw [w64 (i := (q : Int)) (by omega) (by omega), w64 (by omega) (by omega), show (q : Int) + 1 = ((q + 1 : Nat) : Int) from by omega]
      exact Ev.now _
    · rw [if_neg c2]
      refine ev_neg (by omega) ?_
      rw [w64 (i := (q : Int)) (by omega) (by omega)]
      exact Ev.now _
  · have hk : kN b s m i = 0 := by unfold kN; rw [if_neg c]
    rw [hk]
    exact ev_pos (decide_eq_true (by omega)) (Ev.now _)

/-! ### cutting -/
def t3 (X : List (List (List F))) : List (List (List Int)) := X.map tll
theorem t3_length (X : List (List (List F))) : (t3 X).length = X.length := by unfold t3; rw [List.length_map]
theorem tll_snoc (L : List (List F)) (r : List F) : tll L ++ [tl r] = tll (L ++ [r]) := by unfold tll; rw [List.map_append]; rfl
theorem t3_snoc (X : List (List (List F))) (L : List (List F)) : t3 X ++ [tll L] = t3 (X ++ [L]) := by unfold t3; rw [List.map_append]; rfl
theorem take_min (s : Nat) (d : List F) : d.take (min s d.length) = d.take s := by
  rcases Nat.le_total s d.length with h | h
  · rw [Nat.min_eq_left h]
  · rw [Nat.min_eq_right h, List.take_of_length_le h, List.take_of_length_le (Nat.le_refl _)]
theorem drop_min (s : Nat) (d : List F) : d.drop (min s d.length) = d.drop s := by
  rcases Nat.le_total s d.length with h | h
  · rw [Nat.min_eq_left h]
  · rw [Nat.min_eq_right h, List.drop_eq_nil_of_le h, List.drop_eq_nil_of_le (Nat.le_refl _)]
theorem cut_l1 (b s m : Int) (sn : Nat) (hsn : s = (sn : Int)) (hs : sn ≤ 64) (X : List (List (List F))) (hX : X.length < 5000) (B : Int) (bi : Nat) (hbi : bi < 5000) (K : Nat) (hK : K < 5000) (R : (List (List (List Int))) × Int) (n : Nat) : ∀ (i : Nat) (d : List F) (acc : List (List F)), i + n = K → acc.length = i → d.length < 2 ^ 40 →
    Ev (fun k => split_Cut.l0 k (tl (d.drop (n * sn))) (t3 (X ++ [acc ++ cutSyms sn n d])) B ((bi + 1 : Nat) : Int) b s m) R →
    Ev (fun k => split_Cut.l1 k (tl d) (t3 X) (tll acc) B (bi : Int) (K : Int) (i : Int) b s m) R := by
  subst hsn
  induction n with
  | zero =>
    intro i d acc hi ha hd hR
    refine Ev.step (fun k => by simp only [split_Cut.l1]; rfl) ?_
    refine ev_neg (by omega) (ev_pos (by rw [t3_length]; omega) ?_)
    rw [t3_snoc, w64 (i := (bi : Int) + 1) (by omega) (by omega), show (bi : Int) + 1 = ((bi + 1 : Nat) : Int) from by omega]
    simp only [cutSyms, List.append_nil, Nat.zero_mul, List.drop_zero] at hR
    exact hR
  | succ n ih =>
    intro i d acc hi ha hd hR
    refine Ev.step (fun k => by simp only [split_Cut.l1]; rfl) ?_
    refine ev_pos (by omega) ?_
    rw [tl_length, mn_len]
    refine ev_pos (by omega) (ev_pos (by omega) ?_)
    rw [Int.toNat_natCast, tl_take, take_min, tl_drop, drop_min]
    refine Ev.bind (fit_ev sn (by omega) (d.take sn) (by rw [List.length_take]; omega)) ?_
    refine ev_pos (by rw [tll_length]; omega) ?_
    rw [tll_snoc, w64 (i := (i : Int) + 1) (by omega) (by omega), show (i : Int) + 1 = ((i + 1 : Nat) : Int) from by omega]
    refine ih (i + 1) (d.drop sn) (acc ++ [fitR sn (d.take sn)]) (by omega) (by rw [List.length_append, List.length_singleton, ha]) (by rw [List.length_drop]; omega) ?_
    simp only [cutSyms] at hR
    rw [List.drop_drop, List.append_assoc, List.singleton_append]
    rw [Nat.succ_mul, Nat.add_comm] at hR
    exact hR
theorem cut_l0 {b s m : Nat} (h : okS (b : Int) (s : Int) (m : Int)) (n : Nat) : ∀ (i : Nat) (d : List F) (X : List (List (List F))), i + n = blkN b s m → X.length = i → d.length < 2 ^ 40 →
    Ev (fun k => split_Cut.l0 k (tl d) (t3 X) ((blkN b s m : Nat) : Int) (i : Int) (b : Int) (s : Int) (m : Int)) (t3 (X ++ cutBlks b s m n i d), 0) := by
  obtain ⟨h1, h2, h3⟩ := ok_nat h
  have hl := sym_le (s := s) h1.1
  have hbl := @blk_le b s m
  induction n with
  | zero =>
    intro i d X hi hX hd
    refine Ev.step (fun k => by simp only [split_Cut.l0]; rfl) ?_
    refine ev_neg (by omega) ?_
    simp only [cutBlks, List.append_nil]
    exact Ev.now _
  | succ n ih =>
    intro i d X hi hX hd
    refine Ev.step (fun k => by simp only [split_Cut.l0]; rfl) ?_
    refine ev_pos (by omega) ?_
    refine Ev.bind (K_yes h i) ?_
    have hk := k_le_sym b s m i
    have := ih (i + 1) (d.drop (kN b s m i * s)) (X ++ [cutSyms s (kN b s m i) d]) (by omega) (by rw [List.length_append, List.length_singleton, hX]) (by rw [List.length_drop]; omega)
    rw [List.append_assoc] at this
    exact cut_l1 (b : Int) (s : Int) (m : Int) s rfl (by omega) X (by omega) _ i (by omega) (kN b s m i) (by omega) _ (kN b s m i) 0 d [] (by omega) rfl hd this
theorem cut_yes {b s m : Nat} (h : okS (b : Int) (s : Int) (m : Int)) (d : List F) (hd : d.length = b) : Ev (fun k => split_Cut.f k (b : Int) (s : Int) (m : Int) (tl d)) (t3 (cutAll b s m d), 0) := by
  obtain ⟨h1, h2, h3⟩ := ok_nat h
  unfold split_Cut.f
  refine ev_val (right_yes h) (ev_pos rfl (ev_pos (by rw [tl_length]; omega) ?_))
  refine ev_val (blocks_yes h) ?_
  exact cut_l0 h (blkN b s m) 0 d [] (by omega) rfl (by omega)
theorem cut_arg {b s m : Int} (h : ¬ okS b s m) (d : List Int) : Ev (fun k => split_Cut.f k b s m d) ([], 1) := by
  unfold split_Cut.f
  exact ev_val (right_no h) (ev_neg (by decide) (Ev.now _))
theorem cut_size {b s m : Int} (h : okS b s m) (d : List Int) (hd : (d.length : Int) ≠ b) : Ev (fun k => split_Cut.f k b s m d) ([], 10) := by
  unfold split_Cut.f
  exact ev_val (right_yes h) (ev_pos rfl (ev_neg hd (Ev.now _)))
theorem tll_one (L : List (List F)) (r : List F) : tll L ++ [([] : List Int) ++ tl r] = tll (L ++ [r]) := by unfold tll; rw [List.map_append, List.nil_append]; rfl
theorem to_l0 (L : List (List F)) (hL : L.length < 2 ^ 40) (hs : ∀ r ∈ L, r.length < 2 ^ 40) (t : List (List F)) : ∀ (pre : List (List F)), L = pre ++ t →
    Ev (fun k => fountainlaw2_To.l0 k (tll L) (tll pre) (pre.length : Int)) (tll L) := by
  induction t with
  | nil =>
    intro pre hp
    refine Ev.step (fun k => by simp only [fountainlaw2_To.l0]; rfl) ?_
    subst hp
    rw [List.append_nil]
    exact ev_neg (by rw [tll_length]; omega) (Ev.now _)
  | cons r t ih =>
    intro pre hp
    have hlen : L.length = pre.length + (t.length + 1) := by rw [hp]; simp
    have hd : L.drop pre.length = r :: t := by rw [hp, List.drop_left]
    obtain ⟨e, _, _⟩ := rd_row hd
    have hr := hs r (by rw [hp]; simp)
    refine Ev.step (fun k => by simp only [fountainlaw2_To.l0]; rfl) ?_
    refine ev_pos (by rw [tll_length]; omega) (ev_pos (by omega) ?_)
    rw [e]
    refine ev_pos (by rw [tl_length, List.length_nil]; omega) (ev_pos (by rw [tll_length]; omega) ?_)
    rw [tll_one, w64 (i := (pre.length : Int) + 1) (by omega) (by omega), show (pre.length : Int) + 1 = ((pre.length + 1 : Nat) : Int) from by omega]
    have := ih (pre ++ [r]) (by rw [hp, List.append_assoc]; rfl)
    rw [List.length_append, List.length_singleton] at this
    exact this
theorem to_ev (L : List (List F)) (hL : L.length < 2 ^ 40) (hs : ∀ r ∈ L, r.length < 2 ^ 40) : Ev (fun k => fountainlaw2_To.f k (tll L)) (tll L) := by
  unfold fountainlaw2_To.f
  exact to_l0 L hL hs L [] rfl

/-! ### rows that came in -/
theorem few_l0 (L : List (List F)) (hL : L.length < 2 ^ 50) (hs : ∀ r ∈ L, r.length < 2 ^ 50) (t : List (List F)) : ∀ (i n : Nat), L.drop i = t → n < 2 ^ 55 →
    ∃ b, Ev (fun k => fountainlaw2_Few.l0 k (tll L) (n : Int) (i : Int)) b ∧ (b = true → n + t.length ≤ 4000 ∧ ∀ r ∈ t, n + r.length ≤ 4000) := by
  induction t with
  | nil =>
    intro i n hd hn
    have : L.length ≤ i := by have := congrArg List.length hd; simp at this; omega
    refine ⟨decide ((n : Int) ≤ 4000), Ev.step (fun k => by simp only [fountainlaw2_Few.l0]; rfl) (ev_neg (by rw [tll_length]; omega) (Ev.now _)), fun h => ?_⟩
    have := of_decide_eq_true h
    exact ⟨by simp; omega, fun r hr => by simp at hr⟩
  | cons r t ih =>
    intro i n hd hn
    obtain ⟨h1, h2, h3⟩ := rd_row hd
    have hr := hs r (List.mem_of_mem_drop (hd ▸ List.mem_cons_self : r ∈ L.drop i))
    by_cases c : n ≤ 4000
    · obtain ⟨b, hb, himp⟩ := ih (i + 1) (n + 1 + r.length) h3 (by omega)
      refine ⟨b, ?_, fun h => ?_⟩
      · refine Ev.step (fun k => by simp only [fountainlaw2_Few.l0]; rfl) ?_
        refine ev_pos (by rw [tll_length]; omega) (ev_pos (by omega) (ev_pos (by omega) ?_))
        rw [h1, tl_length, w64 (i := (n : Int) + 1) (by omega) (by omega), w64 (i := (n : Int) + 1 + (r.length : Int)) (by omega) (by omega), w64 (i := (i : Int) + 1) (by omega) (by omega),
          show (n : Int) + 1 + (r.length : Int) = ((n + 1 + r.length : Nat) : Int) from by omega, show (i : Int) + 1 = ((i + 1 : Nat) : Int) from by omega]
        exact hb
      · obtain ⟨g1, g2⟩ := himp h
        refine ⟨by simp only [List.length_cons]; omega, fun q hq => ?_⟩
        rcases List.mem_cons.1 hq with rfl | hq
        · omega
        · have := g2 q hq; omega
    · refine ⟨false, ?_, fun h => by cases h⟩
      refine Ev.step (fun k => by simp only [fountainlaw2_Few.l0]; rfl) ?_
      refine ev_pos (by rw [tll_length]; omega) (ev_neg (by omega) ?_)
      rw [decide_eq_false (show ¬ ((n : Int) ≤ 4000) by omega)]
      exact Ev.now _
theorem few_ev (L : List (List F)) (hL : L.length < 2 ^ 50) (hs : ∀ r ∈ L, r.length < 2 ^ 50) : ∃ b, Ev (fun k => fountainlaw2_Few.f k (tll L)) b ∧ (b = true → L.length ≤ 4000 ∧ ∀ r ∈ L, r.length ≤ 4000) := by
  obtain ⟨b, h1, h2⟩ := few_l0 L hL hs L 0 0 rfl (by decide)
  exact ⟨b, h1, fun h => by have := h2 h; simpa using this⟩

/-! ### joining -/
theorem rdL2_drop {l : List (List (List Int))} {x : List (List Int)} {t : List (List (List Int))} {i : Nat} (h : l.drop i = x :: t) : rd_L2 l (i : Int) = x ∧ i < l.length ∧ l.drop (i + 1) = t := by
  have hi : i < l.length := by
    rcases Nat.lt_or_ge i l.length with h' | h'
    · exact h'
    · rw [List.drop_eq_nil_of_le h'] at h; cases h
  have := List.drop_eq_getElem_cons hi
  rw [this] at h
  injection h with h1 h2
  refine ⟨?_, hi, h2⟩
  unfold rd_L2
  simp [List.getD, hi, h1]
theorem rdL1_drop {l : List (List Int)} {x : List Int} {t : List (List Int)} {i : Nat} (h : l.drop i = x :: t) : rd_L1 l (i : Int) = x ∧ i < l.length ∧ l.drop (i + 1) = t := by
  have hi : i < l.length := by
    rcases Nat.lt_or_ge i l.length with h' | h'
    · exact h'
    · rw [List.drop_eq_nil_of_le h'] at h; cases h
  have := List.drop_eq_getElem_cons hi
  rw [this] at h
  injection h with h1 h2
  refine ⟨?_, hi, h2⟩
  unfold rd_L1
  simp [List.getD, hi, h1]
theorem idx_any (p : List Int → Bool) (L : List (List Int)) : ∀ i : Int, 0 ≤ i → decide (0 ≤ Cf.idx p L i) = L.any p := by
  induction L with
  | nil => intro i h; rfl
  | cons r L ih =>
    intro i h
    rw [List.any_cons]
    by_cases hp : p r = true
    · have e : Cf.idx p (r :: L) i = i := if_pos hp
      rw [e, hp]; simp [h]
    · have e : Cf.idx p (r :: L) i = Cf.idx p L (i + 1) := if_neg hp
      rw [e, ih (i + 1) (by omega), Bool.eq_false_iff.2 hp]; rfl
theorem any_eq (L : List (List Int)) (s : Int) : Jp.any.f L s = some (L.any fun r => decide ((r.length : Int) ≠ s)) := by
  unfold Jp.any.f
  rw [idx_any _ L 0 (by decide)]
/-- Have the blocks from the i-th on as many rows as they must, each s long. -/
def joinOk (b s m : Nat) : Nat → List (List (List Int)) → Bool
  | _, [] => true
  | i, l :: L => decide (l.length = kN b s m i) && (!(l.any fun r => decide ((r.length : Int) ≠ (s : Int)))) && joinOk b s m (i + 1) L
theorem flat_len {rows : List (List Int)} {s : Nat} (h : ∀ r ∈ rows, r.length = s) : rows.flatten.length = rows.length * s := by
  induction rows with
  | nil => simp
  | cons r rows ih =>
    rw [List.flatten_cons, List.length_append, ih (fun q hq => h q (List.mem_cons_of_mem _ hq)), h r List.mem_cons_self, List.length_cons, Nat.succ_mul]; omega
theorem join_l1 (b s m : Int) (sn : Nat) (L0 : List (List (List Int))) (B : Int) (bi : Nat) (hbi : bi < 5000) (rows : List (List Int)) (hrows : rows.length < 5000) (hr : ∀ r ∈ rows, r.length = sn) (R : List Int × Int) (T : List (List Int)) : ∀ (j : Nat) (x6 : List Int), rows.drop j = T → x6.length + T.length * sn < 2 ^ 40 →
    Ev (fun k => split_Join.l0 k (x6 ++ T.flatten) L0 B ((bi + 1 : Nat) : Int) b s m) R →
    Ev (fun k => split_Join.l1 k x6 L0 B (bi : Int) rows (rows.length : Int) (j : Int) b s m) R := by
  induction T with
  | nil =>
    intro j x6 hj hx hR
    have hj2 : rows.length ≤ j := List.drop_eq_nil_iff.1 hj
    refine Ev.step (fun k => by simp only [split_Join.l1]; rfl) ?_
    refine ev_neg (by omega) ?_
    rw [w64 (i := (bi : Int) + 1) (by omega) (by omega), show (bi : Int) + 1 = ((bi + 1 : Nat) : Int) from by omega]
    rw [List.flatten_nil, List.append_nil] at hR
    exact hR
  | cons r T ih =>
    intro j x6 hj hx hR
    obtain ⟨h1, h2, h3⟩ := rdL1_drop hj
    have h4 : r.length = sn := hr r (List.mem_of_mem_drop (i := j) (by rw [hj]; exact List.mem_cons_self))
    rw [List.length_cons, Nat.succ_mul] at hx
    refine Ev.step (fun k => by simp only [split_Join.l1]; rfl) ?_
    refine ev_pos (by omega) (ev_pos (by omega) (ev_pos (by omega) ?_))
    rw [h1]
    refine ev_pos (by omega) ?_
    rw [w64 (i := (j : Int) + 1) (by omega) (by omega), show (j : Int) + 1 = ((j + 1 : Nat) : Int) from by omega]
    refine ih (j + 1) (x6 ++ r) h3 (by rw [List.length_append]; omega) ?_
    rw [List.flatten_cons, ← List.append_assoc] at hR
    exact hR
theorem sym_mul {b s : Nat} (hs : 1 ≤ s) : b ≤ symN b s * s := by
  unfold symN upN
  have h2 := Nat.div_add_mod (b - 1) s
  have h3 := Nat.mod_lt (b - 1) (show 0 < s by omega)
  rw [Nat.succ_mul, Nat.mul_comm]
  omega
theorem join_l0 {b s m : Nat} (h : okS (b : Int) (s : Int) (m : Int)) (L0 : List (List (List Int))) (hL0 : L0.length = blkN b s m) (L : List (List (List Int))) : ∀ (i : Nat) (x6 : List Int), L0.drop i = L → i + L.length = L0.length → x6.length = sumK b s m i * s →
    Ev (fun k => split_Join.l0 k x6 L0 (L0.length : Int) (i : Int) (b : Int) (s : Int) (m : Int)) (if joinOk b s m i L = true then ((x6 ++ L.flatten.flatten).take b, 0) else ([], 10)) := by
  obtain ⟨h1, h2, h3⟩ := ok_nat h
  have hl := sym_le (s := s) h1.1
  have hbl := @blk_le b s m
  induction L with
  | nil =>
    intro i x6 hd hi hx
    rw [List.length_nil] at hi
    obtain rfl : i = blkN b s m := by omega
    rw [sumK_all] at hx
    have hm := @sym_mul b s h2.1
    refine Ev.step (fun k => by simp only [split_Join.l0]; rfl) ?_
    refine ev_neg (by omega) (ev_pos (by omega) (ev_pos (by omega) ?_))
    rw [Int.toNat_natCast]
    simp only [joinOk, if_true, List.flatten_nil, List.append_nil]
    exact Ev.now _
  | cons l L ih =>
    intro i x6 hd hi hx
    obtain ⟨e1, e2, e3⟩ := rdL2_drop hd
    rw [List.length_cons] at hi
    have hk := k_le_sym b s m i
    have hsum := sumK_le b s m (i + 1) (by omega)
    simp only [sumK] at hsum
    refine Ev.step (fun k => by simp only [split_Join.l0]; rfl) ?_
    refine ev_pos (by omega) (ev_pos (by omega) (ev_pos (by omega) ?_))
    refine Ev.bind (K_yes h i) ?_
    rw [e1]
    by_cases c : l.length = kN b s m i
    · refine ev_pos (by omega) ?_
      refine ev_val (any_eq l (s : Int)) ?_
      refine Ev.step (fun k => by simp only [split_Join.j1]; rfl) ?_
      simp only [joinOk, decide_eq_true c, Bool.true_and]
      cases ha : (l.any fun r => decide ((r.length : Int) ≠ (s : Int))) with
      | true => first | exact ev_pos rfl (Ev.now _) | exact ev_pos trivial (Ev.now _)
      | false =>
        refine ev_neg (by decide) ?_
        have hr : ∀ r ∈ l, r.length = s := by
          intro r hr
          have := List.any_eq_false.1 ha r hr
          simp only [decide_eq_true_eq, ne_eq, Decidable.not_not] at this
          omega
        have hfl := flat_len hr
        have hm4 : sumK b s m i * s + kN b s m i * s ≤ 4000 * 64 := by rw [← Nat.add_mul]; exact Nat.mul_le_mul (by omega) h2.2
        have hI := ih (i + 1) (x6 ++ l.flatten) e3 (by omega) (by rw [List.length_append, hx, hfl, c, sumK, Nat.add_mul])
        have := join_l1 (b : Int) (s : Int) (m : Int) s L0 (L0.length : Int) i (by omega) l (by omega) hr (if joinOk b s m (i + 1) L = true then ((x6 ++ l.flatten ++ L.flatten.flatten).take b, 0) else ([], 10)) l 0 x6 rfl (by rw [c]; omega) hI
        rw [List.flatten_cons, List.flatten_append, ← List.append_assoc]
        exact this
    · refine ev_neg (by omega) ?_
      refine Ev.step (fun k => by simp only [split_Join.j1]; rfl) ?_
      refine ev_pos trivial ?_
      simp only [joinOk, decide_eq_false c, Bool.false_and]
      exact Ev.now _
theorem join_yes {b s m : Nat} (h : okS (b : Int) (s : Int) (m : Int)) (L : List (List (List Int))) (hL : L.length = blkN b s m) :
    Ev (fun k => split_Join.f k (b : Int) (s : Int) (m : Int) L) (if joinOk b s m 0 L = true then (L.flatten.flatten.take b, 0) else ([], 10)) := by
  unfold split_Join.f
  refine ev_val (right_yes h) (ev_pos rfl ?_)
  refine ev_val (blocks_yes h) (ev_pos (by omega) ?_)
  exact join_l0 h L hL L 0 [] rfl (by omega) (by simp [sumK])
theorem join_arg {b s m : Int} (h : ¬ okS b s m) (L : List (List (List Int))) : Ev (fun k => split_Join.f k b s m L) ([], 1) := by
  unfold split_Join.f
  exact ev_val (right_no h) (ev_neg (by decide) (Ev.now _))
theorem join_size {b s m : Nat} (h : okS (b : Int) (s : Int) (m : Int)) (L : List (List (List Int))) (hL : L.length ≠ blkN b s m) : Ev (fun k => split_Join.f k (b : Int) (s : Int) (m : Int) L) ([], 10) := by
  unfold split_Join.f
  exact ev_val (right_yes h) (ev_pos rfl (ev_val (blocks_yes h) (ev_neg (by omega) (Ev.now _))))
/-- What was cut may be joined, and gives what was cut. -/
theorem cut_joinOk {b s m : Nat} (n : Nat) : ∀ (i : Nat) (d : List F), joinOk b s m i (t3 (cutBlks b s m n i d)) = true := by
  induction n with
  | zero => intro i d; rfl
  | succ n ih =>
    intro i d
    show joinOk b s m i (tll (cutSyms s (kN b s m i) d) :: t3 (cutBlks b s m n (i + 1) (d.drop (kN b s m i * s)))) = true
    simp only [joinOk]
    rw [ih, tll_length, cutSyms_length, decide_eq_true rfl]
    have : ((tll (cutSyms s (kN b s m i) d)).any fun r => decide ((r.length : Int) ≠ (s : Int))) = false := by
      rw [List.any_eq_false]
      intro r hr
      obtain ⟨q, hq, rfl⟩ := List.mem_map.1 hr
      have := cutSyms_each s _ _ q hq
      simp [tl_length, this]
    rw [this]; rfl
theorem fit_fit (a c : Nat) (d : List F) : fitR a d ++ fitR c (d.drop a) = fitR (a + c) d := by
  unfold fitR
  rcases Nat.le_total a d.length with h | h
  · rw [List.take_add, List.length_drop, List.append_assoc]
    rw [show a - d.length = 0 from by omega, List.replicate_zero, List.nil_append, ← List.append_assoc]
    congr 2; omega
  · rw [List.drop_eq_nil_of_le h, List.take_of_length_le h, List.take_of_length_le (show d.length ≤ a + c by omega), List.take_nil, List.nil_append, List.append_assoc, List.length_nil, List.replicate_append_replicate]
    congr 2; omega
theorem cutBlks_flat (b s m n : Nat) : ∀ i d, (cutBlks b s m n i d).flatten.flatten = fitR ((sumK b s m (i + n) - sumK b s m i) * s) d := by
  induction n with
  | zero => intro i d; simp [cutBlks, fitR]
  | succ n ih =>
    intro i d
    simp only [cutBlks, List.flatten_cons, List.flatten_append]
    rw [ih, cutSyms_flat, fit_fit]
    have h1 := sumK_mono b s m (i + 1) (i + 1 + n) (by omega)
    have h2 : sumK b s m (i + 1) = sumK b s m i + kN b s m i := rfl
    rw [show i + (n + 1) = i + 1 + n from by omega, ← Nat.add_mul]
    congr 2
    omega
theorem cutAll_flat {b s m : Nat} (d : List F) : (cutAll b s m d).flatten.flatten = fitR (symN b s * s) d := by
  unfold cutAll
  rw [cutBlks_flat, Nat.zero_add, sumK_all]
  simp [sumK]
theorem t3_flat (X : List (List (List F))) : (t3 X).flatten.flatten = tl X.flatten.flatten := by
  unfold t3
  induction X with
  | nil => rfl
  | cons l X ih =>
    rw [List.map_cons, List.flatten_cons, List.flatten_append, ih, List.flatten_cons, List.flatten_append]
    have : (tll l).flatten = tl l.flatten := by
      induction l with
      | nil => rfl
      | cons r l ih2 =>
        show tl r ++ (tll l).flatten = tl (r ++ l.flatten)
        rw [ih2]; unfold tl; rw [List.map_append]
    rw [this]; unfold tl; rw [List.map_append]
theorem join_cut {b s m : Nat} (h : okS (b : Int) (s : Int) (m : Int)) (d : List F) (hd : d.length = b) :
    Ev (fun k => split_Join.f k (b : Int) (s : Int) (m : Int) (t3 (cutAll b s m d))) (tl d, 0) := by
  have hj := join_yes h (t3 (cutAll b s m d)) (by rw [t3_length]; unfold cutAll; rw [cutBlks_length])
  have hok : joinOk b s m 0 (t3 (cutAll b s m d)) = true := cut_joinOk _ _ _
  rw [if_pos hok, t3_flat, cutAll_flat, tl_take] at hj
  have hm := @sym_mul b s (ok_nat h).2.1.1
  have e : (fitR (symN b s * s) d).take b = d := by
    unfold fitR
    rw [List.take_of_length_le (l := d) (by omega), List.take_append_of_le_length (by omega), List.take_of_length_le (by omega)]
  rw [e] at hj
  exact hj
theorem rshape_yes {b s m : Int} (h : okS b s m) : fountainref1_RightShape.f b s m = some true := by
  obtain ⟨h1, h2, h3⟩ := h
  unfold fountainref1_RightShape.f
  rw [if_pos (by omega), if_pos (by omega), if_pos (by omega), if_pos (by omega), if_pos (by omega)]
  congr 1; exact decide_eq_true h3.2
theorem rshape_no {b s m : Int} (h : ¬ okS b s m) : fountainref1_RightShape.f b s m = some false := by
  unfold fountainref1_RightShape.f
  by_cases c1 : b ≥ 1
  · rw [if_pos c1]
    by_cases c2 : b ≤ 4000
    · rw [if_pos c2]
      by_cases c3 : s ≥ 1
      · rw [if_pos c3]
        by_cases c4 : s ≤ 64
        · rw [if_pos c4]
          by_cases c5 : m ≥ 1
          · rw [if_pos c5]
            congr 1; exact decide_eq_false (fun c6 => h ⟨⟨c1, c2⟩, ⟨c3, c4⟩, ⟨c5, c6⟩⟩)
          · rw [if_neg c5]
        · rw [if_neg c4]
      · rw [if_neg c3]
    · rw [if_neg c2]
  · rw [if_neg c1]

/-! ### rows held against rows -/
theorem from_l0 (L : List (List Int)) (hL : L.length < 2 ^ 42) (t : List (List Int)) : ∀ (i : Nat) (acc : List (List Int)), L.drop i = t → acc.length = i →
    Ev (fun k => fountainlaw2_From.l0 k L acc (i : Int)) (acc ++ t) := by
  induction t with
  | nil =>
    intro i acc hd ha
    refine Ev.step (fun k => by simp only [fountainlaw2_From.l0]; rfl) ?_
    have : L.length ≤ i := by have := congrArg List.length hd; simp at this; omega
    rw [List.append_nil]
    exact ev_neg (by omega) (Ev.now _)
  | cons x t ih =>
    intro i acc hd ha
    have hi : i < L.length := by
      rcases Nat.lt_or_ge i L.length with h' | h'
      · exact h'
      · rw [List.drop_eq_nil_of_le h'] at hd; cases hd
    have hc := List.drop_eq_getElem_cons hi
    rw [hd] at hc
    injection hc with h1 h2
    refine Ev.step (fun k => by simp only [fountainlaw2_From.l0]; rfl) ?_
    refine ev_pos (by omega) (ev_pos (by omega) (ev_pos (by omega) ?_))
    have e : rd_L1 L (i : Int) = x := by unfold rd_L1; rw [Int.toNat_natCast, List.getD_eq_getElem?_getD, List.getElem?_eq_getElem hi, h1]; rfl
    rw [e, w64 (i := (i : Int) + 1) (by omega) (by omega), show (i : Int) + 1 = ((i + 1 : Nat) : Int) from by omega]
    have := ih (i + 1) (acc ++ [x]) (by rw [← List.tail_drop, hd]; rfl) (by rw [List.length_append, List.length_singleton, ha])
    rw [List.append_assoc] at this
    exact this
theorem from_ev (L : List (List Int)) (hL : L.length < 2 ^ 42) : Ev (fun k => fountainlaw2_From.f k L) L := by
  unfold fountainlaw2_From.f
  exact from_l0 L hL L 0 [] rfl rfl
theorem same_l0 (L : List (List Int)) (hL : L.length < 2 ^ 42) (d : Nat) : ∀ i, i + d = L.length → Ev (fun k => fountainref1_SameRows.l0 k L L (i : Int)) true := by
  induction d with
  | zero =>
    intro i hi
    refine Ev.step (fun k => by simp only [fountainref1_SameRows.l0]; rfl) ?_
    exact ev_neg (by omega) (Ev.now _)
  | succ d ih =>
    intro i hi
    refine Ev.step (fun k => by simp only [fountainref1_SameRows.l0]; rfl) ?_
    refine ev_pos (by omega) (ev_pos (by omega) (ev_pos (by omega) (ev_pos (by trivial) ?_)))
    rw [w64 (i := (i : Int) + 1) (by omega) (by omega), show (i : Int) + 1 = ((i + 1 : Nat) : Int) from by omega]
    exact ih (i + 1) (by omega)
theorem same_ev (L : List (List Int)) (hL : L.length < 2 ^ 42) : Ev (fun k => fountainref1_SameRows.f k L L) true := by
  unfold fountainref1_SameRows.f
  exact ev_pos rfl (same_l0 L hL L.length 0 (by omega))

/-! ### the document's shapes, cutting and joining -/
theorem rsym_yes {b s m : Nat} (h : okS (b : Int) (s : Int) (m : Int)) : fountainref1_Symbols.f (b : Int) (s : Int) (m : Int) = some ((symN b s : Nat) : Int) := by
  obtain ⟨h1, h2, h3⟩ := ok_nat h
  have h4 := up_eq h1.1 (by omega) h2.1
  unfold split_up.f at h4
  unfold fountainref1_Symbols.f
  rw [rshape_yes h, Option.bind_some, if_pos rfl]
  exact h4
theorem rsym_no {b s m : Int} (h : ¬ okS b s m) : fountainref1_Symbols.f b s m = some 0 := by
  unfold fountainref1_Symbols.f
  rw [rshape_no h, Option.bind_some, if_neg (by decide)]
theorem rblk_yes {b s m : Nat} (h : okS (b : Int) (s : Int) (m : Int)) : fountainref1_Blocks.f (b : Int) (s : Int) (m : Int) = some ((blkN b s m : Nat) : Int) := by
  obtain ⟨h1, h2, h3⟩ := ok_nat h
  have hs := sym_pos b s
  have hl := sym_le (s := s) h1.1
  have h4 := up_eq hs (by omega) h3.1
  unfold split_up.f at h4
  unfold fountainref1_Blocks.f
  rw [rshape_yes h, Option.bind_some, if_pos rfl, rsym_yes h, Option.bind_some]
  exact h4
theorem rblk_no {b s m : Int} (h : ¬ okS b s m) : fountainref1_Blocks.f b s m = some 0 := by
  unfold fountainref1_Blocks.f
  rw [rshape_no h, Option.bind_some, if_neg (by decide)]
theorem rK_yes {b s m : Nat} (h : okS (b : Int) (s : Int) (m : Int)) (i : Nat) : Ev (fun k => fountainref1_K.f k (b : Int) (s : Int) (m : Int) (i : Int)) ((kN b s m i : Nat) : Int) := by
  obtain ⟨h1, h2, h3⟩ := ok_nat h
  have hs := sym_pos b s
  have hl := sym_le (s := s) h1.1
  have hbp := blk_pos b s m
  have hbl := @blk_le b s m
  unfold fountainref1_K.f
  refine ev_neg (by omega) (ev_val (rblk_yes h) ?_)
  refine Ev.step (fun k => by simp only [fountainref1_K.j0]; rfl) ?_
  by_cases c : i < blkN b s m
  · refine ev_neg (by rw [decide_eq_true_eq]; omega) ?_
    refine ev_val (rsym_yes h) (ev_val (rblk_yes h) (ev_neg (by omega) (ev_val (rsym_yes h) (ev_val (rblk_yes h) (ev_neg (by omega) ?_)))))
    have e1 : Int.tmod ((symN b s : Nat) : Int) ((blkN b s m : Nat) : Int) = ((symN b s % blkN b s m : Nat) : Int) := (Int.ofNat_tmod _ _).symm
    have e2 : Int.tdiv ((symN b s : Nat) : Int) ((blkN b s m : Nat) : Int) = ((symN b s / blkN b s m : Nat) : Int) := (Int.ofNat_tdiv _ _).symm
    have hle : symN b s / blkN b s m ≤ symN b s := Nat.div_le_self _ _
    have hk : kN b s m i = symN b s / blkN b s m + (if i < symN b s % blkN b s m then 1 else 0) := by unfold kN; rw [if_pos c]
    rw [e1, e2, hk]
    obtain ⟨q, hq⟩ : ∃ q, symN b s / blkN b s m = q := ⟨_, rfl⟩
    obtain ⟨p, hp⟩ : ∃ p, symN b s % blkN b s m = p := ⟨_, rfl⟩
    rw [hq] at hle ⊢
    rw [hp]
    by_cases c2 : i < p
    · rw [if_pos c2]
      refine ev_pos (by omega) ?_
      rw [w64 (i := (q : Int)) (by omega) (by omega), w64 (by omega) (by omega), show (q : Int) + 1 = ((q + 1 : Nat) : Int) from by omega]
      exact Ev.now _
    · rw [if_neg c2]
      refine ev_neg (by omega) ?_
      rw [w64 (i := (q : Int)) (by omega) (by omega)]
      exact Ev.now _
  · have hk : kN b s m i = 0 := by unfold kN; rw [if_neg c]
    rw [hk]
    exact ev_pos (decide_eq_true (by omega)) (Ev.now _)
/-- A block's number of symbols, whatever the shape and the block: both tell the same. -/
theorem K_both (b s m i : Int) : ∃ v, Ev (fun k => split_K.f k b s m i) v ∧ Ev (fun k => fountainref1_K.f k b s m i) v := by
  by_cases h : okS b s m
  · obtain ⟨b, rfl⟩ : ∃ n : Nat, b = (n : Int) := ⟨b.toNat, by have := h.1; omega⟩
    obtain ⟨s, rfl⟩ : ∃ n : Nat, s = (n : Int) := ⟨s.toNat, by have := h.2.1; omega⟩
    obtain ⟨m, rfl⟩ : ∃ n : Nat, m = (n : Int) := ⟨m.toNat, by have := h.2.2; omega⟩
    by_cases hi : i < 0
    · refine ⟨0, ?_, ?_⟩
      · unfold split_K.f
        refine ev_val (blocks_yes h) (ev_pos hi ?_)
        refine Ev.step (fun k => by simp only [split_K.j0]; rfl) ?_
        first | exact ev_pos trivial (Ev.now _) | exact ev_pos rfl (Ev.now _)
      · unfold fountainref1_K.f
        refine ev_pos hi ?_
        refine Ev.step (fun k => by simp only [fountainref1_K.j0]; rfl) ?_
        first | exact ev_pos trivial (Ev.now _) | exact ev_pos rfl (Ev.now _)
    · obtain ⟨i, rfl⟩ : ∃ n : Nat, i = (n : Int) := ⟨i.toNat, by omega⟩
      exact ⟨_, K_yes h i, rK_yes h i⟩
  · refine ⟨0, ?_, ?_⟩
    · unfold split_K.f
      refine ev_val (blocks_no h) ?_
      by_cases hi : i < 0
      · refine ev_pos hi ?_
        refine Ev.step (fun k => by simp only [split_K.j0]; rfl) ?_
        first | exact ev_pos trivial (Ev.now _) | exact ev_pos rfl (Ev.now _)
      · refine ev_neg hi ?_
        refine Ev.step (fun k => by simp only [split_K.j0]; rfl) ?_
        exact ev_pos (decide_eq_true (by omega)) (Ev.now _)
    · unfold fountainref1_K.f
      by_cases hi : i < 0
      · refine ev_pos hi ?_
        refine Ev.step (fun k => by simp only [fountainref1_K.j0]; rfl) ?_
        first | exact ev_pos trivial (Ev.now _) | exact ev_pos rfl (Ev.now _)
      · refine ev_neg hi (ev_val (rblk_no h) ?_)
        refine Ev.step (fun k => by simp only [fountainref1_K.j0]; rfl) ?_
        exact ev_pos (decide_eq_true (by omega)) (Ev.now _)
theorem fit_take (s c : Nat) (d : List F) : (fitR (s + c) d).take s = fitR s (d.take s) := by
  rw [← fit_fit, List.take_left' (fitR_length _ _)]
  unfold fitR
  rw [List.take_take, Nat.min_self, List.length_take]
  congr 2; omega
theorem fit_drop (s c : Nat) (d : List F) : (fitR (s + c) d).drop s = fitR c (d.drop s) := by
  rw [← fit_fit, List.drop_left' (fitR_length _ _)]
theorem rcut_l2 {b s m : Nat} (h : okS (b : Int) (s : Int) (m : Int)) (P : List F) (hP : P.length < 2 ^ 40) (X : List (List (List F))) (hX : X.length < 5000) (bi : Nat) (hbi : bi < 5000) (rest : Nat) (R : (List (List (List Int))) × Int) (n : Nat) : ∀ (i p : Nat) (d : List F) (acc : List (List F)), i + n = kN b s m bi → acc.length = i → P.drop p = fitR ((n + rest) * s) d → p + (n + rest) * s = P.length →
    Ev (fun k => fountainref1_CutUp.l1 k (tl P) (t3 (X ++ [acc ++ cutSyms s n d])) ((p + n * s : Nat) : Int) ((bi + 1 : Nat) : Int) (b : Int) (s : Int) (m : Int)) R →
    Ev (fun k => fountainref1_CutUp.l2 k (tl P) (t3 X) (p : Int) (bi : Int) (tll acc) (i : Int) (b : Int) (s : Int) (m : Int)) R := by
  obtain ⟨h1, h2, h3⟩ := ok_nat h
  have hk := k_le_sym b s m bi
  have hl := sym_le (s := s) h1.1
  induction n with
  | zero =>
    intro i p d acc hi ha hd hp hR
    refine Ev.step (fun k => by simp only [fountainref1_CutUp.l2]; rfl) ?_
    refine Ev.bind (rK_yes h bi) ?_
    refine ev_neg (by omega) (ev_pos (by rw [t3_length]; omega) ?_)
    rw [t3_snoc, w64 (i := (bi : Int) + 1) (by omega) (by omega), show (bi : Int) + 1 = ((bi + 1 : Nat) : Int) from by omega]
    simp only [cutSyms, List.append_nil, Nat.zero_mul, Nat.add_zero] at hR
    exact hR
  | succ n ih =>
    intro i p d acc hi ha hd hp hR
    have e : (n + 1 + rest) * s = s + (n + rest) * s := by rw [show n + 1 + rest = n + rest + 1 from by omega, Nat.succ_mul, Nat.add_comm]
    rw [e] at hd hp
    have hcut : (P.take (p + s)).drop p = fitR s (d.take s) := by
      rw [List.drop_take, show p + s - p = s from by omega, hd, fit_take]
    refine Ev.step (fun k => by simp only [fountainref1_CutUp.l2]; rfl) ?_
    refine Ev.bind (rK_yes h bi) ?_
    refine ev_pos (by omega) (ev_pos (by omega) ?_)
    rw [w64 (i := (p : Int) + (s : Int)) (by omega) (by omega), show (p : Int) + (s : Int) = ((p + s : Nat) : Int) from by omega]
    refine ev_pos (by omega) (ev_pos (by rw [tl_length]; omega) ?_)
    rw [Int.toNat_natCast, Int.toNat_natCast, tl_take, tl_drop, hcut]
    refine ev_val rfl (ev_pos (by rw [tl_length, fitR_length, List.length_nil]; omega) (ev_pos (by rw [tll_length]; omega) ?_))
    rw [List.nil_append, tll_snoc, w64 (i := (i : Int) + 1) (by omega) (by omega), show (i : Int) + 1 = ((i + 1 : Nat) : Int) from by omega]
    refine ih (i + 1) (p + s) (d.drop s) (acc ++ [fitR s (d.take s)]) (by omega) (by rw [List.length_append, List.length_singleton, ha]) ?_ (by omega) ?_
    · rw [← List.drop_drop, hd, fit_drop]
    · simp only [cutSyms] at hR
      rw [List.append_assoc, List.singleton_append, show p + s + n * s = p + (n + 1) * s from by rw [Nat.succ_mul]; omega]
      exact hR
theorem rcut_l1 {b s m : Nat} (h : okS (b : Int) (s : Int) (m : Int)) (P : List F) (hP : P.length < 2 ^ 40) (n : Nat) : ∀ (i p : Nat) (d : List F) (X : List (List (List F))), i + n = blkN b s m → X.length = i → P.drop p = fitR ((symN b s - sumK b s m i) * s) d → p + (symN b s - sumK b s m i) * s = P.length →
    Ev (fun k => fountainref1_CutUp.l1 k (tl P) (t3 X) (p : Int) (i : Int) (b : Int) (s : Int) (m : Int)) (t3 (X ++ cutBlks b s m n i d), 0) := by
  obtain ⟨h1, h2, h3⟩ := ok_nat h
  have hl := sym_le (s := s) h1.1
  have hbl := @blk_le b s m
  induction n with
  | zero =>
    intro i p d X hi hX hd hp
    refine Ev.step (fun k => by simp only [fountainref1_CutUp.l1]; rfl) ?_
    refine ev_val (rblk_yes h) (ev_neg (by omega) ?_)
    simp only [cutBlks, List.append_nil]
    exact Ev.now _
  | succ n ih =>
    intro i p d X hi hX hd hp
    have hsum := sumK_le b s m (i + 1) (by omega)
    have hs1 : sumK b s m (i + 1) = sumK b s m i + kN b s m i := rfl
    refine Ev.step (fun k => by simp only [fountainref1_CutUp.l1]; rfl) ?_
    refine ev_val (rblk_yes h) (ev_pos (by omega) ?_)
    have e : symN b s - sumK b s m i = kN b s m i + (symN b s - sumK b s m (i + 1)) := by omega
    rw [e] at hd hp
    refine rcut_l2 h P hP X (by omega) i (by omega) (symN b s - sumK b s m (i + 1)) _ (kN b s m i) 0 p d [] (by omega) rfl hd hp ?_
    have := ih (i + 1) (p + kN b s m i * s) (d.drop (kN b s m i * s)) (X ++ [cutSyms s (kN b s m i) d]) (by omega) (by rw [List.length_append, List.length_singleton, hX]) (by rw [← List.drop_drop, hd, Nat.add_mul, fit_drop]) (by rw [Nat.add_mul] at hp; omega)
    rw [List.append_assoc] at this
    exact this
theorem rcut_l0 {b s m : Nat} (h : okS (b : Int) (s : Int) (m : Int)) (d : List F) (hd : d.length = b) (n : Nat) : ∀ j, b + j + n = symN b s * s →
    Ev (fun k => fountainref1_CutUp.l0 k (tl (d ++ List.replicate j 0)) (b : Int) (s : Int) (m : Int)) (t3 (cutAll b s m d), 0) := by
  obtain ⟨h1, h2, h3⟩ := ok_nat h
  have hl := sym_le (s := s) h1.1
  have hm4 : symN b s * s ≤ 4000 * 64 := Nat.mul_le_mul (by omega) h2.2
  have hup : symN b s * s < b + s := by
    unfold symN upN
    have h2' := Nat.div_add_mod (b - 1) s
    rw [Nat.succ_mul, Nat.mul_comm]
    omega
  have hT : symN b s * s % s = 0 := Nat.mul_mod_left _ _
  induction n with
  | zero =>
    intro j hj
    refine Ev.step (fun k => by simp only [fountainref1_CutUp.l0]; rfl) ?_
    have hlen : (tl (d ++ List.replicate j (0 : F))).length = symN b s * s := by rw [tl_length, List.length_append, List.length_replicate, hd]; omega
    have hmod : (((tl (d ++ List.replicate j (0 : F))).length : Int) % (s : Int)) = 0 := by
      rw [hlen, ← Int.natCast_emod, hT]; rfl
    refine ev_neg (by omega) (ev_pos hmod ?_)
    have e : d ++ List.replicate j (0 : F) = fitR (symN b s * s) d := by
      unfold fitR
      rw [List.take_of_length_le (by omega)]
      congr 2; omega
    have hz : symN b s - sumK b s m 0 = symN b s := rfl
    exact rcut_l1 h (d ++ List.replicate j 0) (by rw [e, fitR_length]; omega) (blkN b s m) 0 0 d [] (by omega) rfl (by rw [List.drop_zero, hz, e]) (by rw [hz, e, fitR_length]; omega)
  | succ n ih =>
    intro j hj
    refine Ev.step (fun k => by simp only [fountainref1_CutUp.l0]; rfl) ?_
    have hlen : (tl (d ++ List.replicate j (0 : F))).length = b + j := by rw [tl_length, List.length_append, List.length_replicate, hd]
    have hmod : ¬ (((tl (d ++ List.replicate j (0 : F))).length : Int) % (s : Int)) = 0 := by
      rw [hlen, ← Int.natCast_emod]
      intro h0
      have h0' : (b + j) % s = 0 := by omega
      have h5 : (b + j) % s + (n + 1) = s ∨ True := Or.inr trivial
      have h6 : (symN b s * s - (b + j)) % s = 0 := Nat.mod_eq_zero_of_dvd (Nat.dvd_sub (Nat.dvd_of_mod_eq_zero hT) (Nat.dvd_of_mod_eq_zero h0'))
      rw [show symN b s * s - (b + j) = n + 1 from by omega, Nat.mod_eq_of_lt (by omega)] at h6
      omega
    refine ev_neg (by omega) (ev_neg hmod (ev_pos (by omega) ?_))
    have e : tl (d ++ List.replicate j (0 : F)) ++ [0] = tl (d ++ List.replicate (j + 1) 0) := by
      unfold tl
      rw [List.replicate_succ', ← List.append_assoc, List.map_append (l₁ := d ++ List.replicate j 0)]
      rfl
    rw [e]
    exact ih (j + 1) (by omega)
theorem rcut_yes {b s m : Nat} (h : okS (b : Int) (s : Int) (m : Int)) (d : List F) (hd : d.length = b) : Ev (fun k => fountainref1_CutUp.f k (b : Int) (s : Int) (m : Int) (tl d)) (t3 (cutAll b s m d), 0) := by
  obtain ⟨h1, h2, h3⟩ := ok_nat h
  have hm := @sym_mul b s h2.1
  unfold fountainref1_CutUp.f
  refine ev_val (rshape_yes h) (ev_pos rfl (ev_pos (by rw [tl_length]; omega) ?_))
  have hsum : Ev (fun k => fountainref1_Sum.f k 0 ([] : List (List Int))) [] := by
    unfold fountainref1_Sum.f
    refine ev_val (o := fountainref1_Cut.f 0 0 1000) rfl (ev_pos (by decide) (ev_pos (by decide) ?_))
    refine Ev.step (fun k => by simp only [fountainref1_Sum.l0]; rfl) ?_
    exact ev_neg (by decide) (Ev.now _)
  refine Ev.bind hsum (ev_pos (by rw [tl_length, List.length_nil]; omega) ?_)
  rw [List.nil_append]
  have := rcut_l0 h d hd (symN b s * s - b) 0 (by omega)
  rw [List.replicate_zero, List.append_nil] at this
  exact this
theorem rcut_arg {b s m : Int} (h : ¬ okS b s m) (d : List Int) : Ev (fun k => fountainref1_CutUp.f k b s m d) ([], 1) := by
  unfold fountainref1_CutUp.f
  exact ev_val (rshape_no h) (ev_neg (by decide) (Ev.now _))
theorem rcut_size {b s m : Int} (h : okS b s m) (d : List Int) (hd : (d.length : Int) ≠ b) : Ev (fun k => fountainref1_CutUp.f k b s m d) ([], 10) := by
  unfold fountainref1_CutUp.f
  exact ev_val (rshape_yes h) (ev_pos rfl (ev_neg hd (Ev.now _)))
theorem rdL3_drop {l : List (List (List Int))} {x : List (List Int)} {t : List (List (List Int))} {i : Nat} (h : l.drop i = x :: t) : rd_L3 l (i : Int) = x ∧ i < l.length ∧ l.drop (i + 1) = t := rdL2_drop h
theorem rjoin_l1 (b m : Int) (s : Nat) (L0 : List (List (List Int))) (bi : Nat) (hbi : bi < 5000) (hb2 : bi < L0.length) (l : List (List Int)) (hl : rd_L3 L0 (bi : Int) = l) (hlen : l.length < 5000) (R : List Int × Int) (T : List (List Int)) : ∀ (j : Nat) (x6 : List Int), l.drop j = T → x6.length + T.length * s < 2 ^ 40 →
    (T.any (fun r => decide ((r.length : Int) ≠ (s : Int))) = false → Ev (fun k => fountainref1_Join.l0 k L0 (x6 ++ T.flatten) ((bi + 1 : Nat) : Int) b (s : Int) m) R) →
    Ev (fun k => fountainref1_Join.l1 k L0 x6 (bi : Int) (j : Int) b (s : Int) m) (if T.any (fun r => decide ((r.length : Int) ≠ (s : Int))) = true then ([], 10) else R) := by
  induction T with
  | nil =>
    intro j x6 hj hx hR
    have hj2 : l.length ≤ j := List.drop_eq_nil_iff.1 hj
    have hR2 := hR rfl
    refine Ev.step (fun k => by simp only [fountainref1_Join.l1]; rfl) ?_
    refine ev_pos (by omega) (ev_pos (by omega) ?_)
    rw [hl]
    refine ev_neg (by omega) ?_
    rw [w64 (i := (bi : Int) + 1) (by omega) (by omega), show (bi : Int) + 1 = ((bi + 1 : Nat) : Int) from by omega]
    rw [List.flatten_nil, List.append_nil] at hR2
    exact hR2
  | cons r T ih =>
    intro j x6 hj hx hR
    obtain ⟨h1, h2, h3⟩ := rdL1_drop hj
    rw [List.length_cons, Nat.succ_mul] at hx
    refine Ev.step (fun k => by simp only [fountainref1_Join.l1]; rfl) ?_
    refine ev_pos (by omega) (ev_pos (by omega) ?_)
    rw [hl]
    refine ev_pos (by omega) (ev_pos (by omega) ?_)
    rw [h1]
    by_cases c : r.length = s
    · have hany : (r :: T).any (fun r => decide ((r.length : Int) ≠ (s : Int))) = T.any (fun r => decide ((r.length : Int) ≠ (s : Int))) := by
        rw [List.any_cons, decide_eq_false (fun k => k (by rw [c])), Bool.false_or]
      rw [hany] at hR ⊢
      refine ev_pos (by rw [c]) (ev_pos (by omega) ?_)
      rw [w64 (i := (j : Int) + 1) (by omega) (by omega), show (j : Int) + 1 = ((j + 1 : Nat) : Int) from by omega]
      refine ih (j + 1) (x6 ++ r) h3 (by rw [List.length_append]; omega) ?_
      rw [List.append_assoc]
      exact hR
    · have hany : (r :: T).any (fun r => decide ((r.length : Int) ≠ (s : Int))) = true := by
        rw [List.any_cons, decide_eq_true (show ((r.length : Int) ≠ (s : Int)) by omega), Bool.true_or]
      rw [if_pos hany]
      exact ev_neg (by omega) (Ev.now _)
theorem rjoin_l0 {b s m : Nat} (h : okS (b : Int) (s : Int) (m : Int)) (L0 : List (List (List Int))) (hL0 : L0.length = blkN b s m) (L : List (List (List Int))) : ∀ (i : Nat) (x6 : List Int), L0.drop i = L → i + L.length = L0.length → x6.length = sumK b s m i * s →
    Ev (fun k => fountainref1_Join.l0 k L0 x6 (i : Int) (b : Int) (s : Int) (m : Int)) (if joinOk b s m i L = true then ((x6 ++ L.flatten.flatten).take b, 0) else ([], 10)) := by
  obtain ⟨h1, h2, h3⟩ := ok_nat h
  have hl := sym_le (s := s) h1.1
  have hbl := @blk_le b s m
  induction L with
  | nil =>
    intro i x6 hd hi hx
    rw [List.length_nil] at hi
    obtain rfl : i = blkN b s m := by omega
    rw [sumK_all] at hx
    have hm := @sym_mul b s h2.1
    refine Ev.step (fun k => by simp only [fountainref1_Join.l0]; rfl) ?_
    refine ev_neg (by omega) (ev_pos (by omega) (ev_pos (by omega) ?_))
    rw [Int.toNat_natCast]
    simp only [joinOk, if_true, List.flatten_nil, List.append_nil]
    exact Ev.now _
  | cons l L ih =>
    intro i x6 hd hi hx
    obtain ⟨e1, e2, e3⟩ := rdL3_drop hd
    rw [List.length_cons] at hi
    have hk := k_le_sym b s m i
    have hsum := sumK_le b s m (i + 1) (by omega)
    simp only [sumK] at hsum
    refine Ev.step (fun k => by simp only [fountainref1_Join.l0]; rfl) ?_
    refine ev_pos (by omega) (ev_pos (by omega) ?_)
    refine Ev.bind (rK_yes h i) ?_
    rw [e1]
    by_cases c : l.length = kN b s m i
    · refine ev_pos (by omega) ?_
      have hm4 : sumK b s m i * s + kN b s m i * s ≤ 4000 * 64 := by rw [← Nat.add_mul]; exact Nat.mul_le_mul (by omega) h2.2
      have := rjoin_l1 (b : Int) (m : Int) s L0 i (by omega) e2 l e1 (by omega) (if joinOk b s m (i + 1) L = true then ((x6 ++ l.flatten ++ L.flatten.flatten).take b, 0) else ([], 10)) l 0 x6 rfl (by rw [c]; omega) (fun ha => by
        have hr : ∀ r ∈ l, r.length = s := by
          intro r hr
          have := List.any_eq_false.1 ha r hr
          simp only [decide_eq_true_eq, ne_eq, Decidable.not_not] at this
          omega
        have hfl := flat_len hr
        exact ih (i + 1) (x6 ++ l.flatten) e3 (by omega) (by rw [List.length_append, hx, hfl, c, sumK, Nat.add_mul]))
      simp only [joinOk, decide_eq_true c, Bool.true_and]
      cases ha : (l.any fun r => decide ((r.length : Int) ≠ (s : Int))) with
      | true => rw [if_pos ha] at this; exact this
      | false =>
        rw [if_neg (by rw [ha]; decide)] at this
        rw [List.flatten_cons, List.flatten_append, ← List.append_assoc]
        exact this
    · refine ev_neg (by omega) ?_
      simp only [joinOk, decide_eq_false c, Bool.false_and]
      exact Ev.now _
theorem rjoin_yes {b s m : Nat} (h : okS (b : Int) (s : Int) (m : Int)) (L : List (List (List Int))) (hL : L.length = blkN b s m) :
    Ev (fun k => fountainref1_Join.f k (b : Int) (s : Int) (m : Int) L) (if joinOk b s m 0 L = true then (L.flatten.flatten.take b, 0) else ([], 10)) := by
  unfold fountainref1_Join.f
  refine ev_val (rshape_yes h) (ev_pos rfl ?_)
  refine ev_val (rblk_yes h) (ev_pos (by omega) ?_)
  exact rjoin_l0 h L hL L 0 [] rfl (by omega) (by simp [sumK])
theorem rjoin_arg {b s m : Int} (h : ¬ okS b s m) (L : List (List (List Int))) : Ev (fun k => fountainref1_Join.f k b s m L) ([], 1) := by
  unfold fountainref1_Join.f
  exact ev_val (rshape_no h) (ev_neg (by decide) (Ev.now _))
theorem rjoin_size {b s m : Nat} (h : okS (b : Int) (s : Int) (m : Int)) (L : List (List (List Int))) (hL : L.length ≠ blkN b s m) : Ev (fun k => fountainref1_Join.f k (b : Int) (s : Int) (m : Int) L) ([], 10) := by
  unfold fountainref1_Join.f
  exact ev_val (rshape_yes h) (ev_pos rfl (ev_val (rblk_yes h) (ev_neg (by omega) (Ev.now _))))
theorem alive_ev : Ev (fun k => fountainlaw12_alive.f k) true := by
  unfold fountainlaw12_alive.f
  have h3 : okS ((3 : Nat) : Int) ((2 : Nat) : Int) ((1 : Nat) : Int) := by decide
  have hc := cut_yes h3 [97, 98, 99] rfl
  have e : tl [97, 98, 99] = [97, 98, 99] := rfl
  rw [e] at hc
  refine Ev.bind hc ?_
  have h5 : okS ((5 : Nat) : Int) ((2 : Nat) : Int) ((2 : Nat) : Int) := by decide
  refine ev_val (symbols_yes h5) ?_
  refine ev_pos rfl ?_
  refine ev_val (o := fountainlaw12_num.f _) rfl (ev_pos rfl ?_)
  show Ev (fun _ => some (((t3 (cutAll 3 2 1 [97, 98, 99])).length : Int) == 2)) true
  rw [t3_length]
  unfold cutAll
  rw [cutBlks_length]
  exact Ev.now _

end Go.Proofs.Ytinplhdjgjijiaa.FSplitTells
