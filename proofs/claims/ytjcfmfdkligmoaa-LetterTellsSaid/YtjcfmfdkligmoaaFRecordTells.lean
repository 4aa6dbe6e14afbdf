/- What the printed functions of package field, and of the document's first chapter, come to, in the numbers of Gf: for bytes, whatever the other arguments. -/
import Derived.Test.YtjcfmfdkligmoaaGf
import Derived.Test.YtjcfmfdkligmoaaRw
import Derived.Test.YtjcfmfdkligmoaaSp
import Derived.Test.YtjcfmfdkligmoaaSt
import Derived.Test.YtjcfmfdkligmoaaPRecordTellsx8
import Derived.Test.YtjcfmfdkligmoaaPRecordTellsx9
import Derived.Test.YtjcfmfdkligmoaaPRecordTellsx12
import Derived.Test.YtjcfmfdkligmoaaPRecordTellsx13
import Derived.Test.YtjcfmfdkligmoaaRq
namespace Go.Proofs.Ytjcfmfdkligmoaa.FRecordTells
open Go.RowKit Go.Proofs.Ytjcfmfdkligmoaa.PRecordTells Go.Proofs.YtjcfmfdkligmoaaW.PrintWords Go.Proofs.YtjcfmfdkligmoaaW.PrintLast Go.Proofs.YtjcfmfdkligmoaaW.PrintMore Go.Proofs.Ytjcfmfdkligmoaa.Gf Go.Proofs.Ytjcfmfdkligmoaa.Rw Go.Proofs.Ytjcfmfdkligmoaa.Sp Go.Proofs.Ytjcfmfdkligmoaa.St
set_option linter.unusedVariables false
theorem w64 {i : Int} (h0 : -9223372036854775808 ≤ i) (h1 : i < 9223372036854775808) : wrap64 i = i := by unfold wrap64; omega
theorem u64w {i : Int} (h0 : 0 ≤ i) (h1 : i < 9223372036854775808) : IntKind.u64.wrap i = i := by
 simp [IntKind.wrap, IntKind.bits, IntKind.signed]; omega
theorem rd_drop {l : List Int} {x : Int} {t : List Int} {i : Nat} (h : l.drop i = x :: t) : rd l (i : Int) = x ∧ i < l.length ∧ l.drop (i + 1) = t := by
 have hi : i < l.length := by
  rcases Nat.lt_or_ge i l.length with h' | h'
  ·exact h'
  ·rw [List.drop_eq_nil_of_le h'] at h; cases h
 have := List.drop_eq_getElem_cons hi
 rw [this] at h
 injection h with h1 h2
 refine ⟨?_, hi, h2⟩
 unfold rd
 simp [List.getD, hi, h1]
theorem and_i64 (a b : Nat) (ha : a < 2 ^ 40) (hb : b < 2 ^ 40) : Go.bits .and .i64 (a : Int) (b : Int) = ((a &&& b : Nat) : Int) := by
 have hx : a &&& b < 2 ^ 40 := Nat.and_lt_two_pow a hb
 have hp : 2 ^ 40 ≤ 2 ^ IntKind.i64.bits := by decide
 have ha' : a % 2 ^ IntKind.i64.bits = a := Nat.mod_eq_of_lt (by omega)
 have hb' : b % 2 ^ IntKind.i64.bits = b := Nat.mod_eq_of_lt (by omega)
 simp only [Go.bits, BitVec.ofInt_natCast, BitVec.toNat_and, BitVec.toNat_ofNat, ha', hb']
 rw [IntWalk.i64_left]
 exact w64 (by omega) (by omega)
theorem ev_pos {α : Type} {c : Prop} [Decidable c] {f g : Nat → Option α} {r : α} (h : c) (e : Ev f r) : Ev (fun k => if c then f k else g k) r := by
 simp only [if_pos h]; exact e
theorem ev_neg {α : Type} {c : Prop} [Decidable c] {f g : Nat → Option α} {r : α} (h : ¬ c) (e : Ev g r) : Ev (fun k => if c then f k else g k) r := by
 simp only [if_neg h]; exact e
theorem ev_val {α β : Type} {o : Option α} {a : α} {F : Nat → α → Option β} {r : β} (h : o = some a) (e : Ev (fun k => F k a) r) : Ev (fun k => o.bind (F k)) r := by
 subst h; exact e
theorem within_eq (a m : Int) : split_within.f a m = some (decide (1 ≤ a ∧ a ≤ m)) := by
 unfold split_within.f
 by_cases h : a ≥ 1
 ·rw [if_pos h]; congr 1; by_cases h2 : a ≤ m <;> simp [h2] <;> omega
 ·rw [if_neg h]; congr 1; simp; omega
theorem right_eq (b s m : Int) : split_Right.f b s m = some (decide (okS b s m)) := by
 unfold split_Right.f
 rw [within_eq, Option.bind_some]
 by_cases h1 : 1 ≤ b ∧ b ≤ 4000
 ·rw [if_pos (decide_eq_true h1), within_eq, Option.bind_some]
  by_cases h2 : 1 ≤ s ∧ s ≤ 64
  ·rw [if_pos (decide_eq_true h2), within_eq, Option.bind_some]
   exact congrArg some (decide_eq_decide.2 ⟨fun h3 => ⟨h1, h2, h3⟩, fun h => h.2.2⟩)
  ·rw [if_neg (by rw [decide_eq_true_eq]; exact h2)]
   congr 1; exact (decide_eq_false (fun h => h2 h.2.1)).symm
 ·rw [if_neg (by rw [decide_eq_true_eq]; exact h1)]
  congr 1; exact (decide_eq_false (fun h => h1 h.1)).symm
theorem right_yes {b s m : Int} (h : okS b s m) : split_Right.f b s m = some true := by rw [right_eq, decide_eq_true h]
theorem right_no {b s m : Int} (h : ¬ okS b s m) : split_Right.f b s m = some false := by rw [right_eq, decide_eq_false h]
theorem up_eq {a b : Nat} (ha : 1 ≤ a) (ha2 : a < 2 ^ 40) (hb : 1 ≤ b) : split_up.f (a : Int) (b : Int) = some ((upN a b : Nat) : Int) := by
 unfold split_up.f
 rw [if_neg (by omega), w64 (i := (a : Int) - 1) (by omega) (by omega), show (a : Int) - 1 = ((a - 1 : Nat) : Int) from by omega]
 have e : Int.tdiv ((a - 1 : Nat) : Int) (b : Int) = (((a - 1) / b : Nat) : Int) := (Int.ofNat_tdiv _ _).symm
 have hle : (a - 1) / b ≤ a - 1 := Nat.div_le_self _ _
 unfold upN
 rw [e]
 obtain ⟨q, hq⟩ : ∃ q, (a - 1) / b = q := ⟨_, rfl⟩
 rw [hq] at hle ⊢
 rw [w64 (i := (q : Int)) (by omega) (by omega), w64 (by omega) (by omega)]
 congr 1
theorem ok_nat {b s m : Nat} (h : okS (b : Int) (s : Int) (m : Int)) : (1 ≤ b ∧ b ≤ 4000) ∧ (1 ≤ s ∧ s ≤ 64) ∧ (1 ≤ m ∧ m ≤ 40) := by unfold okS at h; omega
theorem symbols_yes {b s m : Nat} (h : okS (b : Int) (s : Int) (m : Int)) : split_Symbols.f (b : Int) (s : Int) (m : Int) = some ((symN b s : Nat) : Int) := by
 obtain ⟨h1, h2, h3⟩ := ok_nat h
 unfold split_Symbols.f
 rw [right_yes h, Option.bind_some, if_pos rfl, up_eq h1.1 (by omega) h2.1, Option.bind_some]; rfl
theorem blocks_yes {b s m : Nat} (h : okS (b : Int) (s : Int) (m : Int)) : split_Blocks.f (b : Int) (s : Int) (m : Int) = some ((blkN b s m : Nat) : Int) := by
 obtain ⟨h1, h2, h3⟩ := ok_nat h
 have hs := sym_pos b s
 have hl := sym_le (s := s) h1.1
 unfold split_Blocks.f
 rw [right_yes h, Option.bind_some, if_pos rfl, symbols_yes h, Option.bind_some, up_eq hs (by omega) h3.1, Option.bind_some]; rfl
def B (n : Int) (i : Int) : Int := shr .i64 n i % 256
def N2 (n : Int) : List Int := [B n 8, B n 0]
def N3 (n : Int) : List Int := [B n 16, B n 8, B n 0]
def N4 (n : Int) : List Int := [B n 24, B n 16, B n 8, B n 0]
set_option maxRecDepth 100000 in
theorem num2_ev (n : Int) : Ev (fun k => record_Number.f k n 2) (N2 n) := Ev.of (fun k => record_Number.mono _ _ k) (k := 9) (by kernel_rfl)
set_option maxRecDepth 100000 in
theorem num3_ev (n : Int) : Ev (fun k => record_Number.f k n 3) (N3 n) := Ev.of (fun k => record_Number.mono _ _ k) (k := 9) (by kernel_rfl)
set_option maxRecDepth 100000 in
theorem num4_ev (n : Int) : Ev (fun k => record_Number.f k n 4) (N4 n) := Ev.of (fun k => record_Number.mono _ _ k) (k := 9) (by kernel_rfl)
theorem rdL1_drop {l : List (List Int)} {x : List Int} {t : List (List Int)} {i : Nat} (h : l.drop i = x :: t) : rd_L1 l (i : Int) = x ∧ i < l.length ∧ l.drop (i + 1) = t := by
 have hi : i < l.length := by
  rcases Nat.lt_or_ge i l.length with h' | h'
  ·exact h'
  ·rw [List.drop_eq_nil_of_le h'] at h; cases h
 have := List.drop_eq_getElem_cons hi
 rw [this] at h
 injection h with h1 h2
 refine ⟨?_, hi, h2⟩
 unfold rd_L1
 simp [List.getD, hi, h1]
theorem cat_l1 (L : List (List Int)) (hL : L.length < 2 ^ 40) (t : List (List Int)) : ∀ (i : Nat) (acc : List Int), L.drop i = t → acc.length + t.flatten.length < 2 ^ 40 →
 Ev (fun k => cat_bb.l1 k acc L (L.length : Int) (i : Int)) (acc ++ t.flatten) := by
 induction t with
 | nil =>
  intro i acc hd _
  have : L.length ≤ i := List.drop_eq_nil_iff.1 hd
  refine Ev.step (fun k => by simp only [cat_bb.l1]; rfl) ?_
  rw [List.flatten_nil, List.append_nil]
  exact ev_neg (by omega) (Ev.now _)
 | cons r t ih =>
  intro i acc hd hs
  obtain ⟨h1, h2, h3⟩ := rdL1_drop hd
  rw [List.flatten_cons, List.length_append] at hs
  refine Ev.step (fun k => by simp only [cat_bb.l1]; rfl) ?_
  refine ev_pos (by omega) (ev_pos (by omega) (ev_pos (by omega) ?_))
  rw [h1]
  refine ev_pos (by omega) ?_
  rw [w64 (i := (i : Int) + 1) (by omega) (by omega), show (i : Int) + 1 = ((i + 1 : Nat) : Int) from by omega]
  have := ih (i + 1) (acc ++ r) h3 (by rw [List.length_append]; omega)
  rw [List.append_assoc] at this
  rw [List.flatten_cons]
  exact this
theorem cat_l0 (L : List (List Int)) (hL : L.length < 2 ^ 40) (t : List (List Int)) : ∀ (i n : Nat), L.drop i = t → n + t.flatten.length < 2 ^ 40 → L.flatten.length < 2 ^ 40 →
 Ev (fun k => cat_bb.l0 k L (n : Int) L (L.length : Int) (i : Int)) L.flatten := by
 induction t with
 | nil =>
  intro i n hd hn hs
  have : L.length ≤ i := List.drop_eq_nil_iff.1 hd
  rw [List.flatten_nil, List.length_nil] at hn
  refine Ev.step (fun k => by simp only [cat_bb.l0]; rfl) ?_
  refine ev_neg (by omega) ?_
  refine ev_val (o := Cl.grow.f (n : Int)) (a := []) (by unfold Cl.grow.f; rw [if_pos (by omega), if_pos (by omega)]) ?_
  have := cat_l1 L hL L 0 [] rfl (by rw [List.length_nil]; omega)
  rw [List.nil_append] at this
  exact this
 | cons r t ih =>
  intro i n hd hn hs
  obtain ⟨h1, h2, h3⟩ := rdL1_drop hd
  rw [List.flatten_cons, List.length_append] at hn
  refine Ev.step (fun k => by simp only [cat_bb.l0]; rfl) ?_
  refine ev_pos (by omega) (ev_pos (by omega) (ev_pos (by omega) ?_))
  rw [h1, w64 (i := (n : Int) + (r.length : Int)) (by omega) (by omega)]
  refine ev_neg (by omega) ?_
  rw [w64 (i := (i : Int) + 1) (by omega) (by omega), show (i : Int) + 1 = ((i + 1 : Nat) : Int) from by omega, show (n : Int) + (r.length : Int) = ((n + r.length : Nat) : Int) from by omega]
  exact ih (i + 1) (n + r.length) h3 (by omega) hs
theorem cat_ev (L : List (List Int)) (hL : L.length < 2 ^ 40) (hs : L.flatten.length < 2 ^ 40) : Ev (fun k => cat_bb.f k L) L.flatten := by
 unfold cat_bb.f
 exact cat_l0 L hL L 0 0 rfl (by omega) hs
def wh (l : List Int) : Int := l.foldl (fun x a => Go.bits .or .i64 (wrap64 (x * 256)) (wrap64 a)) 0
theorem whole_l0 (l : List Int) (hl : l.length < 2 ^ 40) (t : List Int) : ∀ (i : Nat) (x : Int), l.drop i = t →
 Ev (fun k => record_Whole.l0 k x l (l.length : Int) (i : Int)) (t.foldl (fun x a => Go.bits .or .i64 (wrap64 (x * 256)) (wrap64 a)) x) := by
 induction t with
 | nil =>
  intro i x hd
  have : l.length ≤ i := List.drop_eq_nil_iff.1 hd
  refine Ev.step (fun k => by simp only [record_Whole.l0]; rfl) ?_
  exact ev_neg (by omega) (Ev.now _)
 | cons a t ih =>
  intro i x hd
  obtain ⟨h1, h2, h3⟩ := rd_drop hd
  refine Ev.step (fun k => by simp only [record_Whole.l0]; rfl) ?_
  refine ev_pos (by omega) (ev_pos (by omega) (ev_pos (by omega) ?_))
  rw [h1, w64 (i := (i : Int) + 1) (by omega) (by omega), show (i : Int) + 1 = ((i + 1 : Nat) : Int) from by omega]
  exact ih (i + 1) _ h3
theorem whole_ev (l : List Int) (hl : l.length < 2 ^ 40) : Ev (fun k => record_Whole.f k l) (wh l) := by
 unfold record_Whole.f
 exact whole_l0 l hl l 0 0 rfl
theorem rwithin_eq (n a b : Int) : record_within.f n a b = some (decide (a ≤ n ∧ n ≤ b)) := by
 unfold record_within.f
 by_cases h : n ≥ a
 ·rw [if_pos h]; congr 1; by_cases h2 : n ≤ b <;> simp [h2] <;> omega
 ·rw [if_neg h]; congr 1; simp; omega
def okR (p n b s m bl e : Int) (g : Bool) (u : Int) (D : List Int) : Prop :=
 (0 ≤ p ∧ p ≤ 2147483647) ∧ (1 ≤ n ∧ n ≤ 2147483647) ∧ (0 ≤ u ∧ u ≤ 2147483647) ∧
 (g = true → b = 0 ∧ s = 0 ∧ m = 0 ∧ bl = 0 ∧ e = 0 ∧ D.length = 0) ∧
 (g = false → okS b s m ∧ (0 ≤ bl ∧ bl < ((blkN b.toNat s.toNat m.toNat : Nat) : Int)) ∧ (0 ≤ e ∧ e < 16777216) ∧ (D.length : Int) = s)
theorem j0_step {p n b s m bl e : Int} {g : Bool} {u : Int} {D : List Int} {v : Bool} (h : Ev (fun k => if g = true then (if (b == 0 && (s == 0 && (m == 0))) = true then (if bl = 0 then (if e = 0 then (some ((D.length : Int) == 0)) else (some false)) else (some false)) else (some false)) else ((split_Right.f b s m).bind fun t116 => (if t116 = true then ((split_Blocks.f b s m).bind fun t117 => ((record_within.f bl 0 (wrap64 (t117 - 1))).bind fun t118 => (if t118 = true then ((record_within.f e 0 16777215).bind fun t119 => (if t119 = true then (some ((D.length : Int) == s)) else (some false))) else (some false)))) else (some false)))) v) :
 Ev (fun k => record_Right.j0 k false p n b s m bl e g u D) v := by
 refine Ev.step (fun k => by simp only [record_Right.j0]; rfl) ?_
 refine ev_neg (by decide) ?_
 exact h
theorem j0_ev (p n b s m bl e : Int) (g : Bool) (u : Int) (D : List Int) : ∃ v : Bool, Ev (fun k => record_Right.j0 k false p n b s m bl e g u D) v ∧
 (v = true ↔ (g = true → b = 0 ∧ s = 0 ∧ m = 0 ∧ bl = 0 ∧ e = 0 ∧ D.length = 0) ∧
 (g = false → okS b s m ∧ (0 ≤ bl ∧ bl < ((blkN b.toNat s.toNat m.toNat : Nat) : Int)) ∧ (0 ≤ e ∧ e < 16777216) ∧ (D.length : Int) = s)) := by
 cases g with
 | true =>
  by_cases c1 : (b == 0 && (s == 0 && (m == 0))) = true
  ·by_cases c2 : bl = 0
   ·by_cases c3 : e = 0
    ·refine ⟨((D.length : Int) == 0), j0_step (ev_pos rfl (ev_pos c1 (ev_pos c2 (ev_pos c3 (Ev.now _))))), ?_⟩
     simp at c1
     simp [c1, c2, c3]
    ·refine ⟨false, j0_step (ev_pos rfl (ev_pos c1 (ev_pos c2 (ev_neg c3 (Ev.now _))))), ?_⟩
     simp [c3]
   ·refine ⟨false, j0_step (ev_pos rfl (ev_pos c1 (ev_neg c2 (Ev.now _)))), ?_⟩
    simp [c2]
  ·refine ⟨false, j0_step (ev_pos rfl (ev_neg c1 (Ev.now _))), ?_⟩
   have c2 : ¬ (b = 0 ∧ s = 0 ∧ m = 0) := fun k => c1 (by simp [k.1, k.2.1, k.2.2])
   exact ⟨fun h => (by cases h), fun h => absurd ⟨(h.1 rfl).1, (h.1 rfl).2.1, (h.1 rfl).2.2.1⟩ c2⟩
 | false =>
  by_cases h : okS b s m
  ·obtain ⟨b, rfl⟩ : ∃ n : Nat, b = (n : Int) := ⟨b.toNat, by have := h.1; omega⟩
   obtain ⟨s, rfl⟩ : ∃ n : Nat, s = (n : Int) := ⟨s.toNat, by have := h.2.1; omega⟩
   obtain ⟨m, rfl⟩ : ∃ n : Nat, m = (n : Int) := ⟨m.toNat, by have := h.2.2; omega⟩
   have h1 := ok_nat h
   have hl := sym_le (s := s) h1.1.1
   have hbl := @blk_le b s m
   have hbp := blk_pos b s m
   obtain ⟨Q, hQ⟩ : ∃ Q, blkN b s m = Q := ⟨_, rfl⟩
   have hQ2 : blkN (b : Int).toNat (s : Int).toNat (m : Int).toNat = Q := by rw [Int.toNat_natCast, Int.toNat_natCast, Int.toNat_natCast, hQ]
   rw [hQ2]
   rw [hQ] at hbl hbp
   have hb := blocks_yes h
   rw [hQ] at hb
   have hw : wrap64 ((Q : Int) - 1) = (Q : Int) - 1 := w64 (by omega) (by omega)
   by_cases c2 : 0 ≤ bl ∧ bl ≤ (Q : Int) - 1
   ·by_cases c3 : 0 ≤ e ∧ e ≤ 16777215
    ·refine ⟨((D.length : Int) == (s : Int)), j0_step (ev_neg (by decide) (ev_val (right_yes h) (ev_pos rfl (ev_val hb ?_)))), ?_⟩
     ·rw [hw]
      exact ev_val (rwithin_eq _ _ _) (ev_pos (decide_eq_true c2) (ev_val (rwithin_eq _ _ _) (ev_pos (decide_eq_true c3) (Ev.now _))))
     ·constructor
      ·intro h5
       exact ⟨fun h6 => (by cases h6), fun _ => ⟨h, ⟨c2.1, by omega⟩, ⟨c3.1, by omega⟩, beq_iff_eq.1 h5⟩⟩
      ·intro h5
       exact beq_iff_eq.2 (h5.2 rfl).2.2.2
    ·refine ⟨false, j0_step (ev_neg (by decide) (ev_val (right_yes h) (ev_pos rfl (ev_val hb ?_)))), ?_⟩
     ·rw [hw]
      exact ev_val (rwithin_eq _ _ _) (ev_pos (decide_eq_true c2) (ev_val (rwithin_eq _ _ _) (ev_neg (by rw [decide_eq_true_eq]; exact c3) (Ev.now _))))
     ·refine ⟨fun h5 => (by cases h5), fun h5 => ?_⟩
      have h6 := (h5.2 rfl).2.2.1
      exact absurd ⟨h6.1, by omega⟩ c3
   ·refine ⟨false, j0_step (ev_neg (by decide) (ev_val (right_yes h) (ev_pos rfl (ev_val hb ?_)))), ?_⟩
    ·rw [hw]
     exact ev_val (rwithin_eq _ _ _) (ev_neg (by rw [decide_eq_true_eq]; exact c2) (Ev.now _))
    ·refine ⟨fun h5 => (by cases h5), fun h5 => ?_⟩
     have h6 := (h5.2 rfl).2.1
     exact absurd ⟨h6.1, by omega⟩ c2
  ·refine ⟨false, j0_step (ev_neg (by decide) (ev_val (right_no h) (ev_neg (by decide) (Ev.now _)))), ?_⟩
   exact ⟨fun h5 => (by cases h5), fun h5 => absurd (h5.2 rfl).1 h⟩
theorem j0_off (p n b s m bl e : Int) (g : Bool) (u : Int) (D : List Int) : Ev (fun k => record_Right.j0 k true p n b s m bl e g u D) false := by
 refine Ev.step (fun k => by simp only [record_Right.j0]; rfl) ?_
 first | exact ev_pos trivial (Ev.now _) | exact ev_pos rfl (Ev.now _)
theorem Right_ev (p n b s m bl e : Int) (g : Bool) (u : Int) (D : List Int) : ∃ v : Bool, Ev (fun k => record_Right.f k p n b s m bl e g u D) v ∧ (v = true ↔ okR p n b s m bl e g u D) := by
 unfold record_Right.f okR
 by_cases c1 : 0 ≤ p ∧ p ≤ 2147483647
 ·by_cases c2 : 1 ≤ n ∧ n ≤ 2147483647
  ·by_cases c3 : 0 ≤ u ∧ u ≤ 2147483647
   ·obtain ⟨v, hv, hv2⟩ := j0_ev p n b s m bl e g u D
    refine ⟨v, ev_val (rwithin_eq _ _ _) (ev_pos (decide_eq_true c1) (ev_val (rwithin_eq _ _ _) (ev_pos (decide_eq_true c2) (ev_val (rwithin_eq _ _ _) ?_)))), ?_⟩
    ·rw [decide_eq_true c3]; exact hv
    ·rw [hv2]; exact ⟨fun h => ⟨c1, c2, c3, h.1, h.2⟩, fun h => ⟨h.2.2.2.1, h.2.2.2.2⟩⟩
   ·refine ⟨false, ev_val (rwithin_eq _ _ _) (ev_pos (decide_eq_true c1) (ev_val (rwithin_eq _ _ _) (ev_pos (decide_eq_true c2) (ev_val (rwithin_eq _ _ _) ?_)))), ?_⟩
    ·rw [decide_eq_false c3]; exact j0_off ..
    ·exact ⟨fun h => (by cases h), fun h => absurd h.2.2.1 c3⟩
  ·refine ⟨false, ev_val (rwithin_eq _ _ _) (ev_pos (decide_eq_true c1) (ev_val (rwithin_eq _ _ _) (ev_neg (by rw [decide_eq_true_eq]; exact c2) (j0_off ..)))), ?_⟩
   exact ⟨fun h => (by cases h), fun h => absurd h.2.1 c2⟩
 ·refine ⟨false, ev_val (rwithin_eq _ _ _) (ev_neg (by rw [decide_eq_true_eq]; exact c1) (j0_off ..)), ?_⟩
  exact ⟨fun h => (by cases h), fun h => absurd h.1 c1⟩
theorem Right_true {p n b s m bl e : Int} {g : Bool} {u : Int} {D : List Int} (h : okR p n b s m bl e g u D) : Ev (fun k => record_Right.f k p n b s m bl e g u D) true := by
 obtain ⟨v, hv, hv2⟩ := Right_ev p n b s m bl e g u D
 rw [← hv2.2 h]; exact hv
theorem Right_false {p n b s m bl e : Int} {g : Bool} {u : Int} {D : List Int} (h : ¬ okR p n b s m bl e g u D) : Ev (fun k => record_Right.f k p n b s m bl e g u D) false := by
 obtain ⟨v, hv, hv2⟩ := Right_ev p n b s m bl e g u D
 cases v with
 | true => exact absurd (hv2.1 rfl) h
 | false => exact hv
def hd (p n : Int) (g : Bool) (u : Int) : List Int := [if g = true then 1 else 0] ++ N4 p ++ N4 n ++ N4 u
def enc (p n b s m bl e : Int) (g : Bool) (u : Int) (D : List Int) : List Int := if g = true then hd p n g u else hd p n g u ++ N2 b ++ N2 s ++ N2 m ++ N2 bl ++ N3 e ++ D
theorem Bytes_ev {p n b s m bl e : Int} {g : Bool} {u : Int} {D : List Int} (h : okR p n b s m bl e g u D) (hD : D.length < 2 ^ 30) : Ev (fun k => record_Bytes.f k p n b s m bl e g u D) (enc p n b s m bl e g u D) := by
 unfold record_Bytes.f
 refine Ev.bind (Right_true h) (ev_pos rfl ?_)
 have e1 : ∀ x : Int, Ev (fun k => cat_bb.f k [[x], N4 p, N4 n, N4 u]) ([x] ++ N4 p ++ N4 n ++ N4 u) := by
  intro x
  have := cat_ev [[x], N4 p, N4 n, N4 u] (by simp) (by simp [N4])
  rwa [show [[x], N4 p, N4 n, N4 u].flatten = [x] ++ N4 p ++ N4 n ++ N4 u from by simp [N4]] at this
 cases g with
 | true =>
  refine ev_pos rfl ?_
  refine Ev.step (fun k => by simp only [record_Bytes.j0]; rfl) ?_
  refine Ev.bind (num4_ev p) (Ev.bind (num4_ev n) (Ev.bind (num4_ev u) (Ev.bind (e1 1) ?_)))
  first | exact ev_pos rfl (Ev.now _) | exact ev_pos trivial (Ev.now _)
 | false =>
  refine ev_neg (by decide) ?_
  refine Ev.step (fun k => by simp only [record_Bytes.j0]; rfl) ?_
  refine Ev.bind (num4_ev p) (Ev.bind (num4_ev n) (Ev.bind (num4_ev u) (Ev.bind (e1 0) (ev_neg (by decide) ?_))))
  refine Ev.bind (num2_ev b) (Ev.bind (num2_ev s) (Ev.bind (num2_ev m) (Ev.bind (num2_ev bl) (Ev.bind (num3_ev e) ?_))))
  have e2 := cat_ev [[0] ++ N4 p ++ N4 n ++ N4 u, N2 b, N2 s, N2 m, N2 bl, N3 e, D] (by simp) (by simp [N4, N2, N3]; omega)
  rw [show [[0] ++ N4 p ++ N4 n ++ N4 u, N2 b, N2 s, N2 m, N2 bl, N3 e, D].flatten = enc p n b s m bl e false u D from by simp [enc, hd, List.append_assoc]] at e2
  exact Ev.bind e2 (Ev.now _)
theorem enc_length_gone (p n b s m bl e : Int) (u : Int) (D : List Int) : (enc p n b s m bl e true u D).length = 13 := rfl
theorem enc_length (p n b s m bl e : Int) (u : Int) (D : List Int) : (enc p n b s m bl e false u D).length = 24 + D.length := by
 simp [enc, hd, N4, N2, N3]; omega
theorem equal_no (a c : List Int) (h : a.length ≠ c.length) : Ev (fun k => eq_bb.f k a c) false := by
 unfold eq_bb.f
 exact ev_neg (by omega) (Ev.now _)
theorem rshape_yes {b s m : Int} (h : okS b s m) : zp_RightShape.f b s m = some true := by
 obtain ⟨h1, h2, h3⟩ := h
 unfold zp_RightShape.f
 rw [if_pos (by omega), if_pos (by omega), if_pos (by omega), if_pos (by omega), if_pos (by omega)]
 congr 1; exact decide_eq_true h3.2
theorem rshape_no {b s m : Int} (h : ¬ okS b s m) : zp_RightShape.f b s m = some false := by
 unfold zp_RightShape.f
 by_cases c1 : b ≥ 1
 ·rw [if_pos c1]
  by_cases c2 : b ≤ 4000
  ·rw [if_pos c2]
   by_cases c3 : s ≥ 1
   ·rw [if_pos c3]
    by_cases c4 : s ≤ 64
    ·rw [if_pos c4]
     by_cases c5 : m ≥ 1
     ·rw [if_pos c5]
      congr 1; exact decide_eq_false (fun c6 => h ⟨⟨c1, c2⟩, ⟨c3, c4⟩, ⟨c5, c6⟩⟩)
     ·rw [if_neg c5]
    ·rw [if_neg c4]
   ·rw [if_neg c3]
  ·rw [if_neg c2]
 ·rw [if_neg c1]
theorem rsym_yes {b s m : Nat} (h : okS (b : Int) (s : Int) (m : Int)) : zp_Symbols.f (b : Int) (s : Int) (m : Int) = some ((symN b s : Nat) : Int) := by
 obtain ⟨h1, h2, h3⟩ := ok_nat h
 have h4 := up_eq h1.1 (by omega) h2.1
 unfold split_up.f at h4
 unfold zp_Symbols.f
 rw [rshape_yes h, Option.bind_some, if_pos rfl]
 exact h4
theorem rblk_yes {b s m : Nat} (h : okS (b : Int) (s : Int) (m : Int)) : zp_Blocks.f (b : Int) (s : Int) (m : Int) = some ((blkN b s m : Nat) : Int) := by
 obtain ⟨h1, h2, h3⟩ := ok_nat h
 have hs := sym_pos b s
 have hl := sym_le (s := s) h1.1
 have h4 := up_eq hs (by omega) h3.1
 unfold split_up.f at h4
 unfold zp_Blocks.f
 rw [rshape_yes h, Option.bind_some, if_pos rfl, rsym_yes h, Option.bind_some]
 exact h4
theorem rnum_eq (a : Int) : zq_num.f a = some (decide (0 ≤ a ∧ a ≤ 2147483647)) := by
 unfold zq_num.f
 by_cases h : a ≥ 0
 ·rw [if_pos h]; congr 1; by_cases h2 : a ≤ 2147483647 <;> simp [h2] <;> omega
 ·rw [if_neg h]; congr 1; simp; omega
theorem rj0_off (p n b s m bl e : Int) (g : Bool) (u : Int) (D : List Int) : Ev (fun k => zq_RightRecord.j0 k true p n b s m bl e g u D) false := by
 refine Ev.step (fun k => by simp only [zq_RightRecord.j0]; rfl) ?_
 first | exact ev_pos trivial (Ev.now _) | exact ev_pos rfl (Ev.now _)
theorem rj0_step {p n b s m bl e : Int} {g : Bool} {u : Int} {D : List Int} {v : Bool} (h : Ev (fun k => if g = true then (if (b == 0 && (s == 0 && (m == 0))) = true then (if bl = 0 then (if e = 0 then (some ((D.length : Int) == 0)) else (some false)) else (some false)) else (some false)) else ((zp_RightShape.f b s m).bind fun t250 => (if t250 = true then (if bl ≥ 0 then ((zp_Blocks.f b s m).bind fun t251 => (if bl < t251 then (if e ≥ 0 then (if e < 16777216 then (some ((D.length : Int) == s)) else (some false)) else (some false)) else (some false))) else (some false)) else (some false)))) v) :
 Ev (fun k => zq_RightRecord.j0 k false p n b s m bl e g u D) v := by
 refine Ev.step (fun k => by simp only [zq_RightRecord.j0]; rfl) ?_
 refine ev_neg (by decide) ?_
 exact h
theorem rj0_ev (p n b s m bl e : Int) (g : Bool) (u : Int) (D : List Int) : ∃ v : Bool, Ev (fun k => zq_RightRecord.j0 k false p n b s m bl e g u D) v ∧
 (v = true ↔ (g = true → b = 0 ∧ s = 0 ∧ m = 0 ∧ bl = 0 ∧ e = 0 ∧ D.length = 0) ∧
 (g = false → okS b s m ∧ (0 ≤ bl ∧ bl < ((blkN b.toNat s.toNat m.toNat : Nat) : Int)) ∧ (0 ≤ e ∧ e < 16777216) ∧ (D.length : Int) = s)) := by
 cases g with
 | true =>
  by_cases c1 : (b == 0 && (s == 0 && (m == 0))) = true
  ·by_cases c2 : bl = 0
   ·by_cases c3 : e = 0
    ·refine ⟨((D.length : Int) == 0), rj0_step (ev_pos rfl (ev_pos c1 (ev_pos c2 (ev_pos c3 (Ev.now _))))), ?_⟩
     simp at c1
     simp [c1, c2, c3]
    ·refine ⟨false, rj0_step (ev_pos rfl (ev_pos c1 (ev_pos c2 (ev_neg c3 (Ev.now _))))), ?_⟩
     simp [c3]
   ·refine ⟨false, rj0_step (ev_pos rfl (ev_pos c1 (ev_neg c2 (Ev.now _)))), ?_⟩
    simp [c2]
  ·refine ⟨false, rj0_step (ev_pos rfl (ev_neg c1 (Ev.now _))), ?_⟩
   have c2 : ¬ (b = 0 ∧ s = 0 ∧ m = 0) := fun k => c1 (by simp [k.1, k.2.1, k.2.2])
   exact ⟨fun h => (by cases h), fun h => absurd ⟨(h.1 rfl).1, (h.1 rfl).2.1, (h.1 rfl).2.2.1⟩ c2⟩
 | false =>
  by_cases h : okS b s m
  ·obtain ⟨b, rfl⟩ : ∃ n : Nat, b = (n : Int) := ⟨b.toNat, by have := h.1; omega⟩
   obtain ⟨s, rfl⟩ : ∃ n : Nat, s = (n : Int) := ⟨s.toNat, by have := h.2.1; omega⟩
   obtain ⟨m, rfl⟩ : ∃ n : Nat, m = (n : Int) := ⟨m.toNat, by have := h.2.2; omega⟩
   obtain ⟨Q, hQ⟩ : ∃ Q, blkN b s m = Q := ⟨_, rfl⟩
   have hQ2 : blkN (b : Int).toNat (s : Int).toNat (m : Int).toNat = Q := by rw [Int.toNat_natCast, Int.toNat_natCast, Int.toNat_natCast, hQ]
   rw [hQ2]
   have hb := rblk_yes h
   rw [hQ] at hb
   by_cases c1 : bl ≥ 0
   ·by_cases c2 : bl < (Q : Int)
    ·by_cases c3 : e ≥ 0
     ·by_cases c4 : e < 16777216
      ·refine ⟨((D.length : Int) == (s : Int)), rj0_step (ev_neg (by decide) (ev_val (rshape_yes h) (ev_pos rfl (ev_pos c1 (ev_val hb (ev_pos c2 (ev_pos c3 (ev_pos c4 (Ev.now _))))))))), ?_⟩
       constructor
       ·intro h5
        exact ⟨fun h6 => (by cases h6), fun _ => ⟨h, ⟨c1, c2⟩, ⟨c3, c4⟩, beq_iff_eq.1 h5⟩⟩
       ·intro h5
        exact beq_iff_eq.2 (h5.2 rfl).2.2.2
      ·refine ⟨false, rj0_step (ev_neg (by decide) (ev_val (rshape_yes h) (ev_pos rfl (ev_pos c1 (ev_val hb (ev_pos c2 (ev_pos c3 (ev_neg c4 (Ev.now _))))))))), ?_⟩
       exact ⟨fun h5 => (by cases h5), fun h5 => absurd (h5.2 rfl).2.2.1.2 c4⟩
     ·refine ⟨false, rj0_step (ev_neg (by decide) (ev_val (rshape_yes h) (ev_pos rfl (ev_pos c1 (ev_val hb (ev_pos c2 (ev_neg c3 (Ev.now _)))))))), ?_⟩
      exact ⟨fun h5 => (by cases h5), fun h5 => absurd (h5.2 rfl).2.2.1.1 c3⟩
    ·refine ⟨false, rj0_step (ev_neg (by decide) (ev_val (rshape_yes h) (ev_pos rfl (ev_pos c1 (ev_val hb (ev_neg c2 (Ev.now _))))))), ?_⟩
     exact ⟨fun h5 => (by cases h5), fun h5 => absurd (h5.2 rfl).2.1.2 c2⟩
   ·refine ⟨false, rj0_step (ev_neg (by decide) (ev_val (rshape_yes h) (ev_pos rfl (ev_neg c1 (Ev.now _))))), ?_⟩
    exact ⟨fun h5 => (by cases h5), fun h5 => absurd (h5.2 rfl).2.1.1 c1⟩
  ·refine ⟨false, rj0_step (ev_neg (by decide) (ev_val (rshape_no h) (ev_neg (by decide) (Ev.now _)))), ?_⟩
   exact ⟨fun h5 => (by cases h5), fun h5 => absurd (h5.2 rfl).1 h⟩
theorem rRight_ev (p n b s m bl e : Int) (g : Bool) (u : Int) (D : List Int) : ∃ v : Bool, Ev (fun k => zq_RightRecord.f k p n b s m bl e g u D) v ∧ (v = true ↔ okR p n b s m bl e g u D) := by
 unfold zq_RightRecord.f okR
 by_cases c1 : 0 ≤ p ∧ p ≤ 2147483647
 ·by_cases c2 : 0 ≤ n ∧ n ≤ 2147483647
  ·by_cases c4 : n < 1
   ·refine ⟨false, ev_val (rnum_eq _) (ev_pos (decide_eq_true c1) (ev_val (rnum_eq _) (ev_pos (decide_eq_true c2) (ev_pos c4 (rj0_off ..))))), ?_⟩
    exact ⟨fun h => (by cases h), fun h => absurd h.2.1.1 (by omega)⟩
   ·by_cases c3 : 0 ≤ u ∧ u ≤ 2147483647
    ·obtain ⟨v, hv, hv2⟩ := rj0_ev p n b s m bl e g u D
     refine ⟨v, ev_val (rnum_eq _) (ev_pos (decide_eq_true c1) (ev_val (rnum_eq _) (ev_pos (decide_eq_true c2) (ev_neg c4 (ev_val (rnum_eq _) ?_))))), ?_⟩
     ·rw [decide_eq_true c3]; exact hv
     ·rw [hv2]; exact ⟨fun h => ⟨c1, ⟨by omega, c2.2⟩, c3, h.1, h.2⟩, fun h => ⟨h.2.2.2.1, h.2.2.2.2⟩⟩
    ·refine ⟨false, ev_val (rnum_eq _) (ev_pos (decide_eq_true c1) (ev_val (rnum_eq _) (ev_pos (decide_eq_true c2) (ev_neg c4 (ev_val (rnum_eq _) ?_))))), ?_⟩
     ·rw [decide_eq_false c3]; exact rj0_off ..
     ·exact ⟨fun h => (by cases h), fun h => absurd h.2.2.1 c3⟩
  ·refine ⟨false, ev_val (rnum_eq _) (ev_pos (decide_eq_true c1) (ev_val (rnum_eq _) (ev_neg (by rw [decide_eq_true_eq]; exact c2) (rj0_off ..)))), ?_⟩
   exact ⟨fun h => (by cases h), fun h => absurd ⟨by have := h.2.1.1; omega, h.2.1.2⟩ c2⟩
 ·refine ⟨false, ev_val (rnum_eq _) (ev_neg (by rw [decide_eq_true_eq]; exact c1) (rj0_off ..)), ?_⟩
  exact ⟨fun h => (by cases h), fun h => absurd h.1 c1⟩
abbrev Ans := Int × Int × Int × Int × Int × Int × Int × Bool × Int × List Int × Int
def wrong : Ans := (0, 0, 0, 0, 0, 0, 0, false, 0, [], 2)
theorem j1_wrong (q : List Int) {p n b s m bl e : Int} {g : Bool} {u : Int} {D : List Int} (h : ¬ okR p n b s m bl e g u D) : Ev (fun k => record_Read.j1 k q p n b s m bl e g u D) wrong := by
 refine Ev.step (fun k => by simp only [record_Read.j1]; rfl) ?_
 exact Ev.bind (Right_false h) (ev_neg (by decide) (Ev.now _))
theorem j1_short (q : List Int) {p n b s m bl e : Int} {g : Bool} {u : Int} {D : List Int} (hD : D.length < 2 ^ 30) (hq : okR p n b s m bl e g u D → (enc p n b s m bl e g u D).length ≠ q.length) : Ev (fun k => record_Read.j1 k q p n b s m bl e g u D) wrong := by
 by_cases h : okR p n b s m bl e g u D
 ·refine Ev.step (fun k => by simp only [record_Read.j1]; rfl) ?_
  exact Ev.bind (Right_true h) (ev_pos rfl (Ev.bind (Bytes_ev h hD) (Ev.bind (equal_no _ _ (hq h)) (ev_neg (by decide) (Ev.now _)))))
 ·exact j1_wrong q h
theorem Read_wrong (q : List Int) (hq : q.length < 2 ^ 30) (h1 : rd q 0 = 1 → q.length ≠ 13) (h2 : rd q 0 ≠ 1 → 24 ≤ q.length → (q.length : Int) - 24 ≠ wh (((q.drop 13).take 4).drop 2)) : Ev (fun k => record_Read.f k q) wrong := by
 unfold record_Read.f
 by_cases c : (q.length : Int) < 13
 ·exact ev_pos c (Ev.now _)
 have hw : ∀ l : List Int, l.length ≤ q.length → Ev (fun k => record_Whole.f k l) (wh l) := fun l hl => whole_ev l (by omega)
 have hl : ∀ (a b : Nat), ((q.take a).drop b).length ≤ q.length := fun a b => by rw [List.length_drop, List.length_take]; omega
 refine ev_neg c (ev_pos (by omega) (ev_pos (by decide) (ev_pos (by omega) (Ev.bind (hw _ (hl 5 1)) (ev_pos (by decide) (ev_pos (by omega) (Ev.bind (hw _ (hl 9 5)) (ev_pos (by decide) (ev_pos (by omega) (Ev.bind (hw _ (hl 13 9)) ?_))))))))))
 by_cases c0 : rd q 0 = 1
 ·refine ev_pos c0 ?_
  refine Ev.step (fun k => by simp only [record_Read.j0]; rfl) ?_
  refine ev_neg (by decide) ?_
  have e0 : (rd q 0 == 1) = true := beq_iff_eq.2 c0
  rw [e0]
  exact j1_short q (by simp) (fun _ => by rw [enc_length_gone]; exact fun k => h1 c0 k.symm)
 ·refine ev_neg c0 ?_
  have e0 : (rd q 0 == 1) = false := beq_eq_false_iff_ne.2 c0
  rw [e0]
  refine Ev.step (fun k => by simp only [record_Read.j0]; rfl) ?_
  have hd' : (q.drop 13).length = q.length - 13 := List.length_drop
  by_cases c1 : 24 ≤ q.length
  ·refine ev_pos (decide_eq_true (by omega)) ?_
   have hl2 : ∀ (a b : Nat), (((q.drop 13).take a).drop b).length ≤ q.length := fun a b => by rw [List.length_drop, List.length_take, List.length_drop]; omega
   have hl3 : ((q.drop 13).take 2).length ≤ q.length := by rw [List.length_take, List.length_drop]; omega
   refine ev_pos (by omega) (Ev.bind (hw _ hl3) (ev_pos (by decide) (ev_pos (by omega) (Ev.bind (hw _ (hl2 4 2)) (ev_pos (by decide) (ev_pos (by omega) (Ev.bind (hw _ (hl2 6 4)) (ev_pos (by decide) (ev_pos (by omega) (Ev.bind (hw _ (hl2 8 6)) (ev_pos (by decide) (ev_pos (by omega) (Ev.bind (hw _ (hl2 11 8)) ?_)))))))))))))
   have hd3 : ((q.drop 13).drop 11).length = q.length - 24 := by rw [List.length_drop, List.length_drop]; omega
   refine ev_val (o := Cl.clone.f ((q.drop 13).drop 11)) (a := (q.drop 13).drop 11) (by unfold Cl.clone.f; rw [if_pos (by omega)]) ?_
   exact j1_wrong q (fun k => h2 c0 c1 (by have := (k.2.2.2.2 rfl).2.2.2; rw [hd3] at this; omega))
  ·refine ev_neg (by rw [decide_eq_true_eq]; omega) ?_
   exact j1_wrong q (fun k => by have := (k.2.2.2.2 rfl).1.1; omega)
def down (n : Int) : Nat → List Int
 | 0 => []
 | j + 1 => B n (8 * (j : Int)) :: down n j
theorem down2 (n : Int) : down n 2 = N2 n := rfl
theorem down3 (n : Int) : down n 3 = N3 n := rfl
theorem down4 (n : Int) : down n 4 = N4 n := rfl
theorem and255 (x : Nat) (hx : x < 2 ^ 40) : Go.bits .and .i64 (x : Int) 255 % 256 = (x : Int) % 256 := by
 have := and_i64 x 255 hx (by decide)
 rw [show ((255 : Nat) : Int) = 255 from rfl] at this
 rw [this, show x &&& 255 = x % 256 from Nat.and_two_pow_sub_one_eq_mod x 8]
 omega
theorem shr_nat (n : Nat) (j : Nat) (hj : j ≤ 4) : shr .i64 (n : Int) (8 * (j : Int)) = ((n / 2 ^ (8 * j) : Nat) : Int) := by
 unfold shr
 have : min (8 * (j : Int)).toNat 64 = 8 * j := by omega
 rw [show IntKind.i64.bits = 64 from rfl, this]
 norm_cast
theorem put_l0 (n : Nat) (hn : n < 2 ^ 31) (j : Nat) : ∀ acc : List Int, j ≤ 4 → acc.length + j < 2 ^ 40 → Ev (fun k => zq_put.l0 k acc (n : Int) ((j : Int) - 1)) (acc ++ down (n : Int) j) := by
 induction j with
 | zero =>
  intro acc _ _
  refine Ev.step (fun k => by simp only [zq_put.l0]; rfl) ?_
  simp only [down, List.append_nil]
  exact ev_neg (by omega) (Ev.now _)
 | succ j ih =>
  intro acc hj ha
  have e1 : (((j + 1 : Nat) : Int) - 1) = (j : Int) := by omega
  have e2 : IntKind.u64.wrap (wrap64 (8 * (j : Int))) = 8 * (j : Int) := by rw [w64 (i := 8 * (j : Int)) (by omega) (by omega), u64w (by omega) (by omega)]
  have hq : n / 2 ^ (8 * j) < 2 ^ 40 := Nat.lt_of_le_of_lt (Nat.div_le_self _ _) (by omega)
  rw [e1]
  refine Ev.step (fun k => by simp only [zq_put.l0]; rfl) ?_
  refine ev_pos (by omega) ?_
  rw [e2]
  refine ev_pos (by omega) (ev_pos (by omega) ?_)
  rw [shr_nat n j (by omega), and255 _ hq, w64 (i := (j : Int) - 1) (by omega) (by omega)]
  have := ih (acc ++ [((n / 2 ^ (8 * j) : Nat) : Int) % 256]) (by omega) (by rw [List.length_append, List.length_singleton]; omega)
  have e3 : B (n : Int) (8 * (j : Int)) = ((n / 2 ^ (8 * j) : Nat) : Int) % 256 := by unfold B; rw [shr_nat n j (by omega)]
  simp only [down]
  rw [e3]
  rw [List.append_assoc, List.singleton_append] at this
  exact this
theorem put_ev (n : Nat) (hn : n < 2 ^ 31) (j : Nat) (hj : j ≤ 4) (acc : List Int) (ha : acc.length < 2 ^ 30) : Ev (fun k => zq_put.f k acc (n : Int) (j : Int)) (acc ++ down (n : Int) j) := by
 unfold zq_put.f
 rw [w64 (i := (j : Int) - 1) (by omega) (by omega)]
 exact put_l0 n hn j acc hj (by omega)
theorem RBytes_ev {p n b s m bl e : Int} {g : Bool} {u : Int} {D : List Int} (h : okR p n b s m bl e g u D) (hD : D.length < 2 ^ 20) : Ev (fun k => zq_RecordBytes.f k p n b s m bl e g u D) (enc p n b s m bl e g u D) := by
 obtain ⟨v, hv, hv2⟩ := rRight_ev p n b s m bl e g u D
 have hvt := hv2.2 h
 subst hvt
 obtain ⟨p, rfl⟩ : ∃ z : Nat, p = (z : Int) := ⟨p.toNat, by have := h.1; omega⟩
 obtain ⟨n, rfl⟩ : ∃ z : Nat, n = (z : Int) := ⟨n.toNat, by have := h.2.1; omega⟩
 obtain ⟨u, rfl⟩ : ∃ z : Nat, u = (z : Int) := ⟨u.toNat, by have := h.2.2.1; omega⟩
 have hp := h.1.2
 have hn := h.2.1.2
 have hu := h.2.2.1.2
 unfold zq_RecordBytes.f
 refine Ev.bind hv (ev_pos rfl (ev_val rfl ?_))
 have e1 : ∀ x : Int, Ev (fun k => zq_put.f k [x] (p : Int) 4) ([x] ++ N4 (p : Int)) := fun x => by rw [← down4]; exact put_ev p (by omega) 4 (by omega) [x] (by simp)
 have e2 : ∀ l : List Int, l.length < 2 ^ 30 → Ev (fun k => zq_put.f k l (n : Int) 4) (l ++ N4 (n : Int)) := fun l hl => by rw [← down4]; exact put_ev n (by omega) 4 (by omega) l hl
 have e3 : ∀ l : List Int, l.length < 2 ^ 30 → Ev (fun k => zq_put.f k l (u : Int) 4) (l ++ N4 (u : Int)) := fun l hl => by rw [← down4]; exact put_ev u (by omega) 4 (by omega) l hl
 cases g with
 | true =>
  refine ev_pos rfl (ev_pos (by decide) ?_)
  refine Ev.step (fun k => by simp only [zq_RecordBytes.j0]; rfl) ?_
  refine Ev.bind (e1 1) (Ev.bind (e2 _ (by simp [N4])) (Ev.bind (e3 _ (by simp [N4])) ?_))
  first | exact ev_pos rfl (Ev.now _) | exact ev_pos trivial (Ev.now _)
 | false =>
  obtain ⟨hok, hbl, he, hDs⟩ := h.2.2.2.2 rfl
  obtain ⟨b, rfl⟩ : ∃ z : Nat, b = (z : Int) := ⟨b.toNat, by have := hok.1; omega⟩
  obtain ⟨s, rfl⟩ : ∃ z : Nat, s = (z : Int) := ⟨s.toNat, by have := hok.2.1; omega⟩
  obtain ⟨m, rfl⟩ : ∃ z : Nat, m = (z : Int) := ⟨m.toNat, by have := hok.2.2; omega⟩
  obtain ⟨bl, rfl⟩ : ∃ z : Nat, bl = (z : Int) := ⟨bl.toNat, by omega⟩
  obtain ⟨e, rfl⟩ : ∃ z : Nat, e = (z : Int) := ⟨e.toNat, by omega⟩
  have h1 := ok_nat hok
  have hbb : bl < 5000 := by
   have h2 := @blk_le b s m
   have h3 := sym_le (s := s) h1.1.1
   rw [Int.toNat_natCast, Int.toNat_natCast, Int.toNat_natCast] at hbl
   omega
  have e4 : ∀ (z : Nat) (l : List Int), z < 2 ^ 31 → l.length < 2 ^ 30 → Ev (fun k => zq_put.f k l (z : Int) 2) (l ++ N2 (z : Int)) := fun z l hz hl => by rw [← down2]; exact put_ev z hz 2 (by omega) l hl
  have e5 : ∀ (z : Nat) (l : List Int), z < 2 ^ 31 → l.length < 2 ^ 30 → Ev (fun k => zq_put.f k l (z : Int) 3) (l ++ N3 (z : Int)) := fun z l hz hl => by rw [← down3]; exact put_ev z hz 3 (by omega) l hl
  refine ev_neg (by decide) ?_
  refine Ev.step (fun k => by simp only [zq_RecordBytes.j0]; rfl) ?_
  refine Ev.bind (e1 0) (Ev.bind (e2 _ (by simp [N4])) (Ev.bind (e3 _ (by simp [N4])) (ev_neg (by decide) ?_)))
  refine Ev.bind (e4 b _ (by omega) (by simp [N4])) (Ev.bind (e4 s _ (by omega) (by simp [N4, N2])) (Ev.bind (e4 m _ (by omega) (by simp [N4, N2])) (Ev.bind (e4 bl _ (by omega) (by simp [N4, N2])) (Ev.bind (e5 e _ (by omega) (by simp [N4, N2])) ?_))))
  refine ev_pos (by simp [N4, N2, N3]; omega) ?_
  exact Ev.now _
theorem RBytes_no {p n b s m bl e : Int} {g : Bool} {u : Int} {D : List Int} (h : ¬ okR p n b s m bl e g u D) : Ev (fun k => zq_RecordBytes.f k p n b s m bl e g u D) [] := by
 obtain ⟨v, hv, hv2⟩ := rRight_ev p n b s m bl e g u D
 unfold zq_RecordBytes.f
 exact Ev.bind hv (ev_neg (fun k => h (hv2.1 k)) (Ev.now _))
theorem equal_l0 (a c : List Int) (hl : a.length = c.length) (ha : a.length < 2 ^ 40) (t : List Int) : ∀ (i : Nat) (t' : List Int), a.drop i = t → c.drop i = t' → ∃ v : Bool, Ev (fun k => eq_bb.l0 k a c (a.length : Int) (i : Int)) v ∧ (v = true ↔ t = t') := by
 induction t with
 | nil =>
  intro i t' h1 h2
  have h3 : a.length ≤ i := List.drop_eq_nil_iff.1 h1
  have h4 : t' = [] := by rw [← h2]; exact List.drop_eq_nil_of_le (by omega)
  refine ⟨true, ?_, by simp [h4]⟩
  refine Ev.step (fun k => by simp only [eq_bb.l0]; rfl) ?_
  exact ev_neg (by omega) (Ev.now _)
 | cons x t ih =>
  intro i t' h1 h2
  obtain ⟨g1, g2, g3⟩ := rd_drop h1
  cases t' with
  | nil => have := List.drop_eq_nil_iff.1 h2; omega
  | cons y t' =>
   obtain ⟨k1, k2, k3⟩ := rd_drop h2
   by_cases e : x = y
   ·obtain ⟨v, hv, hv2⟩ := ih (i + 1) t' g3 k3
    refine ⟨v, ?_, ?_⟩
    ·refine Ev.step (fun k => by simp only [eq_bb.l0]; rfl) ?_
     refine ev_pos (by omega) (ev_pos (by omega) (ev_pos (by omega) (ev_pos (by omega) ?_)))
     rw [g1, k1]
     refine ev_pos e ?_
     rw [w64 (i := (i : Int) + 1) (by omega) (by omega), show (i : Int) + 1 = ((i + 1 : Nat) : Int) from by omega]
     exact hv
    ·rw [hv2]; simp [e]
   ·refine ⟨false, ?_, by simp [e]⟩
    refine Ev.step (fun k => by simp only [eq_bb.l0]; rfl) ?_
    refine ev_pos (by omega) (ev_pos (by omega) (ev_pos (by omega) (ev_pos (by omega) ?_)))
    rw [g1, k1]
    exact ev_neg e (Ev.now _)
theorem equal_ev (a c : List Int) (ha : a.length < 2 ^ 40) : ∃ v : Bool, Ev (fun k => eq_bb.f k a c) v ∧ (v = true ↔ a = c) := by
 unfold eq_bb.f
 by_cases hl : a.length = c.length
 ·obtain ⟨v, hv, hv2⟩ := equal_l0 a c hl ha a 0 c rfl rfl
  exact ⟨v, ev_pos (by omega) hv, hv2⟩
 ·exact ⟨false, ev_neg (by omega) (Ev.now _), ⟨fun h => (by cases h), fun h => absurd (by rw [h]) hl⟩⟩
theorem same_rec (p n b s m bl e : Int) (g : Bool) (u : Int) (D : List Int) : zq_SameRecord.f p n b s m bl e g u D p n b s m bl e g u D = some true := by
 unfold zq_SameRecord.f
 simp
theorem j1_ev (q : List Int) (p n b s m bl e : Int) (g : Bool) (u : Int) (D : List Int) (hD : D.length < 2 ^ 20) :
 (okR p n b s m bl e g u D → enc p n b s m bl e g u D = q → Ev (fun k => record_Read.j1 k q p n b s m bl e g u D) (p, n, b, s, m, bl, e, g, u, D, 0)) ∧
 (¬ (okR p n b s m bl e g u D ∧ enc p n b s m bl e g u D = q) → Ev (fun k => record_Read.j1 k q p n b s m bl e g u D) wrong) := by
 by_cases h : okR p n b s m bl e g u D
 ·have hl : (enc p n b s m bl e g u D).length < 2 ^ 40 := by
   cases g with
   | true => rw [enc_length_gone]; omega
   | false => rw [enc_length]; omega
  obtain ⟨v, hv, hv2⟩ := equal_ev (enc p n b s m bl e g u D) q hl
  have hb := Bytes_ev h (by omega)
  constructor
  ·intro _ hq
   refine Ev.step (fun k => by simp only [record_Read.j1]; rfl) ?_
   exact Ev.bind (Right_true h) (ev_pos rfl (Ev.bind hb (Ev.bind hv (ev_pos (hv2.2 hq) (Ev.now _)))))
  ·intro hq
   refine Ev.step (fun k => by simp only [record_Read.j1]; rfl) ?_
   exact Ev.bind (Right_true h) (ev_pos rfl (Ev.bind hb (Ev.bind hv (ev_neg (fun k => hq ⟨h, hv2.1 k⟩) (Ev.now _)))))
 ·exact ⟨fun k => absurd k h, fun _ => j1_wrong q h⟩
theorem rfin_ev (q : List Int) (hq : ∀ x ∈ q, 0 ≤ x ∧ x ≤ 255) (p n b s m bl e : Int) (g : Bool) (u : Int) (D : List Int) (bad : Bool) (hD : D.length < 2 ^ 20) (hE : ∀ x ∈ enc p n b s m bl e g u D, 0 ≤ x ∧ x ≤ 255) :
 (bad = false → okR p n b s m bl e g u D → enc p n b s m bl e g u D = q → Ev (fun k => Rq.fin k q p n b s m bl e g u D bad) (p, n, b, s, m, bl, e, g, u, D, 0)) ∧
 (¬ (bad = false ∧ okR p n b s m bl e g u D ∧ enc p n b s m bl e g u D = q) → Ev (fun k => Rq.fin k q p n b s m bl e g u D bad) wrong) := by
 by_cases h : okR p n b s m bl e g u D
 ·have hl : (enc p n b s m bl e g u D).length ≠ 0 := by
   cases g with
   | true => rw [enc_length_gone]; omega
   | false => rw [enc_length]; omega
  have hb := RBytes_ev h hD
  constructor
  ·intro h0 _ hq2
   unfold Rq.fin
   refine Ev.bind hb (ev_neg (by rw [h0]; decide) (ev_neg hl (ev_pos (by rw [hq2]) (Ev.now _))))
  ·intro hn
   unfold Rq.fin
   refine Ev.bind hb ?_
   by_cases h0 : bad = true
   ·exact ev_pos h0 (Ev.now _)
   ·refine ev_neg h0 (ev_neg hl (ev_neg (fun k => hn ⟨Bool.eq_false_iff.2 h0, h, St.str_inj hE hq k⟩) (Ev.now _)))
 ·refine ⟨fun _ k => absurd k h, fun _ => ?_⟩
  unfold Rq.fin
  refine Ev.bind (RBytes_no h) ?_
  by_cases h0 : bad = true
  ·exact ev_pos h0 (Ev.now _)
  ·exact ev_neg h0 (ev_pos rfl (Ev.now _))
theorem or_step (x a : Nat) (hx : x < 2 ^ 32) (ha : a < 256) : Go.bits .or .i64 (wrap64 ((x : Int) * 256)) (wrap64 (a : Int)) = ((x * 256 + a : Nat) : Int) := by
 rw [w64 (by omega) (by omega), w64 (by omega) (by omega), show (x : Int) * 256 = ((x * 256 : Nat) : Int) from by omega]
 have h1 : x * 256 ||| a = x * 256 + a := by
  have := Nat.two_pow_add_eq_or_of_lt (show a < 2 ^ 8 by omega) x
  rw [show (2 : Nat) ^ 8 * x = x * 256 from by omega] at this
  exact this.symm
 have ha' : x * 256 % 2 ^ IntKind.i64.bits = x * 256 := Nat.mod_eq_of_lt (Nat.lt_of_lt_of_le (show x * 256 < 2 ^ 40 by omega) (by decide))
 have hb' : a % 2 ^ IntKind.i64.bits = a := Nat.mod_eq_of_lt (Nat.lt_of_lt_of_le (show a < 2 ^ 40 by omega) (by decide))
 simp only [Go.bits, BitVec.ofInt_natCast, BitVec.toNat_or, BitVec.toNat_ofNat, ha', hb']
 rw [IntWalk.i64_left, h1]
 exact w64 (by omega) (by omega)
theorem B_nat (n j : Nat) (hj : j ≤ 4) : B (n : Int) (8 * (j : Int)) = ((n / 2 ^ (8 * j) % 256 : Nat) : Int) := by
 unfold B
 rw [shr_nat n j hj]; omega
theorem B0 (n : Nat) : B (n : Int) 0 = ((n % 256 : Nat) : Int) := by have := B_nat n 0 (by omega); simpa using this
theorem B8 (n : Nat) : B (n : Int) 8 = ((n / 256 % 256 : Nat) : Int) := B_nat n 1 (by omega)
theorem B16 (n : Nat) : B (n : Int) 16 = ((n / 65536 % 256 : Nat) : Int) := B_nat n 2 (by omega)
theorem B24 (n : Nat) : B (n : Int) 24 = ((n / 16777216 % 256 : Nat) : Int) := B_nat n 3 (by omega)
theorem wh_app {l : List Int} {x : Nat} (h : wh l = (x : Int)) (a : Nat) (hx : x < 2 ^ 32) (ha : a < 256) : wh (l ++ [(a : Int)]) = ((x * 256 + a : Nat) : Int) := by
 have : wh (l ++ [(a : Int)]) = Go.bits .or .i64 (wrap64 (wh l * 256)) (wrap64 (a : Int)) := by unfold wh; rw [List.foldl_append]; rfl
 rw [this, h]
 exact or_step x a hx ha
theorem wh_nil : wh [] = ((0 : Nat) : Int) := rfl
theorem wh_N2 (n : Nat) (h : n < 65536) : wh (N2 (n : Int)) = (n : Int) := by
 have h1 := wh_app wh_nil (n / 256 % 256) (by omega) (by omega)
 have h2 := wh_app h1 (n % 256) (by omega) (by omega)
 have e : N2 (n : Int) = ([] ++ [((n / 256 % 256 : Nat) : Int)]) ++ [((n % 256 : Nat) : Int)] := by unfold N2; rw [B8, B0]; rfl
 rw [e, h2]
 clear h1 h2 e
 have : (0 * 256 + n / 256 % 256) * 256 + n % 256 = n := by omega
 rw [this]
theorem wh_N3 (n : Nat) (h : n < 16777216) : wh (N3 (n : Int)) = (n : Int) := by
 have h1 := wh_app wh_nil (n / 65536 % 256) (by omega) (by omega)
 have h2 := wh_app h1 (n / 256 % 256) (by omega) (by omega)
 have h3 := wh_app h2 (n % 256) (by omega) (by omega)
 have e : N3 (n : Int) = (([] ++ [((n / 65536 % 256 : Nat) : Int)]) ++ [((n / 256 % 256 : Nat) : Int)]) ++ [((n % 256 : Nat) : Int)] := by unfold N3; rw [B16, B8, B0]; rfl
 rw [e, h3]
 clear h1 h2 h3 e
 have : ((0 * 256 + n / 65536 % 256) * 256 + n / 256 % 256) * 256 + n % 256 = n := by omega
 rw [this]
theorem wh_N4 (n : Nat) (h : n < 2147483648) : wh (N4 (n : Int)) = (n : Int) := by
 have h1 := wh_app wh_nil (n / 16777216 % 256) (by omega) (by omega)
 have h2 := wh_app h1 (n / 65536 % 256) (by omega) (by omega)
 have h3 := wh_app h2 (n / 256 % 256) (by omega) (by omega)
 have h4 := wh_app h3 (n % 256) (by omega) (by omega)
 have e : N4 (n : Int) = ((([] ++ [((n / 16777216 % 256 : Nat) : Int)]) ++ [((n / 65536 % 256 : Nat) : Int)]) ++ [((n / 256 % 256 : Nat) : Int)]) ++ [((n % 256 : Nat) : Int)] := by unfold N4; rw [B24, B16, B8, B0]; rfl
 rw [e, h4]
 clear h1 h2 h3 h4 e
 have : (((0 * 256 + n / 16777216 % 256) * 256 + n / 65536 % 256) * 256 + n / 256 % 256) * 256 + n % 256 = n := by omega
 rw [this]
theorem wh_one (x : Int) (h : 0 ≤ x ∧ x ≤ 255) : wh [x] = x := by
 obtain ⟨n, rfl⟩ : ∃ n : Nat, x = (n : Int) := ⟨x.toNat, by omega⟩
 have h1 := wh_app wh_nil n (by omega) (by omega)
 have e : [(n : Int)] = [] ++ [(n : Int)] := rfl
 rw [e, h1]
 clear h1 e
 have : 0 * 256 + n = n := by omega
 rw [this]
theorem B_range (n i : Int) : 0 ≤ B n i ∧ B n i ≤ 255 := by unfold B; omega
theorem enc_range (p n b s m bl e : Int) (g : Bool) (u : Int) (D : List Int) (hD : ∀ x ∈ D, 0 ≤ x ∧ x ≤ 255) : ∀ x ∈ enc p n b s m bl e g u D, 0 ≤ x ∧ x ≤ 255 := by
 have h4 : ∀ (n x : Int), x ∈ N4 n → 0 ≤ x ∧ x ≤ 255 := by
  intro n x h
  simp only [N4, List.mem_cons, List.not_mem_nil, or_false] at h
  rcases h with rfl | rfl | rfl | rfl <;> exact B_range _ _
 have h3 : ∀ (n x : Int), x ∈ N3 n → 0 ≤ x ∧ x ≤ 255 := by
  intro n x h
  simp only [N3, List.mem_cons, List.not_mem_nil, or_false] at h
  rcases h with rfl | rfl | rfl <;> exact B_range _ _
 have h2 : ∀ (n x : Int), x ∈ N2 n → 0 ≤ x ∧ x ≤ 255 := by
  intro n x h
  simp only [N2, List.mem_cons, List.not_mem_nil, or_false] at h
  rcases h with rfl | rfl <;> exact B_range _ _
 have hh : ∀ x, x ∈ hd p n g u → 0 ≤ x ∧ x ≤ 255 := by
  intro x h
  unfold hd at h
  simp only [List.mem_append, List.mem_cons, List.not_mem_nil, or_false] at h
  rcases h with ((rfl | h) | h) | h
  ·cases g <;> decide
  ·exact h4 _ _ h
  ·exact h4 _ _ h
  ·exact h4 _ _ h
 intro x h
 unfold enc at h
 cases g with
 | true => rw [if_pos rfl] at h; exact hh x h
 | false =>
  rw [if_neg (by decide)] at h
  simp only [List.mem_append] at h
  rcases h with (((((h | h) | h) | h) | h) | h) | h
  ·exact hh x h
  ·exact h2 _ _ h
  ·exact h2 _ _ h
  ·exact h2 _ _ h
  ·exact h2 _ _ h
  ·exact h3 _ _ h
  ·exact hD x h
def at_ (q : List Int) (t : Nat) (s : List Int × Bool) : Prop := (s = (q.drop t, false) ∧ t ≤ q.length) ∨ (s.2 = true ∧ q.length < t)
theorem at_nx {q : List Int} {t : Nat} {s : List Int × Bool} (h : at_ q t s) (n : Nat) : at_ q (t + n) (Rq.nx s n) := by
 rcases h with ⟨rfl, h⟩ | ⟨h1, h2⟩
 ·unfold Rq.nx Rr.grest Rr.gbad
  by_cases c : q.length < t + n
  ·right
   refine ⟨?_, c⟩
   simp; omega
  ·left
   refine ⟨?_, by omega⟩
   have : decide ((q.drop t).length < n) = false := decide_eq_false (by rw [List.length_drop]; omega)
   simp only [this, Bool.false_or]
   rw [if_neg (by decide), List.drop_drop]
 ·right
  refine ⟨?_, by omega⟩
  unfold Rq.nx Rr.gbad
  rw [h1]; rfl
theorem at_vl {q : List Int} {t n : Nat} {s : List Int × Bool} (h : at_ q t s) (hn : t + n ≤ q.length) : Rq.vl s n = wh ((q.drop t).take n) := by
 rcases h with ⟨rfl, h⟩ | ⟨h1, h2⟩
 ·unfold Rq.vl Rr.gval Rr.gbad
  have : decide ((q.drop t).length < n) = false := decide_eq_false (by rw [List.length_drop]; omega)
  simp only [this, Bool.false_or]
  rw [if_neg (by decide)]; rfl
 ·omega
theorem at_bad {q : List Int} {t : Nat} {s : List Int × Bool} (h : at_ q t s) (ht : q.length < t) : s.2 = true := by
 rcases h with ⟨rfl, h⟩ | ⟨h1, h2⟩
 ·omega
 ·exact h1
theorem at_ok {q : List Int} {t : Nat} {s : List Int × Bool} (h : at_ q t s) (ht : t ≤ q.length) : s = (q.drop t, false) := by
 rcases h with ⟨h1, h⟩ | ⟨h1, h2⟩
 ·exact h1
 ·omega
theorem at_S (q : List Int) : at_ q 1 (Rq.S1 q) ∧ at_ q 5 (Rq.S2 q) ∧ at_ q 9 (Rq.S3 q) ∧ at_ q 13 (Rq.S4 q) ∧ at_ q 15 (Rq.S5 q) ∧ at_ q 17 (Rq.S6 q) ∧ at_ q 19 (Rq.S7 q) ∧ at_ q 21 (Rq.S8 q) ∧ at_ q 24 (Rq.S9 q) := by
 have h0 : at_ q 0 (q, false) := Or.inl ⟨rfl, Nat.zero_le _⟩
 have h1 := at_nx h0 1
 have h2 := at_nx h1 4
 have h3 := at_nx h2 4
 have h4 := at_nx h3 4
 have h5 := at_nx h4 2
 have h6 := at_nx h5 2
 have h7 := at_nx h6 2
 have h8 := at_nx h7 2
 have h9 := at_nx h8 3
 exact ⟨h1, h2, h3, h4, h5, h6, h7, h8, h9⟩
def F_ (q : List Int) (t n : Nat) : Int := wh ((q.drop t).take n)
theorem Read_gone (q : List Int) (hq : q.length < 2 ^ 30) (h13 : 13 ≤ q.length) (c0 : rd q 0 = 1) {r : Ans} (h : Ev (fun k => record_Read.j1 k q (F_ q 1 4) (F_ q 5 4) 0 0 0 0 0 true (F_ q 9 4) []) r) : Ev (fun k => record_Read.f k q) r := by
 unfold record_Read.f
 have hw : ∀ l : List Int, l.length ≤ q.length → Ev (fun k => record_Whole.f k l) (wh l) := fun l hl => whole_ev l (by omega)
 have hl : ∀ (a b : Nat), ((q.take a).drop b).length ≤ q.length := fun a b => by rw [List.length_drop, List.length_take]; omega
 refine ev_neg (by omega) (ev_pos (by omega) (ev_pos (by decide) (ev_pos (by omega) (Ev.bind (hw _ (hl 5 1)) (ev_pos (by decide) (ev_pos (by omega) (Ev.bind (hw _ (hl 9 5)) (ev_pos (by decide) (ev_pos (by omega) (Ev.bind (hw _ (hl 13 9)) ?_))))))))))
 refine ev_pos c0 ?_
 refine Ev.step (fun k => by simp only [record_Read.j0]; rfl) ?_
 refine ev_neg (by decide) ?_
 rw [show (rd q 0 == 1) = true from beq_iff_eq.2 c0, List.drop_take, List.drop_take, List.drop_take]
 exact h
theorem Read_more (q : List Int) (hq : q.length < 2 ^ 30) (h24 : 24 ≤ q.length) (c0 : rd q 0 ≠ 1) {r : Ans} (h : Ev (fun k => record_Read.j1 k q (F_ q 1 4) (F_ q 5 4) (F_ q 13 2) (F_ q 15 2) (F_ q 17 2) (F_ q 19 2) (F_ q 21 3) false (F_ q 9 4) (q.drop 24)) r) : Ev (fun k => record_Read.f k q) r := by
 unfold record_Read.f
 have hw : ∀ l : List Int, l.length ≤ q.length → Ev (fun k => record_Whole.f k l) (wh l) := fun l hl => whole_ev l (by omega)
 have hl : ∀ (a b : Nat), ((q.take a).drop b).length ≤ q.length := fun a b => by rw [List.length_drop, List.length_take]; omega
 refine ev_neg (by omega) (ev_pos (by omega) (ev_pos (by decide) (ev_pos (by omega) (Ev.bind (hw _ (hl 5 1)) (ev_pos (by decide) (ev_pos (by omega) (Ev.bind (hw _ (hl 9 5)) (ev_pos (by decide) (ev_pos (by omega) (Ev.bind (hw _ (hl 13 9)) ?_))))))))))
 refine ev_neg c0 ?_
 rw [show (rd q 0 == 1) = false from beq_eq_false_iff_ne.2 c0]
 refine Ev.step (fun k => by simp only [record_Read.j0]; rfl) ?_
 have hd' : (q.drop 13).length = q.length - 13 := List.length_drop
 refine ev_pos (decide_eq_true (by omega)) ?_
 have hl2 : ∀ (a b : Nat), (((q.drop 13).take a).drop b).length ≤ q.length := fun a b => by rw [List.length_drop, List.length_take, List.length_drop]; omega
 have hl3 : ((q.drop 13).take 2).length ≤ q.length := by rw [List.length_take, List.length_drop]; omega
 refine ev_pos (by omega) (Ev.bind (hw _ hl3) (ev_pos (by decide) (ev_pos (by omega) (Ev.bind (hw _ (hl2 4 2)) (ev_pos (by decide) (ev_pos (by omega) (Ev.bind (hw _ (hl2 6 4)) (ev_pos (by decide) (ev_pos (by omega) (Ev.bind (hw _ (hl2 8 6)) (ev_pos (by decide) (ev_pos (by omega) (Ev.bind (hw _ (hl2 11 8)) ?_)))))))))))))
 have hd3 : ((q.drop 13).drop 11).length = q.length - 24 := by rw [List.length_drop, List.length_drop]; omega
 refine ev_val (o := Cl.clone.f ((q.drop 13).drop 11)) (a := (q.drop 13).drop 11) (by unfold Cl.clone.f; rw [if_pos (by omega)]) ?_
 rw [List.drop_take, List.drop_take, List.drop_take, List.drop_take, List.drop_take, List.drop_take, List.drop_take]
 simp only [List.drop_drop]
 exact h
theorem Read_few (q : List Int) (hq : q.length < 2 ^ 30) (h : q.length < 13 ∨ (rd q 0 ≠ 1 ∧ q.length < 24)) : Ev (fun k => record_Read.f k q) wrong :=
 Read_wrong q hq (fun h1 => by rcases h with h | h <;> omega) (fun h1 h2 => by rcases h with h | h <;> omega)
theorem first_at (q : List Int) (hq : ∀ x ∈ q, 0 ≤ x ∧ x ≤ 255) : Rq.vl (q, false) 1 = if q.length = 0 then 0 else rd q 0 := by
 cases q with
 | nil => rfl
 | cons x t =>
  rw [if_neg (by simp)]
  have h0 : at_ (x :: t) 0 (x :: t, false) := Or.inl ⟨rfl, Nat.zero_le _⟩
  rw [at_vl h0 (by simp)]
  exact wh_one x (hq x List.mem_cons_self)
theorem both (q : List Int) (hq : ∀ x ∈ q, 0 ≤ x ∧ x ≤ 255) (hn : q.length < 2 ^ 19) : ∃ r : Ans, Ev (fun k => record_Read.f k q) r ∧ Ev (fun k => Rq.read.f k q) r := by
 obtain ⟨s1, s2, s3, s4, s5, s6, s7, s8, s9⟩ := at_S q
 have hf := first_at q hq
 have hD : ∀ x ∈ q.drop 24, 0 ≤ x ∧ x ≤ 255 := fun x hx => hq x (List.mem_of_mem_drop hx)
 unfold Rq.read.f
 by_cases c0 : rd q 0 = 1
 ·have hne : q.length ≠ 0 := by intro h; rw [List.length_eq_zero_iff.1 h] at c0; exact absurd c0 (by decide)
  rw [if_neg hne, c0] at hf
  by_cases c1 : 13 ≤ q.length
  ·have e4 := at_ok s4 c1
   rw [at_vl s1 (n := 4) (by omega), at_vl s2 (n := 4) (by omega), at_vl s3 (n := 4) (by omega), e4]
   obtain ⟨a1, a2⟩ := j1_ev q (F_ q 1 4) (F_ q 5 4) 0 0 0 0 0 true (F_ q 9 4) [] (by simp)
   obtain ⟨b1, b2⟩ := rfin_ev q hq (F_ q 1 4) (F_ q 5 4) 0 0 0 0 0 true (F_ q 9 4) [] false (by simp) (enc_range _ _ _ _ _ _ _ _ _ _ (by simp))
   by_cases h : okR (F_ q 1 4) (F_ q 5 4) 0 0 0 0 0 true (F_ q 9 4) [] ∧ enc (F_ q 1 4) (F_ q 5 4) 0 0 0 0 0 true (F_ q 9 4) [] = q
   ·exact ⟨_, Read_gone q (by omega) c1 c0 (a1 h.1 h.2), ev_pos hf (b1 rfl h.1 h.2)⟩
   ·exact ⟨_, Read_gone q (by omega) c1 c0 (a2 h), ev_pos hf (b2 (fun k => h k.2))⟩
  ·refine ⟨wrong, Read_few q (by omega) (Or.inl (by omega)), ev_pos hf ?_⟩
   obtain ⟨b1, b2⟩ := rfin_ev q hq (Rq.vl (Rq.S1 q) 4) (Rq.vl (Rq.S2 q) 4) 0 0 0 0 0 true (Rq.vl (Rq.S3 q) 4) [] (Rq.S4 q).2 (by simp) (enc_range _ _ _ _ _ _ _ _ _ _ (by simp))
   exact b2 (fun k => by rw [at_bad s4 (by omega)] at k; exact absurd k.1 (by decide))
 ·have hv : ¬ Rq.vl (q, false) 1 = 1 := by
   rw [hf]
   split
   ·decide
   ·exact c0
  by_cases c1 : 24 ≤ q.length
  ·have e9 := at_ok s9 c1
   rw [at_vl s1 (n := 4) (by omega), at_vl s2 (n := 4) (by omega), at_vl s3 (n := 4) (by omega), at_vl s4 (n := 2) (by omega), at_vl s5 (n := 2) (by omega), at_vl s6 (n := 2) (by omega), at_vl s7 (n := 2) (by omega), at_vl s8 (n := 3) (by omega), e9]
   have hl : (q.drop 24).length = q.length - 24 := List.length_drop
   obtain ⟨a1, a2⟩ := j1_ev q (F_ q 1 4) (F_ q 5 4) (F_ q 13 2) (F_ q 15 2) (F_ q 17 2) (F_ q 19 2) (F_ q 21 3) false (F_ q 9 4) (q.drop 24) (by omega)
   obtain ⟨b1, b2⟩ := rfin_ev q hq (F_ q 1 4) (F_ q 5 4) (F_ q 13 2) (F_ q 15 2) (F_ q 17 2) (F_ q 19 2) (F_ q 21 3) false (F_ q 9 4) (q.drop 24) false (by omega) (enc_range _ _ _ _ _ _ _ _ _ _ hD)
   by_cases h : okR (F_ q 1 4) (F_ q 5 4) (F_ q 13 2) (F_ q 15 2) (F_ q 17 2) (F_ q 19 2) (F_ q 21 3) false (F_ q 9 4) (q.drop 24) ∧ enc (F_ q 1 4) (F_ q 5 4) (F_ q 13 2) (F_ q 15 2) (F_ q 17 2) (F_ q 19 2) (F_ q 21 3) false (F_ q 9 4) (q.drop 24) = q
   ·exact ⟨_, Read_more q (by omega) c1 c0 (a1 h.1 h.2), ev_neg hv (ev_pos (by show (q.drop 24).length < _; omega) (b1 rfl h.1 h.2))⟩
   ·exact ⟨_, Read_more q (by omega) c1 c0 (a2 h), ev_neg hv (ev_pos (by show (q.drop 24).length < _; omega) (b2 (fun k => h k.2)))⟩
  ·refine ⟨wrong, Read_few q (by omega) (Or.inr ⟨c0, by omega⟩), ev_neg hv ?_⟩
   have hsub : ∀ {t : Nat} {s : List Int × Bool} (n : Nat), (∀ x ∈ s.1, x ∈ q) → s.1.length ≤ q.length → (∀ x ∈ (Rq.nx s n).1, x ∈ q) ∧ (Rq.nx s n).1.length ≤ q.length := by
    intro t s n h1 h2
    unfold Rq.nx Rr.grest
    simp only
    split
    ·exact ⟨h1, h2⟩
    ·exact ⟨fun x hx => h1 x (List.mem_of_mem_drop hx), by rw [List.length_drop]; omega⟩
   have k0 : (∀ x ∈ ((q, false) : List Int × Bool).1, x ∈ q) ∧ ((q, false) : List Int × Bool).1.length ≤ q.length := ⟨fun _ h => h, Nat.le_refl _⟩
   have k1 := hsub (t := 0) 1 k0.1 k0.2
   have k2 := hsub (t := 0) 4 k1.1 k1.2
   have k3 := hsub (t := 0) 4 k2.1 k2.2
   have k4 := hsub (t := 0) 4 k3.1 k3.2
   have k5 := hsub (t := 0) 2 k4.1 k4.2
   have k6 := hsub (t := 0) 2 k5.1 k5.2
   have k7 := hsub (t := 0) 2 k6.1 k6.2
   have k8 := hsub (t := 0) 2 k7.1 k7.2
   have k9 : (∀ x ∈ (Rq.S9 q).1, x ∈ q) ∧ (Rq.S9 q).1.length ≤ q.length := hsub (t := 0) 3 k8.1 k8.2
   refine ev_pos (by have := k9.2; omega) ?_
   obtain ⟨b1, b2⟩ := rfin_ev q hq (Rq.vl (Rq.S1 q) 4) (Rq.vl (Rq.S2 q) 4) (Rq.vl (Rq.S4 q) 2) (Rq.vl (Rq.S5 q) 2) (Rq.vl (Rq.S6 q) 2) (Rq.vl (Rq.S7 q) 2) (Rq.vl (Rq.S8 q) 3) false (Rq.vl (Rq.S3 q) 4) (Rq.S9 q).1 (Rq.S9 q).2 (by have := k9.2; omega) (enc_range _ _ _ _ _ _ _ _ _ _ (fun x hx => hq x (k9.1 x hx)))
   exact b2 (fun k => by rw [at_bad s9 (by omega)] at k; exact absurd k.1 (by decide))
theorem nat_of {x : Int} (h : 0 ≤ x) : ∃ n : Nat, x = (n : Int) := ⟨x.toNat, by omega⟩
theorem Read_enc {p n b s m bl e : Int} {g : Bool} {u : Int} {D : List Int} (h : okR p n b s m bl e g u D) : Ev (fun k => record_Read.f k (enc p n b s m bl e g u D)) (p, n, b, s, m, bl, e, g, u, D, 0) := by
 obtain ⟨p, rfl⟩ := nat_of h.1.1
 obtain ⟨n, rfl⟩ := nat_of (show (0 : Int) ≤ n by have := h.2.1.1; omega)
 obtain ⟨u, rfl⟩ := nat_of h.2.2.1.1
 have hp : p < 2147483648 := by have := h.1.2; omega
 have hn : n < 2147483648 := by have := h.2.1.2; omega
 have hu : u < 2147483648 := by have := h.2.2.1.2; omega
 cases g with
 | true =>
  obtain ⟨rfl, rfl, rfl, rfl, rfl, hD⟩ := h.2.2.2.1 rfl
  obtain rfl := List.length_eq_zero_iff.1 hD
  have hl := enc_length_gone (p : Int) (n : Int) 0 0 0 0 0 (u : Int) []
  obtain ⟨a1, _⟩ := j1_ev (enc (p : Int) (n : Int) 0 0 0 0 0 true (u : Int) []) (p : Int) (n : Int) 0 0 0 0 0 true (u : Int) [] (by simp)
  have e1 : F_ (enc (p : Int) (n : Int) 0 0 0 0 0 true (u : Int) []) 1 4 = (p : Int) := (show _ = wh (N4 (p : Int)) from rfl).trans (wh_N4 p hp)
  have e2 : F_ (enc (p : Int) (n : Int) 0 0 0 0 0 true (u : Int) []) 5 4 = (n : Int) := (show _ = wh (N4 (n : Int)) from rfl).trans (wh_N4 n hn)
  have e3 : F_ (enc (p : Int) (n : Int) 0 0 0 0 0 true (u : Int) []) 9 4 = (u : Int) := (show _ = wh (N4 (u : Int)) from rfl).trans (wh_N4 u hu)
  refine Read_gone _ (by omega) (by omega) rfl ?_
  rw [e1, e2, e3]
  exact a1 h rfl
 | false =>
  obtain ⟨hok, hbl, he, hDs⟩ := h.2.2.2.2 rfl
  obtain ⟨b, rfl⟩ := nat_of (show (0 : Int) ≤ b by have := hok.1; omega)
  obtain ⟨s, rfl⟩ := nat_of (show (0 : Int) ≤ s by have := hok.2.1; omega)
  obtain ⟨m, rfl⟩ := nat_of (show (0 : Int) ≤ m by have := hok.2.2; omega)
  obtain ⟨bl, rfl⟩ := nat_of hbl.1
  obtain ⟨e, rfl⟩ := nat_of he.1
  have h1 := ok_nat hok
  have hbb : bl < 5000 := by
   have h2 := @blk_le b s m
   have h3 := sym_le (s := s) h1.1.1
   have hb2 := hbl.2
   rw [Int.toNat_natCast, Int.toNat_natCast, Int.toNat_natCast] at hb2
   omega
  have hDl : D.length ≤ 64 := by omega
  have hl := enc_length (p : Int) (n : Int) (b : Int) (s : Int) (m : Int) (bl : Int) (e : Int) (u : Int) D
  have hl1 : (enc (p : Int) (n : Int) (b : Int) (s : Int) (m : Int) (bl : Int) (e : Int) false (u : Int) D).length < 2 ^ 30 := by omega
  have hl2 : 24 ≤ (enc (p : Int) (n : Int) (b : Int) (s : Int) (m : Int) (bl : Int) (e : Int) false (u : Int) D).length := by omega
  have q1 : b < 65536 := by omega
  have q2 : s < 65536 := by omega
  have q3 : m < 65536 := by omega
  have q4 : e < 16777216 := by have := he.2; omega
  obtain ⟨a1, _⟩ := j1_ev (enc (p : Int) (n : Int) (b : Int) (s : Int) (m : Int) (bl : Int) (e : Int) false (u : Int) D) (p : Int) (n : Int) (b : Int) (s : Int) (m : Int) (bl : Int) (e : Int) false (u : Int) D (by omega)
  have e1 : F_ (enc (p : Int) (n : Int) (b : Int) (s : Int) (m : Int) (bl : Int) (e : Int) false (u : Int) D) 1 4 = (p : Int) := (show _ = wh (N4 (p : Int)) from rfl).trans (wh_N4 p hp)
  have e2 : F_ (enc (p : Int) (n : Int) (b : Int) (s : Int) (m : Int) (bl : Int) (e : Int) false (u : Int) D) 5 4 = (n : Int) := (show _ = wh (N4 (n : Int)) from rfl).trans (wh_N4 n hn)
  have e3 : F_ (enc (p : Int) (n : Int) (b : Int) (s : Int) (m : Int) (bl : Int) (e : Int) false (u : Int) D) 9 4 = (u : Int) := (show _ = wh (N4 (u : Int)) from rfl).trans (wh_N4 u hu)
  have e4 : F_ (enc (p : Int) (n : Int) (b : Int) (s : Int) (m : Int) (bl : Int) (e : Int) false (u : Int) D) 13 2 = (b : Int) := (show _ = wh (N2 (b : Int)) from rfl).trans (wh_N2 b q1)
  have e5 : F_ (enc (p : Int) (n : Int) (b : Int) (s : Int) (m : Int) (bl : Int) (e : Int) false (u : Int) D) 15 2 = (s : Int) := (show _ = wh (N2 (s : Int)) from rfl).trans (wh_N2 s q2)
  have e6 : F_ (enc (p : Int) (n : Int) (b : Int) (s : Int) (m : Int) (bl : Int) (e : Int) false (u : Int) D) 17 2 = (m : Int) := (show _ = wh (N2 (m : Int)) from rfl).trans (wh_N2 m q3)
  have e7 : F_ (enc (p : Int) (n : Int) (b : Int) (s : Int) (m : Int) (bl : Int) (e : Int) false (u : Int) D) 19 2 = (bl : Int) := (show _ = wh (N2 (bl : Int)) from rfl).trans (wh_N2 bl (Nat.lt_trans hbb (by decide)))
  have e8 : F_ (enc (p : Int) (n : Int) (b : Int) (s : Int) (m : Int) (bl : Int) (e : Int) false (u : Int) D) 21 3 = (e : Int) := (show _ = wh (N3 (e : Int)) from rfl).trans (wh_N3 e q4)
  have hz : rd (enc (p : Int) (n : Int) (b : Int) (s : Int) (m : Int) (bl : Int) (e : Int) false (u : Int) D) 0 = 0 := rfl
  refine Read_more _ hl1 hl2 (by rw [hz]; decide) ?_
  rw [e1, e2, e3, e4, e5, e6, e7, e8]
  exact a1 h rfl
end Go.Proofs.Ytjcfmfdkligmoaa.FRecordTells
