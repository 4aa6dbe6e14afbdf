/- letter.right: whether a letter may be; slices.ContainsFunc over its numbers and its records. Conditions: those that stand in the theorems. -/
import Derived.Test.YtjcfmfdkligmoaaPq
import Derived.Test.YtjcfmfdkligmoaaLn
import Derived.Test.YtjcfmfdkligmoaaPRecordTellsx4
import Derived.Lib.Walk
namespace Go.Proofs.Ytjcfmfdkligmoaa.Lt
open Go.RowKit Go.Lib Go.Proofs.Ytjcfmfdkligmoaa.PRecordTells Go.Proofs.Ytjcfmfdkligmoaa.PLetterLimits Go.Proofs.YtjcfmfdkligmoaaW.PrintWords Go.Proofs.YtjcfmfdkligmoaaW.PrintLast Go.Proofs.YtjcfmfdkligmoaaW.PrintMore
set_option linter.unusedVariables false
set_option linter.unusedSimpArgs false
set_option maxHeartbeats 8000000
set_option maxRecDepth 100000
theorem box8 {w : World} {g : Nat} {t : TypeId} {a b c d e f p q : Value} (h : w.heap[g]? = some (.cells #[a, b, c, d, e, f, p, q] t (0, 0))) : w.cell? ⟨g, 0, none⟩ = some a ∧ w.cell? ⟨g, 1, none⟩ = some b ∧ w.cell? ⟨g, 2, none⟩ = some c ∧ w.cell? ⟨g, 3, none⟩ = some d ∧ w.cell? ⟨g, 4, none⟩ = some e ∧ w.cell? ⟨g, 5, none⟩ = some f ∧ w.cell? ⟨g, 6, none⟩ = some p ∧ w.cell? ⟨g, 7, none⟩ = some q :=
  ⟨(blk_cell h 0).trans rfl, (blk_cell h 1).trans rfl, (blk_cell h 2).trans rfl, (blk_cell h 3).trans rfl, (blk_cell h 4).trans rfl, (blk_cell h 5).trans rfl, (blk_cell h 6).trans rfl, (blk_cell h 7).trans rfl⟩
theorem box10 {w : World} {g : Nat} {t : TypeId} {a b c d e f p q r s : Value} (h : w.heap[g]? = some (.cells #[a, b, c, d, e, f, p, q, r, s] t (0, 0))) : w.cell? ⟨g, 0, none⟩ = some a ∧ w.cell? ⟨g, 1, none⟩ = some b ∧ w.cell? ⟨g, 2, none⟩ = some c ∧ w.cell? ⟨g, 3, none⟩ = some d ∧ w.cell? ⟨g, 4, none⟩ = some e ∧ w.cell? ⟨g, 5, none⟩ = some f ∧ w.cell? ⟨g, 6, none⟩ = some p ∧ w.cell? ⟨g, 7, none⟩ = some q ∧ w.cell? ⟨g, 8, none⟩ = some r ∧ w.cell? ⟨g, 9, none⟩ = some s :=
  ⟨(blk_cell h 0).trans rfl, (blk_cell h 1).trans rfl, (blk_cell h 2).trans rfl, (blk_cell h 3).trans rfl, (blk_cell h 4).trans rfl, (blk_cell h 5).trans rfl, (blk_cell h 6).trans rfl, (blk_cell h 7).trans rfl, (blk_cell h 8).trans rfl, (blk_cell h 9).trans rfl⟩
def idx {α : Type} (p : α → Bool) : List α → Int → Int
  | [], _ => -1
  | r :: L, i => if p r = true then i else idx p L (i + 1)
theorem idx_sign {α : Type} {p : α → Bool} : ∀ (L : List α) (i : Int), 0 ≤ i → decide (0 ≤ idx p L i) = L.any p
  | [], _, _ => rfl
  | r :: L, i, h => by
    unfold idx
    by_cases e : p r = true
    · rw [if_pos e, List.any_cons, e, decide_eq_true h]; rfl
    · rw [if_neg e, List.any_cons, idx_sign L (i + 1) (by omega)]
      rw [show p r = false from by simpa using e]; rfl
theorem idx_hit {α : Type} (z : α) {p : α → Bool} {L : List α} : ∀ (k : Nat) (i : Int), k < L.length → p (L.getD k z) = true → (∀ j : Nat, j < k → p (L.getD j z) = false) → idx p L i = i + k := by
  induction L with
  | nil => intro k i h; simp at h
  | cons r L ih =>
    intro k i hk hp hj
    cases k with
    | zero => simp only [idx]; rw [if_pos (by simpa using hp)]; simp
    | succ k =>
      have h0 := hj 0 (by omega)
      simp only [idx]
      rw [if_neg (by have : p r = false := by simpa using h0
                     rw [this]; decide)]
      rw [ih k (i + 1) (by simpa using hk) (by simpa using hp) (fun j h => by simpa using hj (j + 1) (by omega))]
      omega
theorem idx_miss {α : Type} (z : α) {p : α → Bool} {L : List α} : ∀ (i : Int), (∀ j : Nat, j < L.length → p (L.getD j z) = false) → idx p L i = -1 := by
  induction L with
  | nil => intro i _; rfl
  | cons r L ih =>
    intro i hj
    have h0 := hj 0 (by simp)
    simp only [idx]
    rw [if_neg (by have : p r = false := by simpa using h0
                   rw [this]; decide)]
    exact ih (i + 1) (fun j h => by simpa using hj (j + 1) (by simp; omega))
def wro (e : Int) : Bool := decide (e < 0) || decide (2147483647 < e)
theorem wrong.calls (e : Int) (w : World) : Calls Try.prog 51 #[.int .i64 e] w fun x w' => x = .returned (.bool (wro e)) ∧ Below w.heap.size w w' := by
  unfold wro
  by_cases h1 : e < 0
  · rw [decide_eq_true h1]
    go_enter Try.func51, Try.ntmps51
    go_wp2
    go_ret
    exact ⟨rfl, Below.refl _ _⟩
  · rw [decide_eq_false h1]
    go_enter Try.func51, Try.ntmps51
    go_wp2
    go_ret
    exact ⟨rfl, Below.refl _ _⟩
theorem index_calls (A : Option Addr) (c : Nat) (L : List Int) (w : World) (hC : (Kd.int .i64).C w A L.length L) :
    Calls Try.prog 54 #[.slice A L.length c, .func (.func 51) #[] #[]] w fun e w' => e = .returned (.int .i64 (idx wro L 0)) ∧ Below w.heap.size w w' := by
  have hbig : L.length ≤ 9223372036854775807 := hC.2.1
  go_enter Try.func54, Try.ntmps54
  go_wp2
  go_loopg [5, 8] L.length (fun gg _ s8 wr_ => ∃ kk : Nat, kk ≤ L.length ∧ L.length - kk ≤ gg ∧ s8 = .int .i64 kk ∧ Below w.heap.size w wr_ ∧ Aside (∀ j : Nat, j < kk → wro (L.getD j 0) = false))
  case atStart => exact ⟨0, Nat.zero_le _, by omega, rfl, Below.refl _ _, fun j hj => absurd hj (Nat.not_lt_zero _)⟩
  case round =>
    obtain ⟨kk, hkk, hg, rfl, hb, A0⟩ := hrel
    by_cases hlt : kk < L.length
    · have hltz : (kk : Int) < (L.length : Int) := by omega
      obtain ⟨ad, rfl, hcell⟩ := Kd.at_int (Kd.C_below hC hb) (kk : Int) (by omega) hltz
      have hcall := fun W => wrong.calls (rd L (kk : Int)) W
      have hrd : rd L (kk : Int) = L.getD kk 0 := by unfold rd; rw [Int.toNat_natCast]
      generalize hy : wro (rd L (kk : Int)) = q at hcall
      rw [hrd] at hy
      rw [Int.toNat_natCast] at hcell
      clear hrd
      generalize rd L (kk : Int) = x at hcell hcall
      cases q with
      | true =>
        go_wp2_with (go_at_call 51; refine (hcall _).mono ?_; rintro e w' ⟨rfl, hb'⟩)
        go_ret
        refine ⟨?_, below_step hb hb'⟩
        rw [idx_hit 0 kk 0 hlt hy A0.out]
        simp
      | false =>
        go_wp2_with (go_at_call 51; refine (hcall _).mono ?_; rintro e w' ⟨rfl, hb'⟩)
        go_roundg (L.length - (kk + 1))
        case measure => omega
        case rel =>
          refine ⟨kk + 1, by omega, by omega, by go_num, below_step hb hb', (show Aside _ from fun j hj => ?_)⟩
          by_cases e : j = kk
          · subst e; exact hy
          · exact A0.out j (by omega)
    · have hltz : ¬ (kk : Int) < (L.length : Int) := by omega
      go_wp2
      go_ret
      refine ⟨?_, hb⟩
      rw [idx_miss 0 0 (fun j h => A0.out j (by omega))]
      rfl
theorem contains_calls (A : Option Addr) (c : Nat) (L : List Int) (b : Bool) (w : World) (hC : (Kd.int .i64).C w A L.length L) (hb : L.any wro = b) :
    Calls Try.prog 50 #[.slice A L.length c, .func (.func 51) #[] #[]] w fun e w' => e = .returned (.bool b) ∧ Below w.heap.size w w' := by
  have hcon := index_calls A c L w hC
  subst hb
  rw [← idx_sign L 0 (by decide)]
  generalize idx wro L 0 = r at hcon ⊢
  go_enter Try.func50, Try.ntmps50
  go_wp2_with (go_at_call 54; refine hcon.mono ?_; rintro e w' ⟨rfl, hb'⟩)
  go_ret
  exact ⟨rfl, hb'⟩
def recF (x : S28) : Option Bool := record_Right.f 40 x.f0.f0 x.f0.f1 x.f1.f0 x.f1.f1 x.f1.f2 x.f2 x.f3 x.f4 x.f5 x.f6
def badR (x : S28) : Bool := match recF x with
  | some true => false
  | _ => true
abbrev recV (x : S28) (A : Option Addr) (c : Nat) : Value := .agg #[.int .i64 x.f0.f0, .int .i64 x.f0.f1, .int .i64 x.f1.f0, .int .i64 x.f1.f1, .int .i64 x.f1.f2, .int .i64 x.f2, .int .i64 x.f3, .bool x.f4, .int .i64 x.f5, .slice A x.f6.length c]
theorem notright.calls (x : S28) (b : Bool) (A : Option Addr) (c : Nat) (w : World) (hx : recF x = some b) (hC : (Kd.int .u8).C w A x.f6.length x.f6) (hl : x.f6.length ≤ c) :
    Calls Try.prog 53 #[recV x A c] w fun e w' => e = .returned (.bool (!b)) ∧ Below w.heap.size w w' := by
  have hu28 := Try.underlying28
  have HC := Aside0.mk hC
  have HL := Aside0.mk hl
  have HX := Aside0.mk hx
  have HB := Aside0.mk (Below.refl w.heap.size w)
  clear hC hl hx
  unfold recF at HX
  unfold recV
  go_enter Try.func53, Try.ntmps53
  go_wp2_with (first | ((with_reducible refine gate_dst (N := 1) rfl ?_); refine box_event ?hg (N := 1) ?hd (cs := #[.int .i64 x.f0.f0, .int .i64 x.f0.f1, .int .i64 x.f1.f0, .int .i64 x.f1.f1, .int .i64 x.f1.f2, .int .i64 x.f2, .int .i64 x.f3, .bool x.f4, .int .i64 x.f5, .slice A x.f6.length c]) (t := 28) ?hr ?_; (case hd => rfl); (case hg => rfl); (case hr => first | (go_simp; done) | (go_simp; rfl)); intro gb hg w4 hbox hb; replace HB := Aside0.mk (belt hb); obtain ⟨hz0, hz1, hz2, hz3, hz4, hz5, hz6, hz7, hz8, hz9⟩ := box10 hbox; clear hbox hb hg) | (go_at_call 14; (with_reducible refine (record_Right.calls 40 _ _ _ _ _ _ _ _ _ A c x.f6 b _ ?s1 HL.out HX.out).mono ?_); (case s1 => exact Kd.C_below HC.out bel); rintro e w5 ⟨rfl, hb⟩; replace HB := Aside0.mk (belt hb)))
  go_ret
  exact ⟨rfl, bel⟩
theorem indexR_calls (A : Option Addr) (c : Nat) (L : List S28) (w : World) (hC : k28.C w A L.length L) (hok : ∀ x ∈ L, (recF x).isSome = true) :
    Calls Try.prog 55 #[.slice A L.length c, .func (.func 53) #[] #[]] w fun e w' => e = .returned (.int .i64 (idx badR L 0)) ∧ Below w.heap.size w w' := by
  have hbig : L.length ≤ 9223372036854775807 := hC.2.1
  have hu28 := Try.underlying28
  go_enter Try.func55, Try.ntmps55
  go_wp2
  go_loopg [5, 8] L.length (fun gg _ s8 wr_ => ∃ kk : Nat, kk ≤ L.length ∧ L.length - kk ≤ gg ∧ s8 = .int .i64 kk ∧ Below w.heap.size w wr_ ∧ Aside (∀ j : Nat, j < kk → badR (L.getD j z28) = false))
  case atStart => exact ⟨0, Nat.zero_le _, by omega, rfl, Below.refl _ _, fun j hj => absurd hj (Nat.not_lt_zero _)⟩
  case round =>
    obtain ⟨kk, hkk, hg, rfl, hb, A0⟩ := hrel
    by_cases hlt : kk < L.length
    · have hltz : (kk : Int) < (L.length : Int) := by omega
      obtain ⟨ad, A9, c9, rfl, y0, y1, y2, y3, y4, y5, y6, y7, y8, y9, hl9, hC9⟩ := at_T28 (Kd.C_below hC hb) (kk : Int) (by omega) hltz
      have hrd : rd_T28 L (kk : Int) = L.getD kk z28 := by unfold rd_T28; rw [Int.toNat_natCast]
      have hmem : rd_T28 L (kk : Int) ∈ L := by rw [hrd, List.getD_eq_getElem?_getD, List.getElem?_eq_getElem hlt]; exact List.getElem_mem _
      obtain ⟨b, hb2⟩ := Option.isSome_iff_exists.1 (hok _ hmem)
      have hy : badR (rd_T28 L (kk : Int)) = !b := by unfold badR; rw [hb2]; cases b <;> rfl
      rw [hrd] at hy
      have hcall := notright.calls (rd_T28 L (kk : Int)) b A9 c9 wr hb2 hC9 hl9
      unfold recV at hcall
      clear hC9 hmem hb2 hrd
      rw [Int.toNat_natCast] at y0 y1 y2 y3 y4 y5 y6 y7 y8 y9
      generalize rd_T28 L (kk : Int) = x at *
      cases b with
      | false =>
        go_wp2_with (go_at_call 53; refine hcall.mono ?_; rintro e w' ⟨rfl, hb'⟩)
        go_ret
        refine ⟨?_, below_step hb hb'⟩
        rw [idx_hit z28 kk 0 hlt hy A0.out]
        simp
      | true =>
        go_wp2_with (go_at_call 53; refine hcall.mono ?_; rintro e w' ⟨rfl, hb'⟩)
        go_roundg (L.length - (kk + 1))
        case measure => omega
        case rel =>
          refine ⟨kk + 1, by omega, by omega, by go_num, below_step hb hb', (show Aside _ from fun j hj => ?_)⟩
          by_cases e : j = kk
          · subst e; exact hy
          · exact A0.out j (by omega)
    · have hltz : ¬ (kk : Int) < (L.length : Int) := by omega
      go_wp2
      go_ret
      refine ⟨?_, hb⟩
      rw [idx_miss z28 0 (fun j h => A0.out j (by omega))]
      rfl
theorem containsR_calls (A : Option Addr) (c : Nat) (L : List S28) (b : Bool) (w : World) (hC : k28.C w A L.length L) (hok : ∀ x ∈ L, (recF x).isSome = true) (hb : L.any badR = b) :
    Calls Try.prog 52 #[.slice A L.length c, .func (.func 53) #[] #[]] w fun e w' => e = .returned (.bool b) ∧ Below w.heap.size w w' := by
  have hcon := indexR_calls A c L w hC hok
  subst hb
  rw [← idx_sign L 0 (by decide)]
  generalize idx badR L 0 = r at hcon ⊢
  go_enter Try.func52, Try.ntmps52
  go_wp2_with (go_at_call 55; refine hcon.mono ?_; rintro e w' ⟨rfl, hb'⟩)
  go_ret
  exact ⟨rfl, hb'⟩
def right.f (a0 a1 a2 a3 a4 a5 : Int) (l6 : List Int) (l7 : List S28) : Option Bool :=
  if (l7.all fun x => (recF x).isSome) = true then some (!(decide (a0 < 1) || decide (3 < a0) || [a1, a2, a3, a4, a5].any wro || l6.any wro || decide (255 < l6.length) || decide (255 < l7.length) || l7.any badR)) else none
theorem right.calls (a0 a1 a2 a3 a4 a5 : Int) (A6 : Option Addr) (c6 : Nat) (l6 : List Int) (A7 : Option Addr) (c7 : Nat) (l7 : List S28) (r : Bool) (w : World) (h6 : (Kd.int .i64).C w A6 l6.length l6) (hc6 : l6.length ≤ c6) (h7 : k28.C w A7 l7.length l7) (hc7 : l7.length ≤ c7) (h : right.f a0 a1 a2 a3 a4 a5 l6 l7 = some r) :
    Calls Try.prog 39 #[.agg #[.int .i64 a0, .int .i64 a1, .int .i64 a2, .int .i64 a3, .int .i64 a4, .int .i64 a5, .slice A6 l6.length c6, .slice A7 l7.length c7]] w fun e w' => e = .returned (.bool r) ∧ Below w.heap.size w w' := by
  have hu45 := Try.underlying45
  unfold right.f at h
  by_cases hok : (l7.all fun x => (recF x).isSome) = true
  rotate_left
  · rw [if_neg hok] at h; cases h
  rw [if_pos hok] at h
  have OK := Aside0.mk (List.all_eq_true.1 hok)
  have H6 := Aside0.mk h6
  have H6L := Aside0.mk hc6
  have H7 := Aside0.mk h7
  have H7L := Aside0.mk hc7
  have HB := Aside0.mk (Below.refl w.heap.size w)
  have hb6 : l6.length ≤ 9223372036854775807 := h6.2.1
  have hb7 : l7.length ≤ 9223372036854775807 := h7.2.1
  clear h6 hc6 h7 hc7 hok
  obtain ⟨nb, hnb⟩ : ∃ nb, [a1, a2, a3, a4, a5].any wro = nb := ⟨_, rfl⟩
  obtain ⟨pb, hpb⟩ : ∃ pb, l6.any wro = pb := ⟨_, rfl⟩
  obtain ⟨qb, hqb⟩ : ∃ qb, l7.any badR = qb := ⟨_, rfl⟩
  rw [hnb, hpb, hqb] at h
  obtain ⟨ns, hns⟩ : ∃ ns, [a1, a2, a3, a4, a5] = ns := ⟨_, rfl⟩
  have NS := Aside0.mk (show letter_numbers.f a0 a1 a2 a3 a4 a5 l6 l7 = some ns from congrArg some hns)
  rw [hns] at hnb
  have NB := Aside0.mk hnb
  clear hns
  have PB := Aside0.mk hpb
  have QB := Aside0.mk hqb
  clear hnb hpb hqb
  by_cases c1 : a0 < 1
  · obtain rfl : false = r := by rw [decide_eq_true c1] at h; exact Option.some.inj h
    clear h
    go_enter Try.func39, Try.ntmps39
    go_wp2_with (first | ((with_reducible refine gate_dst (N := 1) rfl ?_); refine box_event ?hg (N := 1) ?hd (cs := #[.int .i64 a0, .int .i64 a1, .int .i64 a2, .int .i64 a3, .int .i64 a4, .int .i64 a5, .slice A6 l6.length c6, .slice A7 l7.length c7]) (t := 45) ?hr ?_; (case hd => rfl); (case hg => rfl); (case hr => first | (go_simp; done) | (go_simp; rfl)); intro gb hg w4 hbox hb; replace HB := Aside0.mk (belt hb); have BX := Aside0.mk hbox; obtain ⟨hz0, hz1, hz2, hz3, hz4, hz5, hz6, hz7⟩ := box8 BX.out; clear hbox hb hg) | (go_at_call 40; (try (refine gate_guard (by rfl) ?_; dsimp only)); (with_reducible refine (letter_numbers.calls a0 a1 a2 a3 a4 a5 A6 c6 l6 A7 c7 l7 ns _ ?s1 H6L.out ?s2 H7L.out NS.out).mono ?_); (case s1 => exact Kd.C_below H6.out bel); (case s2 => exact Kd.C_below H7.out bel); rintro e w5 ⟨v, rfl, ho_, hb_⟩; obtain ⟨An, cn, rfl, ln_, Cn_⟩ := Kd.R_reads ho_; have CN := Aside0.mk Cn_; replace HB := Aside0.mk (belt hb_); replace BX := Aside0.mk (blk_below BX.out hb_); clear hz0 hz1 hz2 hz3 hz4 hz5 hz6 hz7; obtain ⟨hz0, hz1, hz2, hz3, hz4, hz5, hz6, hz7⟩ := box8 BX.out; clear ho_ hb_ ln_ Cn_) | (go_at_call 50; (try (refine gate_guard (by rfl) ?_; dsimp only)); (with_reducible refine (contains_calls An cn ns _ _ ?s1 NB.out).mono ?_); (case s1 => exact CN.out); rintro e w6 ⟨rfl, hb_⟩; replace HB := Aside0.mk (belt hb_); replace BX := Aside0.mk (blk_below BX.out hb_); clear hz0 hz1 hz2 hz3 hz4 hz5 hz6 hz7; obtain ⟨hz0, hz1, hz2, hz3, hz4, hz5, hz6, hz7⟩ := box8 BX.out; clear hb_) | (go_at_call 50; (try (refine gate_guard (by rfl) ?_; dsimp only)); (with_reducible refine (contains_calls A6 c6 l6 _ _ ?s1 PB.out).mono ?_); (case s1 => exact Kd.C_below H6.out bel); rintro e w7 ⟨rfl, hb_⟩; replace HB := Aside0.mk (belt hb_); replace BX := Aside0.mk (blk_below BX.out hb_); clear hz0 hz1 hz2 hz3 hz4 hz5 hz6 hz7; obtain ⟨hz0, hz1, hz2, hz3, hz4, hz5, hz6, hz7⟩ := box8 BX.out; clear hb_) | (go_at_call 52; (try (refine gate_guard (by rfl) ?_; dsimp only)); (with_reducible refine (containsR_calls A7 c7 l7 _ _ ?s1 OK.out QB.out).mono ?_); (case s1 => exact Kd.C_below H7.out bel); rintro e w8 ⟨rfl, hb_⟩; replace HB := Aside0.mk (belt hb_); replace BX := Aside0.mk (blk_below BX.out hb_); clear hz0 hz1 hz2 hz3 hz4 hz5 hz6 hz7; obtain ⟨hz0, hz1, hz2, hz3, hz4, hz5, hz6, hz7⟩ := box8 BX.out; clear hb_))
    go_ret
    exact ⟨rfl, bel⟩
  by_cases c2 : 3 < a0
  · obtain rfl : false = r := by rw [decide_eq_true c2, decide_eq_false c1] at h; exact Option.some.inj h
    clear h
    go_enter Try.func39, Try.ntmps39
    go_wp2_with (first | ((with_reducible refine gate_dst (N := 1) rfl ?_); refine box_event ?hg (N := 1) ?hd (cs := #[.int .i64 a0, .int .i64 a1, .int .i64 a2, .int .i64 a3, .int .i64 a4, .int .i64 a5, .slice A6 l6.length c6, .slice A7 l7.length c7]) (t := 45) ?hr ?_; (case hd => rfl); (case hg => rfl); (case hr => first | (go_simp; done) | (go_simp; rfl)); intro gb hg w4 hbox hb; replace HB := Aside0.mk (belt hb); have BX := Aside0.mk hbox; obtain ⟨hz0, hz1, hz2, hz3, hz4, hz5, hz6, hz7⟩ := box8 BX.out; clear hbox hb hg) | (go_at_call 40; (try (refine gate_guard (by rfl) ?_; dsimp only)); (with_reducible refine (letter_numbers.calls a0 a1 a2 a3 a4 a5 A6 c6 l6 A7 c7 l7 ns _ ?s1 H6L.out ?s2 H7L.out NS.out).mono ?_); (case s1 => exact Kd.C_below H6.out bel); (case s2 => exact Kd.C_below H7.out bel); rintro e w5 ⟨v, rfl, ho_, hb_⟩; obtain ⟨An, cn, rfl, ln_, Cn_⟩ := Kd.R_reads ho_; have CN := Aside0.mk Cn_; replace HB := Aside0.mk (belt hb_); replace BX := Aside0.mk (blk_below BX.out hb_); clear hz0 hz1 hz2 hz3 hz4 hz5 hz6 hz7; obtain ⟨hz0, hz1, hz2, hz3, hz4, hz5, hz6, hz7⟩ := box8 BX.out; clear ho_ hb_ ln_ Cn_) | (go_at_call 50; (try (refine gate_guard (by rfl) ?_; dsimp only)); (with_reducible refine (contains_calls An cn ns _ _ ?s1 NB.out).mono ?_); (case s1 => exact CN.out); rintro e w6 ⟨rfl, hb_⟩; replace HB := Aside0.mk (belt hb_); replace BX := Aside0.mk (blk_below BX.out hb_); clear hz0 hz1 hz2 hz3 hz4 hz5 hz6 hz7; obtain ⟨hz0, hz1, hz2, hz3, hz4, hz5, hz6, hz7⟩ := box8 BX.out; clear hb_) | (go_at_call 50; (try (refine gate_guard (by rfl) ?_; dsimp only)); (with_reducible refine (contains_calls A6 c6 l6 _ _ ?s1 PB.out).mono ?_); (case s1 => exact Kd.C_below H6.out bel); rintro e w7 ⟨rfl, hb_⟩; replace HB := Aside0.mk (belt hb_); replace BX := Aside0.mk (blk_below BX.out hb_); clear hz0 hz1 hz2 hz3 hz4 hz5 hz6 hz7; obtain ⟨hz0, hz1, hz2, hz3, hz4, hz5, hz6, hz7⟩ := box8 BX.out; clear hb_) | (go_at_call 52; (try (refine gate_guard (by rfl) ?_; dsimp only)); (with_reducible refine (containsR_calls A7 c7 l7 _ _ ?s1 OK.out QB.out).mono ?_); (case s1 => exact Kd.C_below H7.out bel); rintro e w8 ⟨rfl, hb_⟩; replace HB := Aside0.mk (belt hb_); replace BX := Aside0.mk (blk_below BX.out hb_); clear hz0 hz1 hz2 hz3 hz4 hz5 hz6 hz7; obtain ⟨hz0, hz1, hz2, hz3, hz4, hz5, hz6, hz7⟩ := box8 BX.out; clear hb_))
    go_ret
    exact ⟨rfl, bel⟩
  rw [decide_eq_false c1, decide_eq_false c2] at h
  cases nb with
  | true =>
    obtain rfl : false = r := Option.some.inj h
    clear h
    go_enter Try.func39, Try.ntmps39
    go_wp2_with (first | ((with_reducible refine gate_dst (N := 1) rfl ?_); refine box_event ?hg (N := 1) ?hd (cs := #[.int .i64 a0, .int .i64 a1, .int .i64 a2, .int .i64 a3, .int .i64 a4, .int .i64 a5, .slice A6 l6.length c6, .slice A7 l7.length c7]) (t := 45) ?hr ?_; (case hd => rfl); (case hg => rfl); (case hr => first | (go_simp; done) | (go_simp; rfl)); intro gb hg w4 hbox hb; replace HB := Aside0.mk (belt hb); have BX := Aside0.mk hbox; obtain ⟨hz0, hz1, hz2, hz3, hz4, hz5, hz6, hz7⟩ := box8 BX.out; clear hbox hb hg) | (go_at_call 40; (try (refine gate_guard (by rfl) ?_; dsimp only)); (with_reducible refine (letter_numbers.calls a0 a1 a2 a3 a4 a5 A6 c6 l6 A7 c7 l7 ns _ ?s1 H6L.out ?s2 H7L.out NS.out).mono ?_); (case s1 => exact Kd.C_below H6.out bel); (case s2 => exact Kd.C_below H7.out bel); rintro e w5 ⟨v, rfl, ho_, hb_⟩; obtain ⟨An, cn, rfl, ln_, Cn_⟩ := Kd.R_reads ho_; have CN := Aside0.mk Cn_; replace HB := Aside0.mk (belt hb_); replace BX := Aside0.mk (blk_below BX.out hb_); clear hz0 hz1 hz2 hz3 hz4 hz5 hz6 hz7; obtain ⟨hz0, hz1, hz2, hz3, hz4, hz5, hz6, hz7⟩ := box8 BX.out; clear ho_ hb_ ln_ Cn_) | (go_at_call 50; (try (refine gate_guard (by rfl) ?_; dsimp only)); (with_reducible refine (contains_calls An cn ns _ _ ?s1 NB.out).mono ?_); (case s1 => exact CN.out); rintro e w6 ⟨rfl, hb_⟩; replace HB := Aside0.mk (belt hb_); replace BX := Aside0.mk (blk_below BX.out hb_); clear hz0 hz1 hz2 hz3 hz4 hz5 hz6 hz7; obtain ⟨hz0, hz1, hz2, hz3, hz4, hz5, hz6, hz7⟩ := box8 BX.out; clear hb_) | (go_at_call 50; (try (refine gate_guard (by rfl) ?_; dsimp only)); (with_reducible refine (contains_calls A6 c6 l6 _ _ ?s1 PB.out).mono ?_); (case s1 => exact Kd.C_below H6.out bel); rintro e w7 ⟨rfl, hb_⟩; replace HB := Aside0.mk (belt hb_); replace BX := Aside0.mk (blk_below BX.out hb_); clear hz0 hz1 hz2 hz3 hz4 hz5 hz6 hz7; obtain ⟨hz0, hz1, hz2, hz3, hz4, hz5, hz6, hz7⟩ := box8 BX.out; clear hb_) | (go_at_call 52; (try (refine gate_guard (by rfl) ?_; dsimp only)); (with_reducible refine (containsR_calls A7 c7 l7 _ _ ?s1 OK.out QB.out).mono ?_); (case s1 => exact Kd.C_below H7.out bel); rintro e w8 ⟨rfl, hb_⟩; replace HB := Aside0.mk (belt hb_); replace BX := Aside0.mk (blk_below BX.out hb_); clear hz0 hz1 hz2 hz3 hz4 hz5 hz6 hz7; obtain ⟨hz0, hz1, hz2, hz3, hz4, hz5, hz6, hz7⟩ := box8 BX.out; clear hb_))
    go_ret
    exact ⟨rfl, bel⟩
  | false =>
    cases pb with
    | true =>
      obtain rfl : false = r := Option.some.inj h
      clear h
      go_enter Try.func39, Try.ntmps39
      go_wp2_with (first | ((with_reducible refine gate_dst (N := 1) rfl ?_); refine box_event ?hg (N := 1) ?hd (cs := #[.int .i64 a0, .int .i64 a1, .int .i64 a2, .int .i64 a3, .int .i64 a4, .int .i64 a5, .slice A6 l6.length c6, .slice A7 l7.length c7]) (t := 45) ?hr ?_; (case hd => rfl); (case hg => rfl); (case hr => first | (go_simp; done) | (go_simp; rfl)); intro gb hg w4 hbox hb; replace HB := Aside0.mk (belt hb); have BX := Aside0.mk hbox; obtain ⟨hz0, hz1, hz2, hz3, hz4, hz5, hz6, hz7⟩ := box8 BX.out; clear hbox hb hg) | (go_at_call 40; (try (refine gate_guard (by rfl) ?_; dsimp only)); (with_reducible refine (letter_numbers.calls a0 a1 a2 a3 a4 a5 A6 c6 l6 A7 c7 l7 ns _ ?s1 H6L.out ?s2 H7L.out NS.out).mono ?_); (case s1 => exact Kd.C_below H6.out bel); (case s2 => exact Kd.C_below H7.out bel); rintro e w5 ⟨v, rfl, ho_, hb_⟩; obtain ⟨An, cn, rfl, ln_, Cn_⟩ := Kd.R_reads ho_; have CN := Aside0.mk Cn_; replace HB := Aside0.mk (belt hb_); replace BX := Aside0.mk (blk_below BX.out hb_); clear hz0 hz1 hz2 hz3 hz4 hz5 hz6 hz7; obtain ⟨hz0, hz1, hz2, hz3, hz4, hz5, hz6, hz7⟩ := box8 BX.out; clear ho_ hb_ ln_ Cn_) | (go_at_call 50; (try (refine gate_guard (by rfl) ?_; dsimp only)); (with_reducible refine (contains_calls An cn ns _ _ ?s1 NB.out).mono ?_); (case s1 => exact CN.out); rintro e w6 ⟨rfl, hb_⟩; replace HB := Aside0.mk (belt hb_); replace BX := Aside0.mk (blk_below BX.out hb_); clear hz0 hz1 hz2 hz3 hz4 hz5 hz6 hz7; obtain ⟨hz0, hz1, hz2, hz3, hz4, hz5, hz6, hz7⟩ := box8 BX.out; clear hb_) | (go_at_call 50; (try (refine gate_guard (by rfl) ?_; dsimp only)); (with_reducible refine (contains_calls A6 c6 l6 _ _ ?s1 PB.out).mono ?_); (case s1 => exact Kd.C_below H6.out bel); rintro e w7 ⟨rfl, hb_⟩; replace HB := Aside0.mk (belt hb_); replace BX := Aside0.mk (blk_below BX.out hb_); clear hz0 hz1 hz2 hz3 hz4 hz5 hz6 hz7; obtain ⟨hz0, hz1, hz2, hz3, hz4, hz5, hz6, hz7⟩ := box8 BX.out; clear hb_) | (go_at_call 52; (try (refine gate_guard (by rfl) ?_; dsimp only)); (with_reducible refine (containsR_calls A7 c7 l7 _ _ ?s1 OK.out QB.out).mono ?_); (case s1 => exact Kd.C_below H7.out bel); rintro e w8 ⟨rfl, hb_⟩; replace HB := Aside0.mk (belt hb_); replace BX := Aside0.mk (blk_below BX.out hb_); clear hz0 hz1 hz2 hz3 hz4 hz5 hz6 hz7; obtain ⟨hz0, hz1, hz2, hz3, hz4, hz5, hz6, hz7⟩ := box8 BX.out; clear hb_))
      go_ret
      exact ⟨rfl, bel⟩
    | false =>
      by_cases c5 : 255 < l6.length
      · have c5z : ¬ (l6.length : Int) ≤ 255 := by omega
        obtain rfl : false = r := by rw [decide_eq_true c5] at h; exact Option.some.inj h
        clear h
        go_enter Try.func39, Try.ntmps39
        go_wp2_with (first | ((with_reducible refine gate_dst (N := 1) rfl ?_); refine box_event ?hg (N := 1) ?hd (cs := #[.int .i64 a0, .int .i64 a1, .int .i64 a2, .int .i64 a3, .int .i64 a4, .int .i64 a5, .slice A6 l6.length c6, .slice A7 l7.length c7]) (t := 45) ?hr ?_; (case hd => rfl); (case hg => rfl); (case hr => first | (go_simp; done) | (go_simp; rfl)); intro gb hg w4 hbox hb; replace HB := Aside0.mk (belt hb); have BX := Aside0.mk hbox; obtain ⟨hz0, hz1, hz2, hz3, hz4, hz5, hz6, hz7⟩ := box8 BX.out; clear hbox hb hg) | (go_at_call 40; (try (refine gate_guard (by rfl) ?_; dsimp only)); (with_reducible refine (letter_numbers.calls a0 a1 a2 a3 a4 a5 A6 c6 l6 A7 c7 l7 ns _ ?s1 H6L.out ?s2 H7L.out NS.out).mono ?_); (case s1 => exact Kd.C_below H6.out bel); (case s2 => exact Kd.C_below H7.out bel); rintro e w5 ⟨v, rfl, ho_, hb_⟩; obtain ⟨An, cn, rfl, ln_, Cn_⟩ := Kd.R_reads ho_; have CN := Aside0.mk Cn_; replace HB := Aside0.mk (belt hb_); replace BX := Aside0.mk (blk_below BX.out hb_); clear hz0 hz1 hz2 hz3 hz4 hz5 hz6 hz7; obtain ⟨hz0, hz1, hz2, hz3, hz4, hz5, hz6, hz7⟩ := box8 BX.out; clear ho_ hb_ ln_ Cn_) | (go_at_call 50; (try (refine gate_guard (by rfl) ?_; dsimp only)); (with_reducible refine (contains_calls An cn ns _ _ ?s1 NB.out).mono ?_); (case s1 => exact CN.out); rintro e w6 ⟨rfl, hb_⟩; replace HB := Aside0.mk (belt hb_); replace BX := Aside0.mk (blk_below BX.out hb_); clear hz0 hz1 hz2 hz3 hz4 hz5 hz6 hz7; obtain ⟨hz0, hz1, hz2, hz3, hz4, hz5, hz6, hz7⟩ := box8 BX.out; clear hb_) | (go_at_call 50; (try (refine gate_guard (by rfl) ?_; dsimp only)); (with_reducible refine (contains_calls A6 c6 l6 _ _ ?s1 PB.out).mono ?_); (case s1 => exact Kd.C_below H6.out bel); rintro e w7 ⟨rfl, hb_⟩; replace HB := Aside0.mk (belt hb_); replace BX := Aside0.mk (blk_below BX.out hb_); clear hz0 hz1 hz2 hz3 hz4 hz5 hz6 hz7; obtain ⟨hz0, hz1, hz2, hz3, hz4, hz5, hz6, hz7⟩ := box8 BX.out; clear hb_) | (go_at_call 52; (try (refine gate_guard (by rfl) ?_; dsimp only)); (with_reducible refine (containsR_calls A7 c7 l7 _ _ ?s1 OK.out QB.out).mono ?_); (case s1 => exact Kd.C_below H7.out bel); rintro e w8 ⟨rfl, hb_⟩; replace HB := Aside0.mk (belt hb_); replace BX := Aside0.mk (blk_below BX.out hb_); clear hz0 hz1 hz2 hz3 hz4 hz5 hz6 hz7; obtain ⟨hz0, hz1, hz2, hz3, hz4, hz5, hz6, hz7⟩ := box8 BX.out; clear hb_))
        go_ret
        exact ⟨rfl, bel⟩
      by_cases c6_ : 255 < l7.length
      · have c5z : (l6.length : Int) ≤ 255 := by omega
        have c6z : ¬ (l7.length : Int) ≤ 255 := by omega
        obtain rfl : false = r := by rw [decide_eq_false c5, decide_eq_true c6_] at h; exact Option.some.inj h
        clear h
        go_enter Try.func39, Try.ntmps39
        go_wp2_with (first | ((with_reducible refine gate_dst (N := 1) rfl ?_); refine box_event ?hg (N := 1) ?hd (cs := #[.int .i64 a0, .int .i64 a1, .int .i64 a2, .int .i64 a3, .int .i64 a4, .int .i64 a5, .slice A6 l6.length c6, .slice A7 l7.length c7]) (t := 45) ?hr ?_; (case hd => rfl); (case hg => rfl); (case hr => first | (go_simp; done) | (go_simp; rfl)); intro gb hg w4 hbox hb; replace HB := Aside0.mk (belt hb); have BX := Aside0.mk hbox; obtain ⟨hz0, hz1, hz2, hz3, hz4, hz5, hz6, hz7⟩ := box8 BX.out; clear hbox hb hg) | (go_at_call 40; (try (refine gate_guard (by rfl) ?_; dsimp only)); (with_reducible refine (letter_numbers.calls a0 a1 a2 a3 a4 a5 A6 c6 l6 A7 c7 l7 ns _ ?s1 H6L.out ?s2 H7L.out NS.out).mono ?_); (case s1 => exact Kd.C_below H6.out bel); (case s2 => exact Kd.C_below H7.out bel); rintro e w5 ⟨v, rfl, ho_, hb_⟩; obtain ⟨An, cn, rfl, ln_, Cn_⟩ := Kd.R_reads ho_; have CN := Aside0.mk Cn_; replace HB := Aside0.mk (belt hb_); replace BX := Aside0.mk (blk_below BX.out hb_); clear hz0 hz1 hz2 hz3 hz4 hz5 hz6 hz7; obtain ⟨hz0, hz1, hz2, hz3, hz4, hz5, hz6, hz7⟩ := box8 BX.out; clear ho_ hb_ ln_ Cn_) | (go_at_call 50; (try (refine gate_guard (by rfl) ?_; dsimp only)); (with_reducible refine (contains_calls An cn ns _ _ ?s1 NB.out).mono ?_); (case s1 => exact CN.out); rintro e w6 ⟨rfl, hb_⟩; replace HB := Aside0.mk (belt hb_); replace BX := Aside0.mk (blk_below BX.out hb_); clear hz0 hz1 hz2 hz3 hz4 hz5 hz6 hz7; obtain ⟨hz0, hz1, hz2, hz3, hz4, hz5, hz6, hz7⟩ := box8 BX.out; clear hb_) | (go_at_call 50; (try (refine gate_guard (by rfl) ?_; dsimp only)); (with_reducible refine (contains_calls A6 c6 l6 _ _ ?s1 PB.out).mono ?_); (case s1 => exact Kd.C_below H6.out bel); rintro e w7 ⟨rfl, hb_⟩; replace HB := Aside0.mk (belt hb_); replace BX := Aside0.mk (blk_below BX.out hb_); clear hz0 hz1 hz2 hz3 hz4 hz5 hz6 hz7; obtain ⟨hz0, hz1, hz2, hz3, hz4, hz5, hz6, hz7⟩ := box8 BX.out; clear hb_) | (go_at_call 52; (try (refine gate_guard (by rfl) ?_; dsimp only)); (with_reducible refine (containsR_calls A7 c7 l7 _ _ ?s1 OK.out QB.out).mono ?_); (case s1 => exact Kd.C_below H7.out bel); rintro e w8 ⟨rfl, hb_⟩; replace HB := Aside0.mk (belt hb_); replace BX := Aside0.mk (blk_below BX.out hb_); clear hz0 hz1 hz2 hz3 hz4 hz5 hz6 hz7; obtain ⟨hz0, hz1, hz2, hz3, hz4, hz5, hz6, hz7⟩ := box8 BX.out; clear hb_))
        go_ret
        exact ⟨rfl, bel⟩
      have c5z : (l6.length : Int) ≤ 255 := by omega
      have c6z : (l7.length : Int) ≤ 255 := by omega
      rw [decide_eq_false c5, decide_eq_false c6_] at h
      cases qb with
      | true =>
        obtain rfl : false = r := Option.some.inj h
        clear h
        go_enter Try.func39, Try.ntmps39
        go_wp2_with (first | ((with_reducible refine gate_dst (N := 1) rfl ?_); refine box_event ?hg (N := 1) ?hd (cs := #[.int .i64 a0, .int .i64 a1, .int .i64 a2, .int .i64 a3, .int .i64 a4, .int .i64 a5, .slice A6 l6.length c6, .slice A7 l7.length c7]) (t := 45) ?hr ?_; (case hd => rfl); (case hg => rfl); (case hr => first | (go_simp; done) | (go_simp; rfl)); intro gb hg w4 hbox hb; replace HB := Aside0.mk (belt hb); have BX := Aside0.mk hbox; obtain ⟨hz0, hz1, hz2, hz3, hz4, hz5, hz6, hz7⟩ := box8 BX.out; clear hbox hb hg) | (go_at_call 40; (try (refine gate_guard (by rfl) ?_; dsimp only)); (with_reducible refine (letter_numbers.calls a0 a1 a2 a3 a4 a5 A6 c6 l6 A7 c7 l7 ns _ ?s1 H6L.out ?s2 H7L.out NS.out).mono ?_); (case s1 => exact Kd.C_below H6.out bel); (case s2 => exact Kd.C_below H7.out bel); rintro e w5 ⟨v, rfl, ho_, hb_⟩; obtain ⟨An, cn, rfl, ln_, Cn_⟩ := Kd.R_reads ho_; have CN := Aside0.mk Cn_; replace HB := Aside0.mk (belt hb_); replace BX := Aside0.mk (blk_below BX.out hb_); clear hz0 hz1 hz2 hz3 hz4 hz5 hz6 hz7; obtain ⟨hz0, hz1, hz2, hz3, hz4, hz5, hz6, hz7⟩ := box8 BX.out; clear ho_ hb_ ln_ Cn_) | (go_at_call 50; (try (refine gate_guard (by rfl) ?_; dsimp only)); (with_reducible refine (contains_calls An cn ns _ _ ?s1 NB.out).mono ?_); (case s1 => exact CN.out); rintro e w6 ⟨rfl, hb_⟩; replace HB := Aside0.mk (belt hb_); replace BX := Aside0.mk (blk_below BX.out hb_); clear hz0 hz1 hz2 hz3 hz4 hz5 hz6 hz7; obtain ⟨hz0, hz1, hz2, hz3, hz4, hz5, hz6, hz7⟩ := box8 BX.out; clear hb_) | (go_at_call 50; (try (refine gate_guard (by rfl) ?_; dsimp only)); (with_reducible refine (contains_calls A6 c6 l6 _ _ ?s1 PB.out).mono ?_); (case s1 => exact Kd.C_below H6.out bel); rintro e w7 ⟨rfl, hb_⟩; replace HB := Aside0.mk (belt hb_); replace BX := Aside0.mk (blk_below BX.out hb_); clear hz0 hz1 hz2 hz3 hz4 hz5 hz6 hz7; obtain ⟨hz0, hz1, hz2, hz3, hz4, hz5, hz6, hz7⟩ := box8 BX.out; clear hb_) | (go_at_call 52; (try (refine gate_guard (by rfl) ?_; dsimp only)); (with_reducible refine (containsR_calls A7 c7 l7 _ _ ?s1 OK.out QB.out).mono ?_); (case s1 => exact Kd.C_below H7.out bel); rintro e w8 ⟨rfl, hb_⟩; replace HB := Aside0.mk (belt hb_); replace BX := Aside0.mk (blk_below BX.out hb_); clear hz0 hz1 hz2 hz3 hz4 hz5 hz6 hz7; obtain ⟨hz0, hz1, hz2, hz3, hz4, hz5, hz6, hz7⟩ := box8 BX.out; clear hb_))
        go_ret
        exact ⟨rfl, bel⟩
      | false =>
        obtain rfl : true = r := Option.some.inj h
        clear h
        go_enter Try.func39, Try.ntmps39
        go_wp2_with (first | ((with_reducible refine gate_dst (N := 1) rfl ?_); refine box_event ?hg (N := 1) ?hd (cs := #[.int .i64 a0, .int .i64 a1, .int .i64 a2, .int .i64 a3, .int .i64 a4, .int .i64 a5, .slice A6 l6.length c6, .slice A7 l7.length c7]) (t := 45) ?hr ?_; (case hd => rfl); (case hg => rfl); (case hr => first | (go_simp; done) | (go_simp; rfl)); intro gb hg w4 hbox hb; replace HB := Aside0.mk (belt hb); have BX := Aside0.mk hbox; obtain ⟨hz0, hz1, hz2, hz3, hz4, hz5, hz6, hz7⟩ := box8 BX.out; clear hbox hb hg) | (go_at_call 40; (try (refine gate_guard (by rfl) ?_; dsimp only)); (with_reducible refine (letter_numbers.calls a0 a1 a2 a3 a4 a5 A6 c6 l6 A7 c7 l7 ns _ ?s1 H6L.out ?s2 H7L.out NS.out).mono ?_); (case s1 => exact Kd.C_below H6.out bel); (case s2 => exact Kd.C_below H7.out bel); rintro e w5 ⟨v, rfl, ho_, hb_⟩; obtain ⟨An, cn, rfl, ln_, Cn_⟩ := Kd.R_reads ho_; have CN := Aside0.mk Cn_; replace HB := Aside0.mk (belt hb_); replace BX := Aside0.mk (blk_below BX.out hb_); clear hz0 hz1 hz2 hz3 hz4 hz5 hz6 hz7; obtain ⟨hz0, hz1, hz2, hz3, hz4, hz5, hz6, hz7⟩ := box8 BX.out; clear ho_ hb_ ln_ Cn_) | (go_at_call 50; (try (refine gate_guard (by rfl) ?_; dsimp only)); (with_reducible refine (contains_calls An cn ns _ _ ?s1 NB.out).mono ?_); (case s1 => exact CN.out); rintro e w6 ⟨rfl, hb_⟩; replace HB := Aside0.mk (belt hb_); replace BX := Aside0.mk (blk_below BX.out hb_); clear hz0 hz1 hz2 hz3 hz4 hz5 hz6 hz7; obtain ⟨hz0, hz1, hz2, hz3, hz4, hz5, hz6, hz7⟩ := box8 BX.out; clear hb_) | (go_at_call 50; (try (refine gate_guard (by rfl) ?_; dsimp only)); (with_reducible refine (contains_calls A6 c6 l6 _ _ ?s1 PB.out).mono ?_); (case s1 => exact Kd.C_below H6.out bel); rintro e w7 ⟨rfl, hb_⟩; replace HB := Aside0.mk (belt hb_); replace BX := Aside0.mk (blk_below BX.out hb_); clear hz0 hz1 hz2 hz3 hz4 hz5 hz6 hz7; obtain ⟨hz0, hz1, hz2, hz3, hz4, hz5, hz6, hz7⟩ := box8 BX.out; clear hb_) | (go_at_call 52; (try (refine gate_guard (by rfl) ?_; dsimp only)); (with_reducible refine (containsR_calls A7 c7 l7 _ _ ?s1 OK.out QB.out).mono ?_); (case s1 => exact Kd.C_below H7.out bel); rintro e w8 ⟨rfl, hb_⟩; replace HB := Aside0.mk (belt hb_); replace BX := Aside0.mk (blk_below BX.out hb_); clear hz0 hz1 hz2 hz3 hz4 hz5 hz6 hz7; obtain ⟨hz0, hz1, hz2, hz3, hz4, hz5, hz6, hz7⟩ := box8 BX.out; clear hb_))
        go_ret
        exact ⟨rfl, bel⟩
end Go.Proofs.Ytjcfmfdkligmoaa.Lt
