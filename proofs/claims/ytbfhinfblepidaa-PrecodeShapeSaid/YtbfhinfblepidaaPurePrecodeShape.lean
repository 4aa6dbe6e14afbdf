/- Proved: PrecodeShape answers true: how many rows tie a block and any symbols, how long each is, which they are; no rows where a symbol's number is out of range. Conditions: the arguments are of their kinds, and the list takes no more memory than may be read. -/
import Derived.Test.YtbfhinfblepidaaFPrecodeShape
import Derived.Test.YtbfhinfblepidaaWSized
namespace Go.Proofs.Ytbfhinfblepidaa.PrintWords
open Go.ChangeShapes Go.WideShapes
/-- The print's row names this by the seat's own namespace. -/
theorem sized_ints {H : Type} {enc : TypeId × Value → H} {P : Program} {W : World} {base : Nat} {spare : Nat → Bool} {held : Bool} {t e : TypeId} {k : IntKind} {a : Option Addr} {len cap : Nat} {d : DataW H} {ps : List MemPlace} {ts : List TypeId} {ds : List (DataW H)} {j : Nat}
    (hsz : (DataW.weightsEach P ts ds).all (· ≤ reachBytes) = true) (ht : ts[j]? = some t) (hd : ds[j]? = some d) (hu : P.underlying t = some (.slice e)) (he : P.underlying e = some (.int k)) (hc : P.cellsOf e = 1) {B : Nat} (hB : P.bytesOf e = B)
    (h : DataW.Trod enc P W base spare held t (.slice a len cap) d ps) : len * B ≤ 140737488351232 :=
  Go.Proofs.YtbfhinfblepidaaW.PrintWords.sized_ints hsz ht hd hu he hc hB h
end Go.Proofs.Ytbfhinfblepidaa.PrintWords
namespace Go.Proofs.Ytbfhinfblepidaa.Pure
open Go.RowKit Go.Proofs.Ytbfhinfblepidaa.PPrecodeShape Go.Proofs.YtbfhinfblepidaaW.PrintWords Go.Proofs.YtbfhinfblepidaaW.PrintLast Go.Proofs.Ytbfhinfblepidaa.Gf Go.Proofs.Ytbfhinfblepidaa.Pc Go.Proofs.Ytbfhinfblepidaa.FPrecodeShape

theorem msk_ok (x : Int) : okE (Go.bits .and .i64 x 16777215) := by
  have e : Go.bits .and .i64 x 16777215 = IntKind.i64.wrap ((BitVec.ofInt IntKind.i64.bits x &&& BitVec.ofInt IntKind.i64.bits 16777215).toNat : Int) := rfl
  have h : (BitVec.ofInt IntKind.i64.bits x &&& BitVec.ofInt IntKind.i64.bits 16777215).toNat ≤ 16777215 := by
    rw [BitVec.toNat_and]
    exact Nat.le_trans Nat.and_le_right (by decide)
  rw [e]
  generalize (BitVec.ofInt IntKind.i64.bits x &&& BitVec.ofInt IntKind.i64.bits 16777215).toNat = n at h
  rw [IntWalk.i64_left, w64 (by omega) (by omega)]
  unfold okE; omega
theorem all_len {k : Nat} (j : Int) (E : List Int) : ∀ r ∈ ties k ++ esiRows k j E, r.length = kL k := by
  intro r hr
  rcases List.mem_append.1 hr with hr | hr
  · rcases List.mem_append.1 hr with hr | hr
    · obtain ⟨i, _, rfl⟩ := List.mem_map.1 hr; exact lowRow_length _ _
    · obtain ⟨i, _, rfl⟩ := List.mem_map.1 hr; exact highRow_length _ _
  · obtain ⟨i, _, rfl⟩ := List.mem_map.1 hr; exact partRow_length _ _ _
theorem mat_len (k : Nat) (j : Int) (E : List Int) : (ties k ++ esiRows k j E).length = kS k + 2 + E.length := by
  unfold ties esiRows
  rw [List.length_append, List.length_append, lowRows_length, highRows_length, List.length_map]
theorem at_len {L : List (List Int)} {n i : Nat} (h : ∀ r ∈ L, r.length = n) (hi : i < L.length) : (rd_L1 L (i : Int)).length = n := by
  unfold rd_L1
  rw [Int.toNat_natCast, List.getD_eq_getElem?_getD, List.getElem?_eq_getElem hi]
  exact h _ (List.getElem_mem hi)
theorem at_part {k : Nat} (j : Int) (E : List Int) {i : Nat} (hi : i < E.length) : rd_L1 (ties k ++ esiRows k j E) ((kS k + 2 + i : Nat) : Int) = partRow k j.toNat (rd E (i : Int)).toNat := by
  have ht : (ties k).length = kS k + 2 := by unfold ties; rw [List.length_append, lowRows_length, highRows_length]
  unfold rd_L1 rd esiRows
  rw [Int.toNat_natCast, Int.toNat_natCast, List.getD_eq_getElem?_getD, List.getElem?_append_right (by omega), ht, Nat.add_sub_cancel_left, List.getElem?_map, List.getD_eq_getElem?_getD, List.getElem?_eq_getElem hi]
  rfl
theorem shape_l1 {k j : Nat} (h1 : 1 ≤ k) (h2 : k ≤ 40) (hj : j ≤ 255) (bad : Int) (hb : ¬ okE bad) (E : List Int) (hE : ∀ e ∈ E, okE e) (hn : E.length ≤ 40) (d : Nat) : ∀ i, i + d = kS k + 2 + E.length →
    Ev (fun q => fountainlaw7_PrecodeShape.l1 q (k : Int) (j : Int) bad E (ties k ++ esiRows k (j : Int) E) (i : Int) (k : Int) ((kS k : Nat) : Int) 2) true := by
  have hS := kS_le h2
  have hm := mat_len k (j : Int) E
  induction d with
  | zero =>
    intro i hi
    refine Ev.step (fun q => by simp only [fountainlaw7_PrecodeShape.l1]; rfl) ?_
    refine ev_neg (by omega) (ev_pos (by omega) ?_)
    have hmat := matrix_ev h1 h2 (j : Int) (E ++ [bad]) (by rw [List.length_append, List.length_singleton]; omega)
    have e : matOf k (j : Int) (E ++ [bad]) = [] := by
      unfold matOf
      exact if_neg fun h => hb (h.2 bad (by simp))
    rw [e] at hmat
    refine Ev.bind hmat ?_
    exact Ev.now _
  | succ d ih =>
    intro i hi
    have hnext := ih (i + 1) (by omega)
    have hl : (rd_L1 (ties k ++ esiRows k (j : Int) E) (i : Int)).length = kL k := at_len (all_len (j : Int) E) (by omega)
    refine Ev.step (fun q => by simp only [fountainlaw7_PrecodeShape.l1]; rfl) ?_
    refine ev_pos (by omega) (ev_pos (by omega) (ev_val (l_ok h2) (ev_pos (by rw [hl]) ?_)))
    rw [w64 (i := (i : Int) + 1) (by omega) (by omega), show (i : Int) + 1 = ((i + 1 : Nat) : Int) from by omega]
    rw [w64 (i := ((kS k : Nat) : Int) + 2) (by omega) (by omega), w64 (i := (i : Int) - ((kS k : Nat) : Int)) (by omega) (by omega)]
    by_cases c : kS k + 2 ≤ i
    · obtain ⟨p, rfl⟩ : ∃ p, i = kS k + 2 + p := ⟨i - (kS k + 2), by omega⟩
      have hx : wrap64 (((kS k + 2 + p : Nat) : Int) - ((kS k : Nat) : Int) - 2) = (p : Int) := by rw [w64 (by omega) (by omega)]; omega
      refine ev_pos (by omega) ?_
      rw [hx]
      have hp : p < E.length := by omega
      have hok := hE (rd E (p : Int)) (by
        unfold rd
        rw [Int.toNat_natCast, List.getD_eq_getElem?_getD, List.getElem?_eq_getElem hp]
        exact List.getElem_mem hp)
      have hr := rrow_ev (j := j) (esi := (rd E (p : Int)).toNat) h1 h2 hj (by unfold okE at hok; omega)
      rw [show (((rd E (p : Int)).toNat : Nat) : Int) = rd E (p : Int) from by unfold okE at hok; omega] at hr
      refine ev_pos (by omega) (ev_pos (by omega) (Ev.bind hr ?_))
      refine ev_pos (by rw [at_part (j : Int) E hp]; rfl) ?_
      exact hnext
    · exact ev_neg (by omega) hnext
theorem shape_l0 {k j : Nat} (h1 : 1 ≤ k) (h2 : k ≤ 40) (hj : j ≤ 255) (bad : Int) (hb : ¬ okE bad) (l : List Int) (hn : l.length ≤ 40) (t : List Int) : ∀ (i : Nat) (E : List Int), l.drop i = t → i ≤ l.length → E.length = i → (∀ e ∈ E, okE e) →
    Ev (fun q => fountainlaw7_PrecodeShape.l0 q (k : Int) (j : Int) l bad E (i : Int) (k : Int) ((kS k : Nat) : Int) 2) true := by
  have hS := kS_le h2
  induction t with
  | nil =>
    intro i E hd hle hl hE
    have hli : l.length ≤ i := by have := congrArg List.length hd; simp at this; omega
    refine Ev.step (fun q => by simp only [fountainlaw7_PrecodeShape.l0]; rfl) ?_
    refine ev_neg (by omega) ?_
    have hmat := matrix_ev h1 h2 (j : Int) E (by omega)
    have e : matOf k (j : Int) E = ties k ++ esiRows k (j : Int) E := by
      unfold matOf
      exact if_pos ⟨⟨by omega, by omega⟩, hE⟩
    rw [e] at hmat
    refine Ev.bind hmat (ev_pos ?_ ?_)
    · rw [mat_len, w64 (i := ((kS k : Nat) : Int) + 2) (by omega) (by omega), w64 (by omega) (by omega)]; omega
    · exact shape_l1 h1 h2 hj bad hb E hE (by omega) (kS k + 2 + E.length) 0 (by omega)
  | cons x t ih =>
    intro i E hd hle hl hE
    obtain ⟨g1, g2, g3⟩ := rd_drop hd
    refine Ev.step (fun q => by simp only [fountainlaw7_PrecodeShape.l0]; rfl) ?_
    refine ev_pos (by omega) (ev_pos (by omega) (ev_pos (by omega) ?_))
    rw [g1, w64 (i := (i : Int) + 1) (by omega) (by omega), show (i : Int) + 1 = ((i + 1 : Nat) : Int) from by omega]
    refine ih (i + 1) (E ++ [Go.bits .and .i64 x 16777215]) g3 (by omega) (by rw [List.length_append, List.length_singleton, hl]) ?_
    intro e he
    rcases List.mem_append.1 he with he | he
    · exact hE e he
    · rw [List.mem_singleton] at he; subst he; exact msk_ok x
theorem away (a0 a1 a3 : Int) (l2 : List Int) (b : Bool) (h : b = true) : Ev (fun q => fountainlaw7_PrecodeShape.j0 q a0 a1 l2 a3 true b) true := by
  refine Ev.step (fun q => by simp only [fountainlaw7_PrecodeShape.j0]; rfl) ?_
  exact ev_pos h (Ev.now _)
theorem told {k j : Nat} (h1 : 1 ≤ k) (h2 : k ≤ 40) (hj : j ≤ 255) (bad : Int) (hb : ¬ okE bad) (l : List Int) (hn : l.length ≤ 40) (b : Bool) (h : b = false) : Ev (fun q => fountainlaw7_PrecodeShape.j0 q (k : Int) (j : Int) l bad true b) true := by
  refine Ev.step (fun q => by simp only [fountainlaw7_PrecodeShape.j0]; rfl) ?_
  refine ev_neg (by rw [h]; decide) (ev_val (of_ok h1 h2) ?_)
  exact shape_l0 h1 h2 hj bad hb l hn l 0 [] rfl (by omega) rfl (fun e he => by simp at he)
theorem PrecodeShape : fountainlaw7_PrecodeShape.Pure := by
  intro a0 a1 l2 a3 _ _ _ _ _ _
  refine Ev.rounds (?_ : Ev (fun q => fountainlaw7_PrecodeShape.f q a0 a1 l2 a3) true)
  unfold fountainlaw7_PrecodeShape.f
  refine Ev.bind alive_ev (ev_pos rfl ?_)
  by_cases c1 : a0 < 1
  · exact ev_pos c1 (away _ _ _ _ _ rfl)
  refine ev_neg c1 ?_
  by_cases c2 : a0 > 40
  · exact ev_pos c2 (away _ _ _ _ _ rfl)
  refine ev_neg c2 ?_
  by_cases c3 : a1 < 0
  · exact ev_pos c3 (away _ _ _ _ _ rfl)
  refine ev_neg c3 ?_
  by_cases c4 : a1 > 255
  · exact ev_pos c4 (away _ _ _ _ _ rfl)
  refine ev_neg c4 ?_
  by_cases c5 : (l2.length : Int) > 40
  · exact ev_pos c5 (away _ _ _ _ _ rfl)
  refine ev_neg c5 ?_
  obtain ⟨k, rfl⟩ : ∃ k : Nat, a0 = (k : Int) := ⟨a0.toNat, by omega⟩
  obtain ⟨j, rfl⟩ : ∃ k : Nat, a1 = (k : Int) := ⟨a1.toNat, by omega⟩
  by_cases c6 : a3 ≥ 0
  · refine ev_pos c6 ?_
    by_cases c7 : a3 < 16777216
    · exact away _ _ _ _ _ (decide_eq_true c7)
    · exact told (by omega) (by omega) (by omega) a3 (fun h => c7 h.2) l2 (by omega) _ (decide_eq_false c7)
  · exact ev_neg c6 (told (by omega) (by omega) (by omega) a3 (fun h => c6 h.1) l2 (by omega) _ rfl)
end Go.Proofs.Ytbfhinfblepidaa.Pure
