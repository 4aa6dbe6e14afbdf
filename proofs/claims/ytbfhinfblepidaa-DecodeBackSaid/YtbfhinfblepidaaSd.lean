/- The number with which a block can be made: the program's search and the document's come to the first one whose rows have full rank. Conditions: those that stand in the theorems. -/
import Derived.Test.YtbfhinfblepidaaSm
import Derived.Test.YtbfhinfblepidaaFSeedTells
namespace Go.Proofs.Ytbfhinfblepidaa.Sd
open Go.RowKit Go.Proofs.Ytbfhinfblepidaa.PSolveTells Go.Proofs.Ytbfhinfblepidaa.PSeedTells Go.Proofs.YtbfhinfblepidaaW.PrintWords Go.Proofs.YtbfhinfblepidaaW.PrintLast Go.Proofs.Ytbfhinfblepidaa.Gf Go.Proofs.Ytbfhinfblepidaa.Rw Go.Proofs.Ytbfhinfblepidaa.Pc Go.Proofs.Ytbfhinfblepidaa.Sv Go.Proofs.Ytbfhinfblepidaa.FSolveTells Go.Proofs.Ytbfhinfblepidaa.FSeedTells Go.Proofs.Ytbfhinfblepidaa.Sl
def byt (l : List Int) : List F := l.map fun x => UInt8.ofNat x.toNat
theorem tl_byt (l : List Int) (h : ∀ x ∈ l, 0 ≤ x ∧ x ≤ 255) : tl (byt l) = l := by
  unfold tl byt
  rw [List.map_map]
  conv => rhs; rw [← List.map_id l]
  apply List.map_congr_left
  intro x hx
  have := h x hx
  show ti (UInt8.ofNat x.toNat) = x
  unfold ti
  rw [UInt8.toNat_ofNat', Nat.mod_eq_of_lt (by omega)]
  omega
def byts (L : List (List Int)) : List (List F) := L.map byt
theorem tll_byts (L : List (List Int)) (h : ∀ l ∈ L, ∀ x ∈ l, 0 ≤ x ∧ x ≤ 255) : tll (byts L) = L := by
  unfold tll byts
  rw [List.map_map]
  conv => rhs; rw [← List.map_id L]
  exact List.map_congr_left fun l hl => tl_byt l (h l hl)
abbrev Byt (l : List Int) : Prop := ∀ x ∈ l, 0 ≤ x ∧ x ≤ 255
theorem byt_set {l : List Int} (h : Byt l) (i : Nat) {v : Int} (hv : 0 ≤ v ∧ v ≤ 255) : Byt (l.set i v) := fun x hx => by
  rcases List.mem_or_eq_of_mem_set hx with h' | rfl
  · exact h x h'
  · exact hv
theorem byt_app {a b : List Int} (ha : Byt a) (hb : Byt b) : Byt (a ++ b) := fun x hx => (List.mem_append.1 hx).elim (ha x) (hb x)
theorem byt_zero (n : Nat) : Byt (List.replicate n 0) := fun x hx => by rw [List.eq_of_mem_replicate hx]; decide
theorem byt_low (k i : Nat) : Byt (lowRow k i) := by
  unfold lowRow
  refine byt_set (byt_set (byt_app (fun x hx => ?_) (byt_zero _)) _ (by decide)) _ (by decide)
  obtain ⟨c, _, rfl⟩ := List.mem_map.1 hx
  unfold lowVal
  split <;> decide
theorem byt_high (k h : Nat) : Byt (highRow k h) := by
  unfold highRow
  refine byt_set (byt_app (fun x hx => ?_) (byt_zero _)) _ (by decide)
  obtain ⟨c, _, rfl⟩ := List.mem_map.1 hx
  unfold highVal
  have := pw_lt 2 (rnd (c : Int) ((h : Int) + 7) 255)
  omega
theorem byt_marks (l : List Nat) : ∀ row, Byt row → Byt (marks l row) := by
  unfold marks
  induction l with
  | nil => intro row h; exact h
  | cons x l ih => intro row h; exact ih _ (byt_set h x (by decide))
theorem byt_part (k j e : Nat) : Byt (partRow k j e) := byt_marks _ _ (byt_zero _)
theorem ties_mem {k : Nat} {r : List Int} (h : r ∈ ties k) : Byt r ∧ r.length = kL k := by
  rcases List.mem_append.1 h with h | h
  · obtain ⟨i, _, rfl⟩ := List.mem_map.1 h
    exact ⟨byt_low k i, lowRow_length k i⟩
  · obtain ⟨i, _, rfl⟩ := List.mem_map.1 h
    exact ⟨byt_high k i, highRow_length k i⟩
theorem mat_mem {k : Nat} {j : Int} {es : List Int} {r : List Int} (h : r ∈ matOf k j es) : Byt r ∧ r.length = kL k := by
  unfold matOf at h
  split at h
  · rcases List.mem_append.1 h with h | h
    · exact ties_mem h
    · obtain ⟨e, _, rfl⟩ := List.mem_map.1 h
      exact ⟨byt_part _ _ _, partRow_length _ _ _⟩
  · cases h
theorem mat_len {k : Nat} (h2 : k ≤ 40) (j : Int) (es : List Int) : (matOf k j es).length ≤ 9 + es.length := by
  unfold matOf
  have ht := ties_length h2
  split
  · simp only [ties, esiRows, List.length_append, List.length_map]; omega
  · simp
def matF (k : Nat) (j : Int) (es : List Int) : List (List F) := byts (matOf k j es)
theorem tll_mat (k : Nat) (j : Int) (es : List Int) : tll (matF k j es) = matOf k j es := tll_byts _ fun _ hr => (mat_mem hr).1
theorem matF_len (k : Nat) (j : Int) (es : List Int) : (matF k j es).length = (matOf k j es).length := by unfold matF byts; rw [List.length_map]
theorem matF_mem {k : Nat} {j : Int} {es : List Int} {r : List F} (h : r ∈ matF k j es) : r.length = kL k := by
  obtain ⟨l, hl, rfl⟩ := List.mem_map.1 h
  unfold byt; rw [List.length_map]; exact (mat_mem hl).2
theorem kL_le {k : Nat} (h2 : k ≤ 40) : kL k ≤ 49 := by unfold kL kW kS; omega
def rk (k : Nat) (j : Int) (es : List Int) : Nat := rankR (kL k : Int) (matF k j es)
theorem prank_ev {k : Nat} (h2 : k ≤ 40) (j : Int) (es : List Int) (hn : es.length < 2 ^ 39) : Pz.rank.f (kL k : Int) (matOf k j es) = some ((rk k j es : Nat) : Int) := by
  have h := rank_ev (kL k : Int) (matF k j es) (by have := mat_len h2 j es; rw [matF_len]; omega) (fun r hr => by rw [matF_mem hr]; have := kL_le h2; omega)
  rw [tll_mat] at h
  exact Pz.ev_of h
theorem prrank_ev {k : Nat} (h2 : k ≤ 40) (j : Int) (es : List Int) (hn : es.length < 2 ^ 39) : Pz.rrank.f (kL k : Int) (matOf k j es) = some ((rk k j es : Nat) : Int) := by
  have h := rrank_ev (kL k : Int) (matF k j es) (by have := mat_len h2 j es; rw [matF_len]; omega)
  rw [tll_mat] at h
  exact Pz.ev_of h
theorem rk_le {k : Nat} (h2 : k ≤ 40) (j : Int) (es : List Int) : rk k j es ≤ kL k := by
  have h := (rank_dim (fit_mem (kL k) (matF k j es))).2.1
  unfold rk rankR
  have e : RkSolveTells.cl (kL k : Int) = kL k := by unfold RkSolveTells.cl; have := kL_le h2; omega
  rw [e]; exact h
def src (k : Nat) : List Int := (List.range k).map fun i : Nat => (i : Int)
theorem src_len (k : Nat) : (src k).length = k := by unfold src; rw [List.length_map, List.length_range]
theorem src_succ (i : Nat) : src i ++ [(i : Int)] = src (i + 1) := by unfold src; rw [List.range_succ, List.map_append]; rfl
theorem sources_l0 (k : Nat) (h2 : k ≤ 40) (d : Nat) : ∀ i, i + d = k → Ev (fun q => seed_Sources.l0 q (src i) (k : Int) (i : Int)) (src k) := by
  induction d with
  | zero =>
    intro i hi
    refine Ev.step (fun k => by simp only [seed_Sources.l0]; rfl) ?_
    obtain rfl : i = k := by omega
    exact ev_neg (by omega) (Ev.now _)
  | succ d ih =>
    intro i hi
    refine Ev.step (fun k => by simp only [seed_Sources.l0]; rfl) ?_
    refine ev_pos (by omega) (ev_pos (by rw [src_len]; omega) ?_)
    rw [w64 (i := (i : Int) + 1) (by omega) (by omega), show (i : Int) + 1 = ((i + 1 : Nat) : Int) from by omega, src_succ]
    exact ih (i + 1) (by omega)
theorem sources_ev {k : Nat} (h2 : k ≤ 40) : Ev (fun q => seed_Sources.f q (k : Int)) (src k) := by
  unfold seed_Sources.f
  rw [show mx 0 (mn (k : Int) 40) = (k : Int) from by unfold mx mn; (repeat' split) <;> omega]
  exact sources_l0 k h2 k 0 (by omega)
theorem first_l0 (k : Nat) (h2 : k ≤ 40) (d : Nat) : ∀ i, i + d = k → Ev (fun q => fountainref1_first.l0 q (k : Int) (src i) (i : Int)) (src k) := by
  induction d with
  | zero =>
    intro i hi
    refine Ev.step (fun k => by simp only [fountainref1_first.l0]; rfl) ?_
    obtain rfl : i = k := by omega
    exact ev_neg (by omega) (Ev.now _)
  | succ d ih =>
    intro i hi
    refine Ev.step (fun k => by simp only [fountainref1_first.l0]; rfl) ?_
    refine ev_pos (by omega) (ev_pos (by rw [src_len]; omega) ?_)
    rw [w64 (i := (i : Int) + 1) (by omega) (by omega), show (i : Int) + 1 = ((i + 1 : Nat) : Int) from by omega, src_succ]
    exact ih (i + 1) (by omega)
theorem first_ev {k : Nat} (h2 : k ≤ 40) : Ev (fun q => fountainref1_first.f q (k : Int)) (src k) := by
  unfold fountainref1_first.f
  exact first_l0 k h2 k 0 (by omega)
def find (k : Nat) : Nat → Nat → Int × Int
  | 0, _ => (0, 5)
  | d + 1, j => if rk k (j : Int) (src k) = kL k then ((j : Int), 0) else find k d (j + 1)
def seedOf (k : Int) : Int × Int := if k < 1 ∨ 40 < k then (0, 1) else find k.toNat 256 0
theorem find_l0 {k : Nat} (h1 : 1 ≤ k) (h2 : k ≤ 40) (d : Nat) : ∀ j, j + d = 256 → Ev (fun q => seed_Find.l0 q (k : Int) (j : Int) (k : Int) ((kS k : Nat) : Int) 2) (find k d j) := by
  induction d with
  | zero =>
    intro j hj
    refine Ev.step (fun k => by simp only [seed_Find.l0]; rfl) ?_
    exact ev_neg (by omega) (Ev.now _)
  | succ d ih =>
    intro j hj
    refine Ev.step (fun k => by simp only [seed_Find.l0]; rfl) ?_
    refine ev_pos (by omega) ?_
    refine ev_val (l_ok h2) (Ev.bind (sources_ev h2) ?_)
    refine Ev.bind (matrix_ev h1 h2 (j : Int) (src k) (by rw [src_len]; omega)) ?_
    refine ev_val (prank_ev h2 (j : Int) (src k) (by rw [src_len]; omega)) (ev_val (l_ok h2) ?_)
    unfold find
    by_cases e : rk k (j : Int) (src k) = kL k
    · rw [if_pos e]; exact ev_pos (by omega) (Ev.now _)
    · rw [if_neg e]
      refine ev_neg (by omega) ?_
      rw [w64 (i := (j : Int) + 1) (by omega) (by omega), show (j : Int) + 1 = ((j + 1 : Nat) : Int) from by omega]
      exact ih (j + 1) (by omega)
theorem find_ev (k : Int) : Ev (fun q => seed_Find.f q k) (seedOf k) := by
  unfold seed_Find.f seedOf
  by_cases h : k < 1 ∨ 40 < k
  · rw [if_pos h]
    refine ev_val (of_no h) ?_
    exact ev_neg (by decide) (Ev.now _)
  · rw [if_neg h]
    obtain ⟨n, rfl⟩ : ∃ n : Nat, k = (n : Int) := ⟨k.toNat, by omega⟩
    rw [Int.toNat_natCast]
    refine ev_val (of_ok (by omega) (by omega)) ?_
    exact ev_pos rfl (find_l0 (by omega) (by omega) 256 0 (by omega))
theorem seed_l0 {k : Nat} (h1 : 1 ≤ k) (h2 : k ≤ 40) (d : Nat) : ∀ j, j + d = 256 → Ev (fun q => fountainref1_Seed.l0 q (k : Int) (j : Int)) (find k d j) := by
  induction d with
  | zero =>
    intro j hj
    refine Ev.step (fun k => by simp only [fountainref1_Seed.l0]; rfl) ?_
    exact ev_neg (by omega) (Ev.now _)
  | succ d ih =>
    intro j hj
    refine Ev.step (fun k => by simp only [fountainref1_Seed.l0]; rfl) ?_
    refine ev_pos (by omega) ?_
    refine ev_val (rL_ok h2) (Ev.bind (first_ev h2) ?_)
    refine Ev.bind (rmatrix_ev h1 h2 (j : Int) (src k) (by rw [src_len]; omega)) ?_
    refine ev_val (prrank_ev h2 (j : Int) (src k) (by rw [src_len]; omega)) (ev_val (rL_ok h2) ?_)
    unfold find
    by_cases e : rk k (j : Int) (src k) = kL k
    · rw [if_pos e]; exact ev_pos (by omega) (Ev.now _)
    · rw [if_neg e]
      refine ev_neg (by omega) ?_
      rw [w64 (i := (j : Int) + 1) (by omega) (by omega), show (j : Int) + 1 = ((j + 1 : Nat) : Int) from by omega]
      exact ih (j + 1) (by omega)
theorem seed_ev (k : Int) : Ev (fun q => fountainref1_Seed.f q k) (seedOf k) := by
  unfold fountainref1_Seed.f seedOf
  have bad : Ev (fun q => fountainref1_Seed.j0 q k true) (0, 1) := by
    refine Ev.step (fun k => by simp only [fountainref1_Seed.j0]; rfl) ?_
    exact ev_pos trivial (Ev.now _)
  by_cases c1 : k < 1
  · rw [if_pos (.inl c1)]; exact ev_pos c1 bad
  refine ev_neg c1 ?_
  by_cases c2 : k > 40
  · rw [if_pos (.inr c2), decide_eq_true c2]; exact bad
  · rw [if_neg (by omega), decide_eq_false c2]
    obtain ⟨n, rfl⟩ : ∃ n : Nat, k = (n : Int) := ⟨k.toNat, by omega⟩
    rw [Int.toNat_natCast]
    refine Ev.step (fun k => by simp only [fountainref1_Seed.j0]; rfl) ?_
    exact ev_neg (by decide) (seed_l0 (by omega) (by omega) 256 0 (by omega))
theorem find_says (k : Nat) : ∀ d j, (find k d j = (0, 5)) ∨ ∃ i, j ≤ i ∧ i < j + d ∧ find k d j = ((i : Int), 0) ∧ rk k (i : Int) (src k) = kL k ∧ ∀ m, j ≤ m → m < i → rk k (m : Int) (src k) ≠ kL k := by
  intro d
  induction d with
  | zero => intro j; left; rfl
  | succ d ih =>
    intro j
    unfold find
    by_cases e : rk k (j : Int) (src k) = kL k
    · rw [if_pos e]
      exact .inr ⟨j, Nat.le_refl _, by omega, rfl, e, fun m h1 h2 => by omega⟩
    · rw [if_neg e]
      rcases ih (j + 1) with h | ⟨i, h1, h2, h3, h4, h5⟩
      · exact .inl h
      · refine .inr ⟨i, by omega, by omega, h3, h4, fun m g1 g2 => ?_⟩
        by_cases em : m = j
        · subst em; exact e
        · exact h5 m (by omega) g2
end Go.Proofs.Ytbfhinfblepidaa.Sd
