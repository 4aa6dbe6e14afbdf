/- A matrix in memory: a block of slices of bytes, each read as a row; what a store, or an event that only makes memory, leaves of it. No program is in sight; conditions: those that stand in the theorems. -/
import Derived.Test.YtbfhinfblepidaaCf
import Derived.Test.YtbfhinfblepidaaPq
namespace Go.Proofs.Ytbfhinfblepidaa.Mt
open Go.RowKit Go.Lib Go.Proofs.YtbfhinfblepidaaW.PrintWords Go.Proofs.YtbfhinfblepidaaW.PrintLast Go.Proofs.YtbfhinfblepidaaW.PrintMore
def ro (L : List (List Int)) (i : Nat) : List Int := L.getD i []
theorem rd_ro (L : List (List Int)) (i : Nat) : Cf.rd_L1 L (i : Int) = ro L i := by unfold Cf.rd_L1 ro; rw [Int.toNat_natCast]
theorem ro_set (L : List (List Int)) (i j : Nat) (r : List Int) (h : i < L.length) : ro (L.set i r) j = if i = j then r else ro L j := by
  unfold ro
  rw [List.getD_eq_getElem?_getD, List.getElem?_set, List.getD_eq_getElem?_getD]
  split
  · rename_i e; subst e; first | (rw [if_pos h]; rfl) | rfl
  · rfl
theorem ro_mem_drop {L : List (List Int)} {n i : Nat} (h1 : n ≤ i) (h2 : i < L.length) : ro L i ∈ L.drop n := by
  refine List.mem_iff_getElem?.2 ⟨i - n, ?_⟩
  rw [List.getElem?_drop, show n + (i - n) = i from by omega]
  unfold ro
  rw [List.getD_eq_getElem?_getD, List.getElem?_eq_getElem h2]; rfl
abbrev RowC (W : World) (A : Option Addr) (l : List Int) : Prop := (Kd.int .u8).C W A l.length l
/-- A row's cells are numbers: a store onto a cell that holds something else leaves them. -/
theorem rowC_set {W : World} {A : Option Addr} {l : List Int} (h : RowC W A l) {p : Addr} {B : Option Addr} {n c : Nat} (hp : W.cell? p = some (.slice B n c)) (v : Value) : RowC (W.setCell p v) A l := by
  refine ⟨h.1, h.2.1, fun hl => ?_⟩
  obtain ⟨ad, e, hr⟩ := h.2.2 hl
  refine ⟨ad, e, fun j x hj => ?_⟩
  obtain ⟨cs, h1, h2, h3⟩ := hr j x hj
  refine ⟨cs, h1, h2, fun i u hu => ?_⟩
  have hq := h3 i u hu
  have h2' : cs = [.int .u8 x] := h2
  subst h2'
  cases i with
  | succ i => simp at hu
  | zero =>
    obtain rfl : Value.int .u8 x = u := by simpa using hu
    rw [World.cell?_setCell_other]
    · exact hq
    · intro e; rw [← e, hp] at hq; cases hq
theorem rowV {W : World} {A : Option Addr} {l : List Int} {c : Nat} (h : RowC W A l) (hc : l.length ≤ c) : Kd.V (Kd.int .u8) 5 W W.heap.size (fun _ => True) (.slice A l.length c) l := by
  refine ⟨A, c, rfl, hc, fun W' hW => ⟨h.1, h.2.1, fun hl => ?_⟩⟩
  obtain ⟨ad, e, hr⟩ := h.2.2 hl
  refine ⟨ad, e, fun j x hj => ?_⟩
  obtain ⟨cs, h1, h2, h3⟩ := hr j x hj
  refine ⟨cs, h1, h2, fun i u hu => ?_⟩
  have hq := h3 i u hu
  have := hW _ trivial (World.block_lt_of_cell? W _ hq)
  unfold World.cell? at hq ⊢
  rw [this]; exact hq
structure Mat (T : Nat) (W : World) (g : Nat) (L : List (List Int)) : Prop where
  blk : ∃ cs : Array Value, W.heap[g]? = some (.cells cs T (0, 0))
  row : ∀ i, i < L.length → ∃ A c, W.cell? ⟨g, i, none⟩ = some (.slice A (ro L i).length c) ∧ (ro L i).length ≤ c ∧ RowC W A (ro L i)
section
variable {T g : Nat} {W W' : World} {L : List (List Int)}
theorem Mat.frozen (h : Mat T W g L) (i : Nat) : W.frozen? ⟨g, i, none⟩ = false := by obtain ⟨cs, h⟩ := h.blk; exact blk_frozen h i
theorem Mat.lt (h : Mat T W g L) : g < W.heap.size := by obtain ⟨cs, h⟩ := h.blk; exact blk_lt h
theorem Mat.below (h : Mat T W g L) (hb : Below W.heap.size W W') : Mat T W' g L := by
  refine ⟨?_, fun i hi => ?_⟩
  · obtain ⟨cs, h⟩ := h.blk; exact ⟨cs, blk_below h hb⟩
  · obtain ⟨A, c, h1, h2, h3⟩ := h.row i hi
    exact ⟨A, c, (hb.cell (World.block_lt_of_cell? W _ h1)).trans h1, h2, Kd.C_below h3 hb⟩
theorem Mat.set (h : Mat T W g L) {i : Nat} (hi : i < L.length) {A : Option Addr} {r : List Int} {c : Nat} (hc : r.length ≤ c) (hr : RowC W A r) : Mat T (W.setCell ⟨g, i, none⟩ (.slice A r.length c)) g (L.set i r) := by
  obtain ⟨B, d, h1, _, _⟩ := h.row i hi
  refine ⟨?_, fun j hj => ?_⟩
  · obtain ⟨cs, h⟩ := h.blk; exact ⟨_, blk_set h i _⟩
  · rw [List.length_set] at hj
    rw [ro_set L i j r hi]
    by_cases e : i = j
    · subst e
      rw [if_pos rfl]
      exact ⟨A, c, World.cell?_setCell_same _ _ _ h1, hc, rowC_set hr h1 _⟩
    · rw [if_neg e]
      obtain ⟨A', c', g1, g2, g3⟩ := h.row j hj
      exact ⟨A', c', (World.cell?_setCell_other _ _ _ _ (by intro k; injection k with _ k _; exact e k)).trans g1, g2, rowC_set g3 h1 _⟩
theorem Mat.far (h : Mat T W g L) {g' i : Nat} (hne : g' ≠ g) {B : Option Addr} {n d : Nat} (h1 : W.cell? ⟨g', i, none⟩ = some (.slice B n d)) (v : Value) : Mat T (W.setCell ⟨g', i, none⟩ v) g L := by
  refine ⟨?_, fun j hj => ?_⟩
  · obtain ⟨cs, h⟩ := h.blk; exact ⟨cs, blk_far (p := ⟨g', i, none⟩) h (fun k => hne k.symm) _⟩
  · obtain ⟨A', c', g1, g2, g3⟩ := h.row j hj
    exact ⟨A', c', (World.cell?_setCell_other _ _ _ _ (by intro k; injection k with k _ _; exact hne k)).trans g1, g2, rowC_set g3 h1 _⟩
theorem add_at' (g n j : Nat) : (⟨g, n, none⟩ : Addr).add j = ⟨g, n + j, none⟩ := by
  unfold Addr.add
  split
  · rename_i h; subst h; rfl
  · rfl
/-- The rows from number n on, as they are handed on. -/
theorem Mat.drop (h : Mat T W g L) (n : Nat) (hbig : L.length < 2 ^ 40) : (Kd.slice 5 (Kd.int .u8)).C W (some ⟨g, n, none⟩) (L.drop n).length (L.drop n) := by
  refine ⟨rfl, by rw [List.length_drop]; omega, fun _ => ⟨_, rfl, fun j p hj => ?_⟩⟩
  rw [List.getElem?_drop] at hj
  have hlt : n + j < L.length := (List.getElem?_eq_some_iff.1 hj).1
  have e : ro L (n + j) = p := by unfold ro; rw [List.getD_eq_getElem?_getD, hj]; rfl
  obtain ⟨A, c, h1, h2, h3⟩ := h.row (n + j) hlt
  rw [e] at h1 h2 h3
  refine ⟨[.slice A p.length c], rfl, ⟨A, c, rfl, h2, h3⟩, fun i u hu => ?_⟩
  cases i with
  | succ i => simp at hu
  | zero =>
    obtain rfl : Value.slice A p.length c = u := by simpa using hu
    show W.cell? ((⟨g, n, none⟩ : Addr).add (j * 1 + 0)) = _
    rw [add_at', Nat.mul_one, Nat.add_zero]
    exact h1
/-- Rows of the call's own are a matrix. -/
theorem Mat.of_R {base : Nat} {ok : Nat → Prop} {v : Value} {xs : List (List Int)} (h : (Kd.slice 5 (Kd.int .u8)).R T W base ok v xs) (hp : 0 < xs.length) :
    ∃ g c, v = .slice (some ⟨g, 0, none⟩) xs.length c ∧ xs.length ≤ c ∧ base ≤ g ∧ Mat T W g xs := by
  obtain ⟨g, c, rfl, hb, hl, hcells⟩ := Kd.R_form h hp
  obtain ⟨A, c', e, hc, hC⟩ := Kd.R_reads h
  injection e with e1 e2 e3
  subst e1
  subst e3
  refine ⟨g, c, rfl, hc, hb, hcells, fun i hi => ?_⟩
  obtain ⟨ad, A0, c0, e, h1, h2, h3⟩ := Cf.at_L1 hC (i : Int) (by omega) (by omega)
  injection e with e
  subst e
  rw [rd_ro, Int.toNat_natCast, add_at', Nat.zero_add] at h1
  rw [rd_ro] at h2 h3
  exact ⟨A0, c0, h1, h2, h3⟩
end
end Go.Proofs.Ytbfhinfblepidaa.Mt
