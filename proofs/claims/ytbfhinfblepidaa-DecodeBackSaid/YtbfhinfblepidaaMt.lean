/- slices.IndexFunc and slices.ContainsFunc over rows of bytes, with whatever function value that tells of each row whether it is meant: where the first such row stands; whether there is one. Conditions: those that stand in the theorems. 95, 80: the two functions' numbers at this program. -/
import Derived.Test.YtbfhinfblepidaaProg
import Derived.Test.YtbfhinfblepidaaWWords
import Derived.WalkKit
import Derived.ProofKit
import Derived.Lib.Walk
import Derived.Deep.LoopGhost
import Derived.Deep.Draws
import Derived.Shelf.Abstract
import Derived.Test.YtbfhinfblepidaaPq
namespace Go.Proofs.Ytbfhinfblepidaa.Cf
open Go.RowKit Go.Lib Go.Proofs.YtbfhinfblepidaaW.PrintWords Go.Proofs.YtbfhinfblepidaaW.PrintLast Go.Proofs.YtbfhinfblepidaaW.PrintMore
def rd_L1 (xs : List (List Int)) (i : Int) : (List Int) := xs.getD i.toNat ([] : List Int)
theorem at_L1 {w : World} {A : Option Addr} {n : Nat} {xs : List (List Int)} (h : Kd.C (Kd.slice 5 (Kd.int .u8)) w A n xs) (i : Int) (h0 : 0 ≤ i) (h1 : i < n) : ∃ ad A0 c0, A = some ad ∧ w.cell? (ad.add i.toNat) = some (.slice A0 (rd_L1 xs i).length c0) ∧ (rd_L1 xs i).length ≤ c0 ∧ (Kd.int .u8).C w A0 (rd_L1 xs i).length (rd_L1 xs i) := by
  obtain ⟨ad, c, e, _, hK, hc0⟩ := Kd.C_get h ([] : List Int) i h0 h1
  have hc : ∀ j u, c[j]? = some u → w.cell? (ad.add (i.toNat * 1 + j)) = some u := hc0
  obtain ⟨A0, c0, rfl, l0, g0⟩ := hK
  exact ⟨ad, A0, c0, e, by have hq := hc 0 _ rfl; rwa [Nat.mul_one, Nat.add_zero] at hq, l0, g0⟩
def Tells (g : Nat) (lb : Array Value) (p : List Int → Bool) (L : List (List Int)) (w : World) : Prop :=
  ∀ (W : World) (j : Nat) (A : Option Addr) (c : Nat), j < L.length → Below w.heap.size w W → (Kd.int .u8).C W A (rd_L1 L (j : Int)).length (rd_L1 L (j : Int)) →
    Calls Try.prog g (#[.slice A (rd_L1 L (j : Int)).length c] ++ lb) W fun e w' => e = .returned (.bool (p (rd_L1 L (j : Int)))) ∧ Below w.heap.size w w'
def idx (p : List Int → Bool) : List (List Int) → Int → Int
  | [], _ => -1
  | r :: L, i => if p r = true then i else idx p L (i + 1)
theorem idx_hit {p : List Int → Bool} {L : List (List Int)} : ∀ (k : Nat) (i : Int), k < L.length → p (rd_L1 L (k : Int)) = true → (∀ j : Nat, j < k → p (rd_L1 L (j : Int)) = false) → idx p L i = i + k := by
  induction L with
  | nil => intro k i h; simp at h
  | cons r L ih =>
    intro k i hk hp hj
    cases k with
    | zero => simp only [idx]; rw [if_pos (by simpa [rd_L1] using hp)]; simp
    | succ k =>
      have h0 := hj 0 (by omega)
      simp only [idx]
      rw [if_neg (by have : p r = false := by simpa [rd_L1] using h0
                     rw [this]; decide)]
      have e : ∀ m : Nat, rd_L1 (r :: L) ((m + 1 : Nat) : Int) = rd_L1 L (m : Int) := fun m => by unfold rd_L1; rw [Int.toNat_natCast, Int.toNat_natCast]; rfl
      rw [ih k (i + 1) (by simpa using hk) (by rw [← e]; exact hp) (fun j h => by rw [← e]; exact hj (j + 1) (by omega))]
      omega
theorem idx_miss {p : List Int → Bool} {L : List (List Int)} : ∀ (i : Int), (∀ j : Nat, j < L.length → p (rd_L1 L (j : Int)) = false) → idx p L i = -1 := by
  induction L with
  | nil => intro i _; rfl
  | cons r L ih =>
    intro i hj
    have h0 := hj 0 (by simp)
    simp only [idx]
    rw [if_neg (by have : p r = false := by simpa [rd_L1] using h0
                   rw [this]; decide)]
    have e : ∀ m : Nat, rd_L1 (r :: L) ((m + 1 : Nat) : Int) = rd_L1 L (m : Int) := fun m => by unfold rd_L1; rw [Int.toNat_natCast, Int.toNat_natCast]; rfl
    exact ih (i + 1) (fun j h => by rw [← e]; exact hj (j + 1) (by simp; omega))
set_option maxHeartbeats 2000000 in
theorem index_calls (g : Nat) (lb : Array Value) (eg : ∀ args w, (callFunc g args).run Try.prog w = .ok (.enter g args) w) (p : List Int → Bool) (A : Option Addr) (c : Nat) (L : List (List Int)) (w : World)
    (hC : (Kd.slice 5 (Kd.int .u8)).C w A L.length L) (hp : Tells g lb p L w) :
    Calls Try.prog 95 #[.slice A L.length c, .func (.func g) #[] lb] w fun e w' => e = .returned (.int .i64 (idx p L 0)) ∧ Below w.heap.size w w' := by
  have hbig : L.length ≤ 9223372036854775807 := hC.2.1
  go_enter Try.func95, Try.ntmps95
  go_wp2
  go_loopg [5, 8] L.length (fun gg _ s8 wr => ∃ kk : Nat, kk ≤ L.length ∧ L.length - kk ≤ gg ∧ s8 = .int .i64 kk ∧ Below w.heap.size w wr ∧ Aside (∀ j : Nat, j < kk → p (rd_L1 L (j : Int)) = false))
  case atStart => exact ⟨0, Nat.zero_le _, by omega, rfl, Below.refl _ _, fun j hj => absurd hj (Nat.not_lt_zero _)⟩
  case round =>
    obtain ⟨kk, hkk, hg, rfl, hb, A0⟩ := hrel
    by_cases hlt : kk < L.length
    · have hltz : (kk : Int) < (L.length : Int) := by omega
      obtain ⟨ad, A1, c1, rfl, hcell, hl1, hC1⟩ := at_L1 (Kd.C_below hC hb) (kk : Int) (by omega) hltz
      have hcall := hp _ kk A1 c1 hlt hb hC1
      clear hC1
      generalize hy : p (rd_L1 L (kk : Int)) = q at hcall
      rw [Int.toNat_natCast] at hcell
      cases q with
      | true =>
        go_wp2_with (go_at_fn g; refine hcall.mono ?_; rintro e w' ⟨rfl, hb'⟩)
        go_ret
        refine ⟨?_, hb'⟩
        rw [idx_hit kk 0 hlt hy A0.out]
        simp
      | false =>
        go_wp2_with (go_at_fn g; refine hcall.mono ?_; rintro e w' ⟨rfl, hb'⟩)
        go_roundg (L.length - (kk + 1))
        case measure => omega
        case rel =>
          refine ⟨kk + 1, by omega, by omega, by go_num, hb', (show Aside _ from fun j hj => ?_)⟩
          by_cases e : j = kk
          · subst e; exact hy
          · exact A0.out j (by omega)
    · have hltz : ¬ (kk : Int) < (L.length : Int) := by omega
      go_wp2
      go_ret
      refine ⟨?_, hb⟩
      rw [idx_miss 0 (fun j h => A0.out j (by omega))]
      rfl
set_option maxHeartbeats 2000000 in
theorem contains_calls (g : Nat) (lb : Array Value) (eg : ∀ args w, (callFunc g args).run Try.prog w = .ok (.enter g args) w) (p : List Int → Bool) (A : Option Addr) (c : Nat) (L : List (List Int)) (w : World)
    (hC : (Kd.slice 5 (Kd.int .u8)).C w A L.length L) (hp : Tells g lb p L w) :
    Calls Try.prog 80 #[.slice A L.length c, .func (.func g) #[] lb] w fun e w' => e = .returned (.bool (decide (0 ≤ idx p L 0))) ∧ Below w.heap.size w w' := by
  have hcon := index_calls g lb eg p A c L w hC hp
  generalize idx p L 0 = r at hcon ⊢
  go_enter Try.func80, Try.ntmps80
  go_wp2_with (go_at_call 95; refine hcon.mono ?_; rintro e w' ⟨rfl, hb'⟩)
  go_ret
  exact ⟨rfl, hb'⟩
end Go.Proofs.Ytbfhinfblepidaa.Cf
namespace Go.Proofs.Ytbfhinfblepidaa.Mt
open Go.RowKit Go.Lib Go.Proofs.YtbfhinfblepidaaW.PrintWords Go.Proofs.YtbfhinfblepidaaW.PrintLast Go.Proofs.YtbfhinfblepidaaW.PrintMore
def ro (L : List (List Int)) (i : Nat) : List Int := L.getD i []
theorem rd_ro (L : List (List Int)) (i : Nat) : Cf.rd_L1 L (i : Int) = ro L i := by unfold Cf.rd_L1 ro; rw [Int.toNat_natCast]
theorem ro_set (L : List (List Int)) (i j : Nat) (r : List Int) (h : i < L.length) : ro (L.set i r) j = if i = j then r else ro L j := by
  unfold ro
  rw [List.getD_eq_getElem?_getD, List.getElem?_set, List.getD_eq_getElem?_getD]
  split
  · rename_i e; subst e; first | (rw [if_pos h]; rfl) | rfl
  · rfl
theorem ro_mem_drop {L : List (List Int)} {n i : Nat} (h1 : n ≤ i) (h2 : i < L.length) : ro L i ∈ L.drop n := by
  refine List.mem_iff_getElem?.2 ⟨i - n, ?_⟩
  rw [List.getElem?_drop, show n + (i - n) = i from by omega]
  unfold ro
  rw [List.getD_eq_getElem?_getD, List.getElem?_eq_getElem h2]; rfl
abbrev RowC (W : World) (A : Option Addr) (l : List Int) : Prop := (Kd.int .u8).C W A l.length l
theorem rowC_set {W : World} {A : Option Addr} {l : List Int} (h : RowC W A l) {p : Addr} {B : Option Addr} {n c : Nat} (hp : W.cell? p = some (.slice B n c)) (v : Value) : RowC (W.setCell p v) A l := by
  refine ⟨h.1, h.2.1, fun hl => ?_⟩
  obtain ⟨ad, e, hr⟩ := h.2.2 hl
  refine ⟨ad, e, fun j x hj => ?_⟩
  obtain ⟨cs, h1, h2, h3⟩ := hr j x hj
  refine ⟨cs, h1, h2, fun i u hu => ?_⟩
  have hq := h3 i u hu
  have h2' : cs = [.int .u8 x] := h2
  subst h2'
  cases i with
  | succ i => simp at hu
  | zero =>
    obtain rfl : Value.int .u8 x = u := by simpa using hu
    rw [World.cell?_setCell_other]
    · exact hq
    · intro e; rw [← e, hp] at hq; cases hq
theorem rowV {W : World} {A : Option Addr} {l : List Int} {c : Nat} (h : RowC W A l) (hc : l.length ≤ c) : Kd.V (Kd.int .u8) 5 W W.heap.size (fun _ => True) (.slice A l.length c) l := by
  refine ⟨A, c, rfl, hc, fun W' hW => ⟨h.1, h.2.1, fun hl => ?_⟩⟩
  obtain ⟨ad, e, hr⟩ := h.2.2 hl
  refine ⟨ad, e, fun j x hj => ?_⟩
  obtain ⟨cs, h1, h2, h3⟩ := hr j x hj
  refine ⟨cs, h1, h2, fun i u hu => ?_⟩
  have hq := h3 i u hu
  have := hW _ trivial (World.block_lt_of_cell? W _ hq)
  unfold World.cell? at hq ⊢
  rw [this]; exact hq
structure Mat (T : Nat) (W : World) (g : Nat) (L : List (List Int)) : Prop where
  blk : ∃ cs : Array Value, W.heap[g]? = some (.cells cs T (0, 0))
  row : ∀ i, i < L.length → ∃ A c, W.cell? ⟨g, i, none⟩ = some (.slice A (ro L i).length c) ∧ (ro L i).length ≤ c ∧ RowC W A (ro L i)
section
variable {T g : Nat} {W W' : World} {L : List (List Int)}
theorem Mat.frozen (h : Mat T W g L) (i : Nat) : W.frozen? ⟨g, i, none⟩ = false := by obtain ⟨cs, h⟩ := h.blk; exact blk_frozen h i
theorem Mat.lt (h : Mat T W g L) : g < W.heap.size := by obtain ⟨cs, h⟩ := h.blk; exact blk_lt h
theorem Mat.below (h : Mat T W g L) (hb : Below W.heap.size W W') : Mat T W' g L := by
  refine ⟨?_, fun i hi => ?_⟩
  · obtain ⟨cs, h⟩ := h.blk; exact ⟨cs, blk_below h hb⟩
  · obtain ⟨A, c, h1, h2, h3⟩ := h.row i hi
    exact ⟨A, c, (hb.cell (World.block_lt_of_cell? W _ h1)).trans h1, h2, Kd.C_below h3 hb⟩
theorem Mat.set (h : Mat T W g L) {i : Nat} (hi : i < L.length) {A : Option Addr} {r : List Int} {c : Nat} (hc : r.length ≤ c) (hr : RowC W A r) : Mat T (W.setCell ⟨g, i, none⟩ (.slice A r.length c)) g (L.set i r) := by
  obtain ⟨B, d, h1, _, _⟩ := h.row i hi
  refine ⟨?_, fun j hj => ?_⟩
  · obtain ⟨cs, h⟩ := h.blk; exact ⟨_, blk_set h i _⟩
  · rw [List.length_set] at hj
    rw [ro_set L i j r hi]
    by_cases e : i = j
    · subst e
      rw [if_pos rfl]
      exact ⟨A, c, World.cell?_setCell_same _ _ _ h1, hc, rowC_set hr h1 _⟩
    · rw [if_neg e]
      obtain ⟨A', c', g1, g2, g3⟩ := h.row j hj
      exact ⟨A', c', (World.cell?_setCell_other _ _ _ _ (by intro k; injection k with _ k _; exact e k)).trans g1, g2, rowC_set g3 h1 _⟩
theorem Mat.far (h : Mat T W g L) {g' i : Nat} (hne : g' ≠ g) {B : Option Addr} {n d : Nat} (h1 : W.cell? ⟨g', i, none⟩ = some (.slice B n d)) (v : Value) : Mat T (W.setCell ⟨g', i, none⟩ v) g L := by
  refine ⟨?_, fun j hj => ?_⟩
  · obtain ⟨cs, h⟩ := h.blk; exact ⟨cs, blk_far (p := ⟨g', i, none⟩) h (fun k => hne k.symm) _⟩
  · obtain ⟨A', c', g1, g2, g3⟩ := h.row j hj
    exact ⟨A', c', (World.cell?_setCell_other _ _ _ _ (by intro k; injection k with k _ _; exact hne k)).trans g1, g2, rowC_set g3 h1 _⟩
theorem add_at' (g n j : Nat) : (⟨g, n, none⟩ : Addr).add j = ⟨g, n + j, none⟩ := by
  unfold Addr.add
  split
  · rename_i h; subst h; rfl
  · rfl
theorem Mat.drop (h : Mat T W g L) (n : Nat) (hbig : L.length < 2 ^ 40) : (Kd.slice 5 (Kd.int .u8)).C W (some ⟨g, n, none⟩) (L.drop n).length (L.drop n) := by
  refine ⟨rfl, by rw [List.length_drop]; omega, fun _ => ⟨_, rfl, fun j p hj => ?_⟩⟩
  rw [List.getElem?_drop] at hj
  have hlt : n + j < L.length := (List.getElem?_eq_some_iff.1 hj).1
  have e : ro L (n + j) = p := by unfold ro; rw [List.getD_eq_getElem?_getD, hj]; rfl
  obtain ⟨A, c, h1, h2, h3⟩ := h.row (n + j) hlt
  rw [e] at h1 h2 h3
  refine ⟨[.slice A p.length c], rfl, ⟨A, c, rfl, h2, h3⟩, fun i u hu => ?_⟩
  cases i with
  | succ i => simp at hu
  | zero =>
    obtain rfl : Value.slice A p.length c = u := by simpa using hu
    show W.cell? ((⟨g, n, none⟩ : Addr).add (j * 1 + 0)) = _
    rw [add_at', Nat.mul_one, Nat.add_zero]
    exact h1
theorem Mat.of_R {base : Nat} {ok : Nat → Prop} {v : Value} {xs : List (List Int)} (h : (Kd.slice 5 (Kd.int .u8)).R T W base ok v xs) (hp : 0 < xs.length) :
    ∃ g c, v = .slice (some ⟨g, 0, none⟩) xs.length c ∧ xs.length ≤ c ∧ base ≤ g ∧ Mat T W g xs := by
  obtain ⟨g, c, rfl, hb, hl, hcells⟩ := Kd.R_form h hp
  obtain ⟨A, c', e, hc, hC⟩ := Kd.R_reads h
  injection e with e1 e2 e3
  subst e1
  subst e3
  refine ⟨g, c, rfl, hc, hb, hcells, fun i hi => ?_⟩
  obtain ⟨ad, A0, c0, e, h1, h2, h3⟩ := Cf.at_L1 hC (i : Int) (by omega) (by omega)
  injection e with e
  subst e
  rw [rd_ro, Int.toNat_natCast, add_at', Nat.zero_add] at h1
  rw [rd_ro] at h2 h3
  exact ⟨A0, c0, h1, h2, h3⟩
end
end Go.Proofs.Ytbfhinfblepidaa.Mt
