/- slices.IndexFunc and slices.ContainsFunc over rows of bytes, with whatever function value that tells of each row whether it is meant: where the first such row stands; whether there is one. Conditions: those that stand in the theorems. 95, 80: the two functions' numbers at this program. -/
import Derived.Test.YtbfhinfblepidaaProg
import Derived.Test.YtbfhinfblepidaaWMore
import Derived.WalkKit
import Derived.ProofKit
import Derived.Lib.Walk
import Derived.Deep.LoopGhost
import Derived.Deep.Draws
import Derived.Shelf.Abstract
namespace Go.Proofs.Ytbfhinfblepidaa.Cf
open Go.RowKit Go.Lib Go.Proofs.YtbfhinfblepidaaW.PrintWords Go.Proofs.YtbfhinfblepidaaW.PrintLast Go.Proofs.YtbfhinfblepidaaW.PrintMore
def rd_L1 (xs : List (List Int)) (i : Int) : (List Int) := xs.getD i.toNat ([] : List Int)
theorem at_L1 {w : World} {A : Option Addr} {n : Nat} {xs : List (List Int)} (h : Kd.C (Kd.slice 5 (Kd.int .u8)) w A n xs) (i : Int) (h0 : 0 ≤ i) (h1 : i < n) : ∃ ad A0 c0, A = some ad ∧ w.cell? (ad.add i.toNat) = some (.slice A0 (rd_L1 xs i).length c0) ∧ (rd_L1 xs i).length ≤ c0 ∧ (Kd.int .u8).C w A0 (rd_L1 xs i).length (rd_L1 xs i) := by
  obtain ⟨ad, c, e, _, hK, hc0⟩ := Kd.C_get h ([] : List Int) i h0 h1
  have hc : ∀ j u, c[j]? = some u → w.cell? (ad.add (i.toNat * 1 + j)) = some u := hc0
  obtain ⟨A0, c0, rfl, l0, g0⟩ := hK
  exact ⟨ad, A0, c0, e, by have hq := hc 0 _ rfl; rwa [Nat.mul_one, Nat.add_zero] at hq, l0, g0⟩
/-- What is asked of the function value: of each row, in every world in which all that lay there lies unturned, whether it is meant. -/
def Tells (g : Nat) (lb : Array Value) (p : List Int → Bool) (L : List (List Int)) (w : World) : Prop :=
  ∀ (W : World) (j : Nat) (A : Option Addr) (c : Nat), j < L.length → Below w.heap.size w W → (Kd.int .u8).C W A (rd_L1 L (j : Int)).length (rd_L1 L (j : Int)) →
    Calls Try.prog g (#[.slice A (rd_L1 L (j : Int)).length c] ++ lb) W fun e w' => e = .returned (.bool (p (rd_L1 L (j : Int)))) ∧ Below w.heap.size w w'
def idx (p : List Int → Bool) : List (List Int) → Int → Int
  | [], _ => -1
  | r :: L, i => if p r = true then i else idx p L (i + 1)
theorem idx_hit {p : List Int → Bool} {L : List (List Int)} : ∀ (k : Nat) (i : Int), k < L.length → p (rd_L1 L (k : Int)) = true → (∀ j : Nat, j < k → p (rd_L1 L (j : Int)) = false) → idx p L i = i + k := by
  induction L with
  | nil => intro k i h; simp at h
  | cons r L ih =>
    intro k i hk hp hj
    cases k with
    | zero => simp only [idx]; rw [if_pos (by simpa [rd_L1] using hp)]; simp
    | succ k =>
      have h0 := hj 0 (by omega)
      simp only [idx]
      rw [if_neg (by have : p r = false := by simpa [rd_L1] using h0
                     rw [this]; decide)]
      have e : ∀ m : Nat, rd_L1 (r :: L) ((m + 1 : Nat) : Int) = rd_L1 L (m : Int) := fun m => by unfold rd_L1; rw [Int.toNat_natCast, Int.toNat_natCast]; rfl
      rw [ih k (i + 1) (by simpa using hk) (by rw [← e]; exact hp) (fun j h => by rw [← e]; exact hj (j + 1) (by omega))]
      omega
theorem idx_miss {p : List Int → Bool} {L : List (List Int)} : ∀ (i : Int), (∀ j : Nat, j < L.length → p (rd_L1 L (j : Int)) = false) → idx p L i = -1 := by
  induction L with
  | nil => intro i _; rfl
  | cons r L ih =>
    intro i hj
    have h0 := hj 0 (by simp)
    simp only [idx]
    rw [if_neg (by have : p r = false := by simpa [rd_L1] using h0
                   rw [this]; decide)]
    have e : ∀ m : Nat, rd_L1 (r :: L) ((m + 1 : Nat) : Int) = rd_L1 L (m : Int) := fun m => by unfold rd_L1; rw [Int.toNat_natCast, Int.toNat_natCast]; rfl
    exact ih (i + 1) (fun j h => by rw [← e]; exact hj (j + 1) (by simp; omega))

set_option maxHeartbeats 2000000 in
theorem index_calls (g : Nat) (lb : Array Value) (eg : ∀ args w, (callFunc g args).run Try.prog w = .ok (.enter g args) w) (p : List Int → Bool) (A : Option Addr) (c : Nat) (L : List (List Int)) (w : World)
    (hC : (Kd.slice 5 (Kd.int .u8)).C w A L.length L) (hp : Tells g lb p L w) :
    Calls Try.prog 95 #[.slice A L.length c, .func (.func g) #[] lb] w fun e w' => e = .returned (.int .i64 (idx p L 0)) ∧ Below w.heap.size w w' := by
  have hbig : L.length ≤ 9223372036854775807 := hC.2.1
  go_enter Try.func95, Try.ntmps95
  go_wp2
  go_loopg [5, 8] L.length (fun gg _ s8 wr => ∃ kk : Nat, kk ≤ L.length ∧ L.length - kk ≤ gg ∧ s8 = .int .i64 kk ∧ Below w.heap.size w wr ∧ Aside (∀ j : Nat, j < kk → p (rd_L1 L (j : Int)) = false))
  case atStart => exact ⟨0, Nat.zero_le _, by omega, rfl, Below.refl _ _, fun j hj => absurd hj (Nat.not_lt_zero _)⟩
  case round =>
    obtain ⟨kk, hkk, hg, rfl, hb, A0⟩ := hrel
    by_cases hlt : kk < L.length
    · have hltz : (kk : Int) < (L.length : Int) := by omega
      obtain ⟨ad, A1, c1, rfl, hcell, hl1, hC1⟩ := at_L1 (Kd.C_below hC hb) (kk : Int) (by omega) hltz
      have hcall := hp _ kk A1 c1 hlt hb hC1
      clear hC1
      generalize hy : p (rd_L1 L (kk : Int)) = q at hcall
      rw [Int.toNat_natCast] at hcell
      cases q with
      | true =>
        go_wp2_with (go_at_fn g; refine hcall.mono ?_; rintro e w' ⟨rfl, hb'⟩)
        go_ret
        refine ⟨?_, hb'⟩
        rw [idx_hit kk 0 hlt hy A0.out]
        simp
      | false =>
        go_wp2_with (go_at_fn g; refine hcall.mono ?_; rintro e w' ⟨rfl, hb'⟩)
        go_roundg (L.length - (kk + 1))
        case measure => omega
        case rel =>
          refine ⟨kk + 1, by omega, by omega, by go_num, hb', (show Aside _ from fun j hj => ?_)⟩
          by_cases e : j = kk
          · subst e; exact hy
          · exact A0.out j (by omega)
    · have hltz : ¬ (kk : Int) < (L.length : Int) := by omega
      go_wp2
      go_ret
      refine ⟨?_, hb⟩
      rw [idx_miss 0 (fun j h => A0.out j (by omega))]
      rfl
set_option maxHeartbeats 2000000 in
theorem contains_calls (g : Nat) (lb : Array Value) (eg : ∀ args w, (callFunc g args).run Try.prog w = .ok (.enter g args) w) (p : List Int → Bool) (A : Option Addr) (c : Nat) (L : List (List Int)) (w : World)
    (hC : (Kd.slice 5 (Kd.int .u8)).C w A L.length L) (hp : Tells g lb p L w) :
    Calls Try.prog 80 #[.slice A L.length c, .func (.func g) #[] lb] w fun e w' => e = .returned (.bool (decide (0 ≤ idx p L 0))) ∧ Below w.heap.size w w' := by
  have hcon := index_calls g lb eg p A c L w hC hp
  generalize idx p L 0 = r at hcon ⊢
  go_enter Try.func80, Try.ntmps80
  go_wp2_with (go_at_call 95; refine hcon.mono ?_; rintro e w' ⟨rfl, hb'⟩)
  go_ret
  exact ⟨rfl, hb'⟩
end Go.Proofs.Ytbfhinfblepidaa.Cf
