/- Rows of elements in plain Lean: sums, products, mixtures; cutting and filling. No program is in sight; no condition. -/
import Derived.Test.YtbfhinfblepidaaGf
namespace Go.Proofs.Ytbfhinfblepidaa.Rw
open Go.Proofs.Ytbfhinfblepidaa.Gf

abbrev F := UInt8
def ti (x : F) : Int := (x.toNat : Int)
def tl (l : List F) : List Int := l.map ti
def tll (L : List (List F)) : List (List Int) := L.map tl
def fm (a b : F) : F := UInt8.ofNat (mul a.toNat b.toNat)
def fi (a : F) : F := UInt8.ofNat (iv a.toNat)
theorem toNat_lt (a : F) : a.toNat < 256 := a.toNat_lt
theorem fm_toNat (a b : F) : (fm a b).toNat = mul a.toNat b.toNat := by
  unfold fm; rw [UInt8.toNat_ofNat']; exact Nat.mod_eq_of_lt (mul_lt _ (toNat_lt a))
theorem fi_toNat (a : F) : (fi a).toNat = iv a.toNat := by
  unfold fi; rw [UInt8.toNat_ofNat']; exact Nat.mod_eq_of_lt (iv_lt _)
theorem ext_ {a b : F} (h : a.toNat = b.toNat) : a = b := UInt8.toNat_inj.1 h
theorem fx_toNat (a b : F) : (a ^^^ b).toNat = a.toNat ^^^ b.toNat := UInt8.toNat_xor a b
theorem fx_comm (a b : F) : a ^^^ b = b ^^^ a := ext_ (by rw [fx_toNat, fx_toNat, Nat.xor_comm])
theorem fx_assoc (a b c : F) : (a ^^^ b) ^^^ c = a ^^^ (b ^^^ c) := ext_ (by simp only [fx_toNat]; exact Nat.xor_assoc _ _ _)
theorem fx_zero (a : F) : a ^^^ 0 = a := ext_ (by rw [fx_toNat]; simp)
theorem zero_fx (a : F) : 0 ^^^ a = a := by rw [fx_comm, fx_zero]
theorem fx_self (a : F) : a ^^^ a = 0 := ext_ (by rw [fx_toNat]; simp)
theorem fm_comm (a b : F) : fm a b = fm b a := ext_ (by rw [fm_toNat, fm_toNat, mul_comm (toNat_lt a) (toNat_lt b)])
theorem fm_assoc (a b c : F) : fm (fm a b) c = fm a (fm b c) := ext_ (by simp only [fm_toNat]; exact mul_assoc (toNat_lt a) (toNat_lt b) (toNat_lt c))
theorem fm_fx (a b c : F) : fm a (b ^^^ c) = fm a b ^^^ fm a c := ext_ (by simp only [fm_toNat, fx_toNat]; exact mul_xor_right _ _ _)
theorem fx_fm (a b c : F) : fm (a ^^^ b) c = fm a c ^^^ fm b c := by rw [fm_comm, fm_fx, fm_comm c a, fm_comm c b]
theorem fm_zero (a : F) : fm a 0 = 0 := ext_ (by rw [fm_toNat]; exact mul_zero_right _)
theorem zero_fm (a : F) : fm 0 a = 0 := by rw [fm_comm, fm_zero]
theorem fm_one (a : F) : fm a 1 = a := ext_ (by rw [fm_toNat]; exact mul_one (toNat_lt a))
theorem one_fm (a : F) : fm 1 a = a := by rw [fm_comm, fm_one]
theorem toNat_ne {a : F} (h : a ≠ 0) : a.toNat ≠ 0 := fun e => h (ext_ e)
theorem fm_fi {a : F} (h : a ≠ 0) : fm a (fi a) = 1 := ext_ (by rw [fm_toNat, fi_toNat, mul_iv (toNat_lt a) (toNat_ne h)]; rfl)
theorem fi_ne {a : F} (h : a ≠ 0) : fi a ≠ 0 := fun e => by
  have := fm_fi h
  rw [e, fm_zero] at this
  exact absurd this (by decide)
theorem fm_eq_zero {a b : F} (h : fm a b = 0) : a = 0 ∨ b = 0 := by
  have h2 : mul a.toNat b.toNat = 0 := by rw [← fm_toNat, h]; rfl
  rcases mul_eq_zero (toNat_lt a) (toNat_lt b) h2 with h3 | h3
  · exact .inl (ext_ h3)
  · exact .inr (ext_ h3)
theorem ti_inj {a b : F} (h : ti a = ti b) : a = b := ext_ (by unfold ti at h; omega)
theorem ti_zero_iff (a : F) : ti a = 0 ↔ a = 0 := ⟨fun h => ti_inj (b := 0) h, fun h => by rw [h]; rfl⟩
theorem ti_range (a : F) : 0 ≤ ti a ∧ ti a ≤ 255 := by have := toNat_lt a; unfold ti; omega
theorem tl_length (l : List F) : (tl l).length = l.length := by unfold tl; rw [List.length_map]
theorem tll_length (L : List (List F)) : (tll L).length = L.length := by unfold tll; rw [List.length_map]
theorem tl_inj {a b : List F} (h : tl a = tl b) : a = b := by
  induction a generalizing b with
  | nil => cases b with
    | nil => rfl
    | cons y b => simp [tl] at h
  | cons x a ih => cases b with
    | nil => simp [tl] at h
    | cons y b =>
      simp only [tl, List.map_cons, List.cons.injEq] at h
      rw [ti_inj h.1, ih h.2]
theorem tl_replicate (n : Nat) : tl (List.replicate n 0) = List.replicate n 0 := by unfold tl; rw [List.map_replicate]; rfl
theorem tl_append (a b : List F) : tl (a ++ b) = tl a ++ tl b := List.map_append ..
theorem tl_take (a : List F) (n : Nat) : (tl a).take n = tl (a.take n) := (List.map_take ..).symm
theorem tl_drop (a : List F) (n : Nat) : (tl a).drop n = tl (a.drop n) := (List.map_drop ..).symm
/-- Whatever bytes came in are a row's. -/
theorem tl_of (l : List Int) (h : ∀ x ∈ l, 0 ≤ x ∧ x ≤ 255) : ∃ m : List F, l = tl m := by
  refine ⟨l.map fun x => UInt8.ofNat x.toNat, ?_⟩
  unfold tl
  rw [List.map_map]
  conv => lhs; rw [← List.map_id l]
  apply List.map_congr_left
  intro x hx
  have := h x hx
  show x = ti (UInt8.ofNat x.toNat)
  unfold ti
  rw [UInt8.toNat_ofNat', Nat.mod_eq_of_lt (by omega)]
  omega
theorem tll_of (L : List (List Int)) (h : ∀ l ∈ L, ∀ x ∈ l, 0 ≤ x ∧ x ≤ 255) : ∃ M : List (List F), L = tll M := by
  induction L with
  | nil => exact ⟨[], rfl⟩
  | cons l L ih =>
    obtain ⟨m, hm⟩ := tl_of l (h l (by simp))
    obtain ⟨M, hM⟩ := ih (fun l' hl' => h l' (by simp [hl']))
    exact ⟨m :: M, by rw [hm, hM]; rfl⟩

/-- One row laid onto another, place by place. -/
def addTo : List F → List F → List F
  | a :: as, b :: bs => (a ^^^ b) :: addTo as bs
  | as, [] => as
  | [], _ :: _ => []
theorem addTo_length (a : List F) : ∀ b, (addTo a b).length = a.length := by
  induction a with
  | nil => intro b; cases b <;> rfl
  | cons x a ih => intro b; cases b with
    | nil => rfl
    | cons y b => simp only [addTo, List.length_cons, ih]
def sumR (n : Nat) (L : List (List F)) : List F := L.foldl addTo (List.replicate n 0)
theorem foldl_addTo_length (L : List (List F)) : ∀ acc : List F, (L.foldl addTo acc).length = acc.length := by
  induction L with
  | nil => intro acc; rfl
  | cons x L ih => intro acc; show (L.foldl addTo (addTo acc x)).length = _; rw [ih, addTo_length]
theorem sumR_length (n : Nat) (L : List (List F)) : (sumR n L).length = n := by unfold sumR; rw [foldl_addTo_length, List.length_replicate]
theorem addTo_zero (n : Nat) : ∀ r : List F, addTo (List.replicate n 0) r = r.take n ++ List.replicate (n - r.length) 0 := by
  induction n with
  | zero => intro r; cases r <;> simp [addTo]
  | succ n ih =>
    intro r
    cases r with
    | nil => simp [addTo]
    | cons x r =>
      rw [List.replicate_succ]
      simp only [addTo, List.take_succ_cons, List.length_cons, ih, zero_fx, List.cons_append]
      rw [show n + 1 - (r.length + 1) = n - r.length from by omega]
def fitR (n : Nat) (r : List F) : List F := r.take n ++ List.replicate (n - r.length) 0
theorem sumR_one (n : Nat) (r : List F) : sumR n [r] = fitR n r := addTo_zero n r
theorem fitR_length (n : Nat) (r : List F) : (fitR n r).length = n := by rw [← sumR_one, sumR_length]
def scaleR (c : F) (r : List F) : List F := r.map (fm c)
theorem scaleR_length (c : F) (r : List F) : (scaleR c r).length = r.length := by unfold scaleR; rw [List.length_map]
def dotR : F → List F → List F → F
  | o, a :: as, b :: bs => dotR (o ^^^ fm a b) as bs
  | o, [], _ => o
  | o, _ :: _, [] => o
/-- Rows laid on, each multiplied. -/
def mixR : List F → List F → List (List F) → List F
  | o, c :: cs, r :: rs => mixR (addTo o (scaleR c r)) cs rs
  | o, [], _ => o
  | o, _ :: _, [] => o
theorem addTo_scale_zero (o : List F) : ∀ r : List F, addTo o (scaleR 0 r) = o := by
  induction o with
  | nil => intro r; cases r <;> rfl
  | cons x o ih =>
    intro r
    cases r with
    | nil => rfl
    | cons y r =>
      show (x ^^^ fm 0 y) :: addTo o (scaleR 0 r) = x :: o
      rw [zero_fm, fx_zero, ih]
end Go.Proofs.Ytbfhinfblepidaa.Rw
