/- Proved: RowsTwice answers true: a row summed with itself is nothing, sums have no order, and a product is shared out. Conditions: the arguments' numbers are of their kinds, and there are fewer of them than memory holds. -/
import Derived.Test.YtinplhdjgjijiaaFRowsTwice
namespace Go.Proofs.Ytinplhdjgjijiaa.Pure
open Go.RowKit Go.Proofs.Ytinplhdjgjijiaa.PRowsTwice Go.Proofs.YtinplhdjgjijiaaW.PrintWords Go.Proofs.YtinplhdjgjijiaaW.PrintLast Go.Proofs.Ytinplhdjgjijiaa.Rw Go.Proofs.Ytinplhdjgjijiaa.FRowsTwice

theorem addTo_comm (z : List F) : ∀ a b, addTo (addTo z a) b = addTo (addTo z b) a := by
  induction z with
  | nil => intro a b; cases a <;> cases b <;> rfl
  | cons x z ih =>
    intro a b
    cases a with
    | nil => cases b <;> rfl
    | cons y a =>
      cases b with
      | nil => rfl
      | cons w b =>
        simp only [addTo]
        rw [ih, fx_assoc, fx_comm y w, ← fx_assoc]
theorem addTo_twice (z : List F) : ∀ a, addTo (addTo z a) a = z := by
  induction z with
  | nil => intro a; cases a <;> rfl
  | cons x z ih =>
    intro a
    cases a with
    | nil => rfl
    | cons y a =>
      simp only [addTo]
      rw [ih, fx_assoc, fx_self, fx_zero]
theorem scale_addTo (c : F) (z : List F) : ∀ a, scaleR c (addTo z a) = addTo (scaleR c z) (scaleR c a) := by
  induction z with
  | nil => intro a; cases a <;> rfl
  | cons x z ih =>
    intro a
    cases a with
    | nil => rfl
    | cons y a =>
      show fm c (x ^^^ y) :: scaleR c (addTo z a) = (fm c x ^^^ fm c y) :: addTo (scaleR c z) (scaleR c a)
      rw [fm_fx, ih]
theorem scale_zeros (c : F) (n : Nat) : scaleR c (List.replicate n 0) = List.replicate n 0 := by
  unfold scaleR
  rw [List.map_replicate, fm_zero]
theorem told (n : Nat) (hn : n ≤ 200) (a b : List F) (y : F) (ha : a.length ≤ 200) (hb : b.length ≤ 200) : Ev (fun k => fountainlaw2_RowsTwice.j1 k (tl a) (tl b) (ti y) (n : Int)) true := by
  have hc : cutN (n : Int) = n := by unfold cutN; omega
  have hS : ∀ L : List (List F), L.length < 2 ^ 50 → (∀ r ∈ L, r.length < 2 ^ 50) → Ev (fun k => rows_Sum.f k (n : Int) (tll L)) (tl (sumR n L)) := fun L h1 h2 => by
    have := sum_ev (n : Int) L h1 h2
    rw [hc] at this
    exact this
  have hR := rsum_ev (n : Int) [b] (by simp)
  rw [hc] at hR
  have e1 : sumR n [b, a] = sumR n [a, b] := addTo_comm _ _ _
  have e2 : sumR n [a, b, a] = sumR n [b] := by
    show addTo (addTo (addTo (List.replicate n 0) a) b) a = addTo (List.replicate n 0) b
    rw [addTo_comm (List.replicate n 0) a b, addTo_twice]
  have e3 : sumR n [scaleR y a, scaleR y b] = scaleR y (sumR n [a, b]) := by
    show addTo (addTo (List.replicate n 0) (scaleR y a)) (scaleR y b) = scaleR y (addTo (addTo (List.replicate n 0) a) b)
    rw [scale_addTo, scale_addTo, scale_zeros]
  have e4 : tl (sumR n [a, a]) = List.replicate n 0 := by
    show tl (addTo (addTo (List.replicate n 0) a) a) = List.replicate n 0
    rw [addTo_twice, tl_replicate]
  have h1 := hS [a, b] (by simp) (by simp; omega)
  have h2 := hS [b, a] (by simp) (by simp; omega)
  have h3 := hS [a, b, a] (by simp) (by simp; omega)
  have h4 := hS [scaleR y a, scaleR y b] (by simp) (by simp [scaleR_length]; omega)
  have h5 := hS [a, a] (by simp) (by simp; omega)
  rw [e1] at h2; rw [e2] at h3; rw [e3] at h4; rw [e4] at h5
  refine Ev.step (fun k => by simp only [fountainlaw2_RowsTwice.j1]; rfl) ?_
  refine Ev.bind h1 (Ev.bind h2 (Ev.bind h3 (Ev.bind (scale_ev y (sumR n [a, b]) (by rw [sumR_length]; omega)) (Ev.bind (scale_ev y a (by omega)) (Ev.bind (scale_ev y b (by omega)) (Ev.bind h4 ?_))))))
  refine ev_pos rfl (Ev.bind hR (ev_pos rfl (ev_pos rfl (Ev.bind h5 (ev_pos (by omega) (ev_pos (by omega) ?_))))))
  rw [Int.toNat_natCast, beq_self_eq_true]
  exact Ev.now _
theorem away (a b : List Int) (y : Int) (t : Bool) (h : t = true) : Ev (fun k => fountainlaw2_RowsTwice.j0 k a b y true t) true := by
  refine Ev.step (fun k => by simp only [fountainlaw2_RowsTwice.j0]; rfl) ?_
  exact ev_pos h (Ev.now _)
theorem RowsTwice (a : List Int) (ha : a.length < 2 ^ 48 ∧ ∀ x ∈ a, 0 ≤ x ∧ x ≤ 255) (b : List Int) (hb : b.length < 2 ^ 48 ∧ ∀ x ∈ b, 0 ≤ x ∧ x ≤ 255) (y : Int) (hy : 0 ≤ y ∧ y ≤ 255) : Ev (fun k => fountainlaw2_RowsTwice.f k a b y) true := by
  obtain ⟨a, rfl⟩ := tl_of a ha.2
  obtain ⟨b, rfl⟩ := tl_of b hb.2
  obtain ⟨y, rfl⟩ : ∃ m : F, y = ti m := by
    obtain ⟨m, hm⟩ := tl_of [y] (by simpa using hy)
    cases m with
    | nil => simp [tl] at hm
    | cons z m => simp [tl] at hm; exact ⟨z, hm.1⟩
  unfold fountainlaw2_RowsTwice.f
  refine Ev.bind alive2_ev (ev_pos rfl ?_)
  rw [tl_length, tl_length]
  by_cases k1 : a.length ≤ 200
  · refine ev_neg (by omega) ?_
    by_cases k2 : b.length ≤ 200
    · rw [decide_eq_false (show ¬ (b.length : Int) > 200 by omega)]
      refine Ev.step (fun k => by simp only [fountainlaw2_RowsTwice.j0]; rfl) ?_
      refine ev_neg (by decide) ?_
      rw [tl_length, tl_length]
      by_cases k3 : b.length > a.length
      · exact ev_pos (by omega) (told b.length k2 a b y k1 k2)
      · exact ev_neg (by omega) (told a.length k1 a b y k1 k2)
    · exact away _ _ _ _ (decide_eq_true (by omega))
  · exact ev_pos (by omega) (away _ _ _ _ rfl)
end Go.Proofs.Ytinplhdjgjijiaa.Pure
