/- What the document's LetterBytes comes to; and that of a letter's bytes no beginning is read, and none with more behind. No program is in sight but for the printed functions. Conditions: those that stand in the theorems. -/
import Derived.Test.YtjcfmfdkligmoaaLv
import Derived.Test.YtjcfmfdkligmoaaPLetterTornx13
namespace Go.Proofs.Ytjcfmfdkligmoaa.Lw
open Go.RowKit Go.Proofs.Ytjcfmfdkligmoaa.Sp Go.Proofs.Ytjcfmfdkligmoaa.PRecordTells Go.Proofs.Ytjcfmfdkligmoaa.PLetterLimits Go.Proofs.Ytjcfmfdkligmoaa.PLetterTorn Go.Proofs.YtjcfmfdkligmoaaW.PrintWords Go.Proofs.YtjcfmfdkligmoaaW.PrintLast Go.Proofs.Ytjcfmfdkligmoaa.Lt Go.Proofs.Ytjcfmfdkligmoaa.Lr Go.Proofs.Ytjcfmfdkligmoaa.Lq Go.Proofs.Ytjcfmfdkligmoaa.Lg Go.Proofs.Ytjcfmfdkligmoaa.FRecordTells Go.Proofs.Ytjcfmfdkligmoaa.Lp Go.Proofs.Ytjcfmfdkligmoaa.Lv
set_option linter.unusedVariables false
def okW (x : S28) : Prop := okR x.f0.f0 x.f0.f1 x.f1.f0 x.f1.f1 x.f1.f2 x.f2 x.f3 x.f4 x.f5 x.f6
def numb (a : Int) : Prop := 0 ≤ a ∧ a ≤ 2147483647
structure okL (k a b c d e : Int) (P : List Int) (R : List S28) : Prop where
  kind : 1 ≤ k ∧ k ≤ 3
  n1 : numb a
  n2 : numb b
  n3 : numb c
  n4 : numb d
  n5 : numb e
  lp : P.length ≤ 255
  ps : ∀ p ∈ P, numb p
  lr : R.length ≤ 255
  rs : ∀ x ∈ R, okW x
theorem okW_len {x : S28} (h : okW x) : x.f6.length ≤ 64 := by
  unfold okW okR okS at h
  cases hg : x.f4 with
  | true => have := h.2.2.2.1 hg; omega
  | false => have := h.2.2.2.2 hg; omega
theorem encX_len {x : S28} (h : okW x) : 13 ≤ (encX x).length ∧ (encX x).length ≤ 88 := by
  have hl := okW_len h
  unfold encX
  cases hg : x.f4 with
  | true => rw [enc_length_gone]; omega
  | false => rw [enc_length]; omega
theorem rdT_drop {l : List S28} {x : S28} {t : List S28} {i : Nat} (h : l.drop i = x :: t) : rd_T28 l (i : Int) = x ∧ i < l.length ∧ l.drop (i + 1) = t := by
  have hi : i < l.length := by
    have := congrArg List.length h
    rw [List.length_drop, List.length_cons] at this; omega
  rw [List.drop_eq_getElem_cons hi] at h
  injection h with h1 h2
  refine ⟨?_, hi, h2⟩
  unfold rd_T28
  rw [Int.toNat_natCast, List.getD_eq_getElem?_getD, List.getElem?_eq_getElem hi]
  exact h1
theorem put_one (n : Nat) (h : n ≤ 255) (acc : List Int) (ha : acc.length < 2 ^ 30) : Ev (fun k => zq_put.f k acc (n : Int) 1) (acc ++ [(n : Int)]) := by
  have := put_ev n (by omega) 1 (by omega) acc ha
  have e : down (n : Int) 1 = [(n : Int)] := by
    show [B (n : Int) 0] = _
    rw [B0, Nat.mod_eq_of_lt (by omega)]
  rw [e] at this
  exact this
theorem put_two (n : Nat) (h : n < 2 ^ 31) (acc : List Int) (ha : acc.length < 2 ^ 30) : Ev (fun k => zq_put.f k acc (n : Int) 2) (acc ++ N2 (n : Int)) := by
  rw [← down2]; exact put_ev n h 2 (by omega) acc ha
theorem put_four {n : Int} (h : numb n) (acc : List Int) (ha : acc.length < 2 ^ 30) : Ev (fun k => zq_put.f k acc n 4) (acc ++ N4 n) := by
  obtain ⟨h1, h2⟩ := h
  obtain ⟨m, rfl⟩ := nat_of h1
  rw [← down4]; exact put_ev m (by omega) 4 (by omega) acc ha
theorem encP_cons (p : Int) (P : List Int) : encP (p :: P) = N4 p ++ encP P := by unfold encP; rw [List.flatMap_cons]
theorem encR_cons (x : S28) (R : List S28) : encR (x :: R) = N2 ((encX x).length : Int) ++ encX x ++ encR R := by unfold encR; rw [List.flatMap_cons]
section
variable (k a b c d e : Int) (P : List Int) (R : List S28)
theorem lb_l1 (hR : R.length ≤ 255) (t : List S28) : ∀ (i : Nat) (acc : List Int), R.drop i = t → acc.length + 90 * t.length < 2 ^ 29 → ∃ X, Ev (fun n => zq_LetterBytes.l1 n acc (i : Int) k a b c d e P R) X ∧ ((∀ x ∈ t, okW x) → X = acc ++ encR t) ∧ ((¬ ∀ x ∈ t, okW x) → X = []) := by
  induction t with
  | nil =>
    intro i acc h1 h2
    have h3 : R.length ≤ i := List.drop_eq_nil_iff.1 h1
    refine ⟨acc, ?_, fun _ => by unfold encR; simp, fun h => absurd (fun x hx => absurd hx (by simp)) h⟩
    refine Ev.step (fun n => by simp only [zq_LetterBytes.l1]; rfl) ?_
    exact ev_neg (by omega) (Ev.now _)
  | cons x t ih =>
    intro i acc h1 h2
    obtain ⟨g1, g2, g3⟩ := rdT_drop h1
    rw [List.length_cons] at h2
    by_cases hx : okW x
    · have hn := encX_len hx
      obtain ⟨X, hX, y1, y2⟩ := ih (i + 1) (acc ++ N2 ((encX x).length : Int) ++ encX x) g3 (by rw [List.length_append, List.length_append, N2_length]; omega)
      refine ⟨X, ?_, fun hh => ?_, fun hh => y2 fun h4 => hh (List.forall_mem_cons.2 ⟨hx, h4⟩)⟩
      · refine Ev.step (fun n => by simp only [zq_LetterBytes.l1]; rfl) ?_
        refine ev_pos (by omega) (ev_pos (by omega) ?_)
        rw [g1]
        refine Ev.bind (a := encX x) (RBytes_ev hx (by have := okW_len hx; omega)) ?_
        refine ev_neg (by omega) ?_
        refine Ev.bind (put_two (encX x).length (by omega) acc (by omega)) ?_
        refine ev_pos (by rw [List.length_append, N2_length]; omega) ?_
        rw [w64 (i := (i : Int) + 1) (by omega) (by omega), show (i : Int) + 1 = ((i + 1 : Nat) : Int) from by omega]
        exact hX
      · rw [y1 fun y hy => hh y (by simp [hy]), encR_cons, List.append_assoc, List.append_assoc, List.append_assoc]
    · refine ⟨[], ?_, fun hh => absurd (hh x (by simp)) hx, fun _ => rfl⟩
      refine Ev.step (fun n => by simp only [zq_LetterBytes.l1]; rfl) ?_
      refine ev_pos (by omega) (ev_pos (by omega) ?_)
      rw [g1]
      refine Ev.bind (a := []) (RBytes_no hx) ?_
      exact ev_pos rfl (Ev.now _)
theorem lb_l0 (hP : P.length ≤ 255) (hR : R.length ≤ 255) (t : List Int) : ∀ (i : Nat) (acc : List Int), P.drop i = t → acc.length + 4 * t.length < 2000 → ∃ X, Ev (fun n => zq_LetterBytes.l0 n acc (i : Int) k a b c d e P R) X ∧ (((∀ p ∈ t, numb p) ∧ ∀ x ∈ R, okW x) → X = acc ++ (encP t ++ ([(R.length : Int)] ++ encR R))) ∧ ((¬ ((∀ p ∈ t, numb p) ∧ ∀ x ∈ R, okW x)) → X = []) := by
  induction t with
  | nil =>
    intro i acc h1 h2
    have h3 : P.length ≤ i := List.drop_eq_nil_iff.1 h1
    have hl : (acc ++ [(R.length : Int)]).length + 90 * R.length < 2 ^ 29 := by rw [List.length_append, List.length_singleton]; simp only [List.length_nil] at h2; omega
    obtain ⟨X, hX, y1, y2⟩ := lb_l1 k a b c d e P R hR R 0 (acc ++ [(R.length : Int)]) rfl hl
    refine ⟨X, ?_, fun hh => ?_, fun hh => y2 fun h4 => hh ⟨fun x hx => absurd hx (by simp), h4⟩⟩
    · refine Ev.step (fun n => by simp only [zq_LetterBytes.l0]; rfl) ?_
      refine ev_neg (by omega) ?_
      exact Ev.bind (put_one R.length hR acc (by simp only [List.length_nil] at h2; omega)) hX
    · rw [y1 hh.2, List.append_assoc]; rfl
  | cons p t ih =>
    intro i acc h1 h2
    obtain ⟨g1, g2, g3⟩ := rd_drop h1
    rw [List.length_cons] at h2
    by_cases hx : numb p
    · obtain ⟨X, hX, y1, y2⟩ := ih (i + 1) (acc ++ N4 p) g3 (by rw [List.length_append, N4_length]; omega)
      refine ⟨X, ?_, fun hh => ?_, fun hh => y2 fun h4 => hh ⟨List.forall_mem_cons.2 ⟨hx, h4.1⟩, h4.2⟩⟩
      · refine Ev.step (fun n => by simp only [zq_LetterBytes.l0]; rfl) ?_
        refine ev_pos (by omega) (ev_pos (by omega) ?_)
        rw [g1]
        refine ev_val (rnum_eq p) ?_
        refine ev_pos (decide_eq_true hx) ?_
        refine Ev.bind (put_four hx acc (by omega)) ?_
        rw [w64 (i := (i : Int) + 1) (by omega) (by omega), show (i : Int) + 1 = ((i + 1 : Nat) : Int) from by omega]
        exact hX
      · rw [y1 ⟨fun y hy => hh.1 y (by simp [hy]), hh.2⟩, encP_cons, List.append_assoc, List.append_assoc]
    · refine ⟨[], ?_, fun hh => absurd (hh.1 p (by simp)) hx, fun _ => rfl⟩
      refine Ev.step (fun n => by simp only [zq_LetterBytes.l0]; rfl) ?_
      refine ev_pos (by omega) (ev_pos (by omega) ?_)
      rw [g1]
      refine ev_val (rnum_eq p) ?_
      exact ev_neg (by rw [decide_eq_true_iff]; exact hx) (Ev.now _)
theorem lb_off : Ev (fun n => zq_LetterBytes.j0 n true k a b c d e P R) [] := by
  refine Ev.step (fun n => by simp only [zq_LetterBytes.j0]; rfl) ?_
  first | exact ev_pos trivial (Ev.now _) | exact ev_pos rfl (Ev.now _)
theorem lb_j0 (hk : 1 ≤ k ∧ k ≤ 3) (n1 : numb a) (n2 : numb b) (n3 : numb c) (n4 : numb d) (n5 : numb e) (hP : P.length ≤ 255) (hR : R.length ≤ 255) : ∃ X, Ev (fun n => zq_LetterBytes.j0 n false k a b c d e P R) X ∧ (((∀ p ∈ P, numb p) ∧ ∀ x ∈ R, okW x) → X = encL k a b c d e P R) ∧ ((¬ ((∀ p ∈ P, numb p) ∧ ∀ x ∈ R, okW x)) → X = []) := by
  obtain ⟨X, hX, y1, y2⟩ := lb_l0 k a b c d e P R hP hR P 0 ([k] ++ N4 a ++ N4 b ++ N4 c ++ N4 d ++ N4 e ++ [(P.length : Int)]) rfl (by simp [N4]; omega)
  refine ⟨X, ?_, fun hh => ?_, y2⟩
  · refine Ev.step (fun n => by simp only [zq_LetterBytes.j0]; rfl) ?_
    refine ev_neg (by decide) ?_
    rw [show k % 256 = k from by omega]
    refine Ev.bind (put_four n1 _ (by simp)) (Ev.bind (put_four n2 _ (by simp [N4])) (Ev.bind (put_four n3 _ (by simp [N4])) (Ev.bind (put_four n4 _ (by simp [N4])) (Ev.bind (put_four n5 _ (by simp [N4])) (Ev.bind (put_one P.length hP _ (by simp [N4])) ?_)))))
    exact hX
  · rw [y1 hh]; unfold encL; simp only [List.append_assoc]
theorem LB_ev : ∃ X, Ev (fun n => zq_LetterBytes.f n k a b c d e P R) X ∧ (okL k a b c d e P R → X = encL k a b c d e P R) ∧ (¬ okL k a b c d e P R → X = []) := by
  have off := lb_off k a b c d e P R
  have no : ∀ (h : ¬ okL k a b c d e P R), Ev (fun n => zq_LetterBytes.f n k a b c d e P R) [] → ∃ X, Ev (fun n => zq_LetterBytes.f n k a b c d e P R) X ∧ (okL k a b c d e P R → X = encL k a b c d e P R) ∧ (¬ okL k a b c d e P R → X = []) := fun h he => ⟨[], he, fun hh => absurd hh h, fun _ => rfl⟩
  unfold zq_LetterBytes.f at no ⊢
  by_cases h1 : k < 1
  · exact no (fun h => by have := h.kind; omega) (ev_pos h1 off)
  by_cases h2 : k > 3
  · exact no (fun h => by have := h.kind; omega) (ev_neg h1 (ev_pos h2 off))
  by_cases g1 : numb a
  case neg => exact no (fun h => g1 h.n1) (ev_neg h1 (ev_neg h2 (ev_val (rnum_eq a) (ev_neg (by rw [decide_eq_true_iff]; exact g1) off))))
  by_cases g2 : numb b
  case neg => exact no (fun h => g2 h.n2) (ev_neg h1 (ev_neg h2 (ev_val (rnum_eq a) (ev_pos (decide_eq_true g1) (ev_val (rnum_eq b) (ev_neg (by rw [decide_eq_true_iff]; exact g2) off))))))
  by_cases g3 : numb c
  case neg => exact no (fun h => g3 h.n3) (ev_neg h1 (ev_neg h2 (ev_val (rnum_eq a) (ev_pos (decide_eq_true g1) (ev_val (rnum_eq b) (ev_pos (decide_eq_true g2) (ev_val (rnum_eq c) (ev_neg (by rw [decide_eq_true_iff]; exact g3) off))))))))
  by_cases g4 : numb d
  case neg => exact no (fun h => g4 h.n4) (ev_neg h1 (ev_neg h2 (ev_val (rnum_eq a) (ev_pos (decide_eq_true g1) (ev_val (rnum_eq b) (ev_pos (decide_eq_true g2) (ev_val (rnum_eq c) (ev_pos (decide_eq_true g3) (ev_val (rnum_eq d) (ev_neg (by rw [decide_eq_true_iff]; exact g4) off))))))))))
  by_cases g5 : numb e
  case neg => exact no (fun h => g5 h.n5) (ev_neg h1 (ev_neg h2 (ev_val (rnum_eq a) (ev_pos (decide_eq_true g1) (ev_val (rnum_eq b) (ev_pos (decide_eq_true g2) (ev_val (rnum_eq c) (ev_pos (decide_eq_true g3) (ev_val (rnum_eq d) (ev_pos (decide_eq_true g4) (ev_val (rnum_eq e) (ev_neg (by rw [decide_eq_true_iff]; exact g5) off))))))))))))
  by_cases hP : (P.length : Int) > 255
  · exact no (fun h => by have := h.lp; omega) ((ev_neg h1 (ev_neg h2 (ev_val (rnum_eq a) (ev_pos (decide_eq_true g1) (ev_val (rnum_eq b) (ev_pos (decide_eq_true g2) (ev_val (rnum_eq c) (ev_pos (decide_eq_true g3) (ev_val (rnum_eq d) (ev_pos (decide_eq_true g4) (ev_val (rnum_eq e) (ev_pos (decide_eq_true g5) (ev_pos hP off))))))))))))))
  by_cases hR : (R.length : Int) > 255
  · exact no (fun h => by have := h.lr; omega) ((ev_neg h1 (ev_neg h2 (ev_val (rnum_eq a) (ev_pos (decide_eq_true g1) (ev_val (rnum_eq b) (ev_pos (decide_eq_true g2) (ev_val (rnum_eq c) (ev_pos (decide_eq_true g3) (ev_val (rnum_eq d) (ev_pos (decide_eq_true g4) (ev_val (rnum_eq e) (ev_pos (decide_eq_true g5) (ev_neg hP (by rw [decide_eq_true hR]; exact off)))))))))))))))
  obtain ⟨X, hX, y1, y2⟩ := lb_j0 k a b c d e P R (by omega) g1 g2 g3 g4 g5 (by omega) (by omega)
  refine ⟨X, (ev_neg h1 (ev_neg h2 (ev_val (rnum_eq a) (ev_pos (decide_eq_true g1) (ev_val (rnum_eq b) (ev_pos (decide_eq_true g2) (ev_val (rnum_eq c) (ev_pos (decide_eq_true g3) (ev_val (rnum_eq d) (ev_pos (decide_eq_true g4) (ev_val (rnum_eq e) (ev_pos (decide_eq_true g5) (ev_neg hP (by rw [decide_eq_false hR]; exact hX)))))))))))))), fun h => y1 ⟨h.ps, h.rs⟩, fun h => y2 fun hh => h ⟨by omega, g1, g2, g3, g4, g5, by omega, hh.1, by omega, hh.2⟩⟩
end
end Go.Proofs.Ytjcfmfdkligmoaa.Lw
