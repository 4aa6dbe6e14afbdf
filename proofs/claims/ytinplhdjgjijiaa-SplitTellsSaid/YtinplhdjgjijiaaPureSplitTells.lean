/- Proved: SplitTells answers true: any shape is cut as the document tells, into as many blocks and symbols, and any rows are joined to what the document tells. Conditions: the arguments' numbers are of their kinds. -/
import Derived.Test.YtinplhdjgjijiaaFSplitTells
namespace Go.Proofs.Ytinplhdjgjijiaa.Pure
open Go.RowKit Go.Proofs.Ytinplhdjgjijiaa.PSplitTells Go.Proofs.YtinplhdjgjijiaaW.PrintWords Go.Proofs.YtinplhdjgjijiaaW.PrintLast Go.Proofs.Ytinplhdjgjijiaa.Rw Go.Proofs.Ytinplhdjgjijiaa.Sp Go.Proofs.Ytinplhdjgjijiaa.FSplitTells
theorem same_l1 (Y : List (List (List Int))) (hY : Y.length < 2 ^ 42) (hs : ∀ l ∈ Y, l.length < 2 ^ 42) (t : List (List (List Int))) : ∀ i, Y.drop i = t → Ev (fun k => fountainlaw12_SplitTells.l1 k Y Y (i : Int)) true := by
  induction t with
  | nil =>
    intro i hd
    have : Y.length ≤ i := List.drop_eq_nil_iff.1 hd
    refine Ev.step (fun k => by simp only [fountainlaw12_SplitTells.l1]; rfl) ?_
    exact ev_neg (by omega) (Ev.now _)
  | cons l t ih =>
    intro i hd
    obtain ⟨e1, e2, e3⟩ := rdL2_drop hd
    obtain ⟨e4, _, _⟩ := rdL3_drop hd
    have hl := hs l (List.mem_of_mem_drop (i := i) (by rw [hd]; exact List.mem_cons_self))
    refine Ev.step (fun k => by simp only [fountainlaw12_SplitTells.l1]; rfl) ?_
    refine ev_pos (by omega) (ev_pos (by omega) ?_)
    rw [e1, e4]
    refine Ev.bind (from_ev l hl) (ev_pos (by omega) (Ev.bind (same_ev l hl) (ev_pos rfl ?_)))
    rw [w64 (i := (i : Int) + 1) (by omega) (by omega), show (i : Int) + 1 = ((i + 1 : Nat) : Int) from by omega]
    exact ih (i + 1) e3
theorem j3_ev (Y : List (List (List Int))) (hY : Y.length < 2 ^ 42) (hs : ∀ l ∈ Y, l.length < 2 ^ 42) : Ev (fun k => fountainlaw12_SplitTells.j3 k Y Y false) true := by
  refine Ev.step (fun k => by simp only [fountainlaw12_SplitTells.j3]; rfl) ?_
  exact ev_neg (by decide) (same_l1 Y hY hs Y 0 rfl)
/-- What is joined: both tell the same. -/
theorem join_both (b s m : Int) (L : List (List (List Int))) : ∃ r : List Int × Int, Ev (fun k => split_Join.f k b s m L) r ∧ Ev (fun k => fountainref1_Join.f k b s m L) r := by
  by_cases h : okS b s m
  · obtain ⟨b, rfl⟩ : ∃ n : Nat, b = (n : Int) := ⟨b.toNat, by have := h.1; omega⟩
    obtain ⟨s, rfl⟩ : ∃ n : Nat, s = (n : Int) := ⟨s.toNat, by have := h.2.1; omega⟩
    obtain ⟨m, rfl⟩ : ∃ n : Nat, m = (n : Int) := ⟨m.toNat, by have := h.2.2; omega⟩
    by_cases c : L.length = blkN b s m
    · exact ⟨_, join_yes h L c, rjoin_yes h L c⟩
    · exact ⟨_, join_size h L c, rjoin_size h L c⟩
  · exact ⟨_, join_arg h L, rjoin_arg h L⟩
/-- What is cut: both tell the same. -/
theorem cut_both (b s m : Int) (d : List F) (hd : d.length ≤ 4100) : ∃ (Y : List (List (List Int))) (e : Int), Ev (fun k => split_Cut.f k b s m (tl d)) (Y, e) ∧ Ev (fun k => fountainref1_CutUp.f k b s m (tl d)) (Y, e) ∧ Y.length < 2 ^ 42 ∧ ∀ l ∈ Y, l.length < 2 ^ 42 := by
  by_cases h : okS b s m
  · obtain ⟨b, rfl⟩ : ∃ n : Nat, b = (n : Int) := ⟨b.toNat, by have := h.1; omega⟩
    obtain ⟨s, rfl⟩ : ∃ n : Nat, s = (n : Int) := ⟨s.toNat, by have := h.2.1; omega⟩
    obtain ⟨m, rfl⟩ : ∃ n : Nat, m = (n : Int) := ⟨m.toNat, by have := h.2.2; omega⟩
    have h1 := (ok_nat h).1
    have hl := sym_le (s := s) h1.1
    by_cases c : d.length = b
    · have hlen : ∀ n i d, ∀ l ∈ t3 (cutBlks b s m n i d), l.length < 2 ^ 42 := by
        intro n
        induction n with
        | zero => intro i d l hl; simp [cutBlks, t3] at hl
        | succ n ih =>
          intro i d l hl'
          rcases List.mem_cons.1 (show l ∈ tll (cutSyms s (kN b s m i) d) :: t3 (cutBlks b s m n (i + 1) (d.drop (kN b s m i * s))) from hl') with rfl | hl'
          · rw [tll_length, cutSyms_length]; have := k_le_sym b s m i; omega
          · exact ih _ _ l hl'
      refine ⟨_, _, cut_yes h d c, rcut_yes h d c, ?_, hlen _ _ _⟩
      rw [t3_length]; unfold cutAll; rw [cutBlks_length]
      have := @blk_le b s m
      omega
    · have hd2 : ((tl d).length : Int) ≠ (b : Int) := by rw [tl_length]; omega
      exact ⟨_, _, cut_size h (tl d) hd2, rcut_size h (tl d) hd2, by simp, fun l hl => by simp at hl⟩
  · exact ⟨_, _, cut_arg h (tl d), rcut_arg h (tl d), by simp, fun l hl => by simp at hl⟩
theorem j2_ev (b s m : Int) (d : List F) (hd : d.length ≤ 4100) (L : List (List (List Int))) : Ev (fun k => fountainlaw12_SplitTells.j2 k (tl d) L L false b s m) true := by
  obtain ⟨Y, e, c1, c2, c3, c4⟩ := cut_both b s m d hd
  obtain ⟨⟨q, g⟩, j1, j2⟩ := join_both b s m L
  refine Ev.step (fun k => by simp only [fountainlaw12_SplitTells.j2]; rfl) ?_
  refine ev_neg (by decide) (ev_pos (by rw [tl_length, List.length_nil]; omega) ?_)
  rw [List.nil_append]
  refine Ev.bind c1 (Ev.bind c2 (Ev.bind j1 (Ev.bind j2 ?_)))
  refine ev_val (o := fountainlaw12_num.f e) rfl (ev_pos rfl (ev_pos rfl (ev_pos rfl ?_)))
  refine ev_val (o := fountainlaw12_num.f g) rfl ?_
  rw [show (g != g) = false from by simp]
  exact j3_ev Y c3 c4
theorem shapes_ev (b s m i : Int) (d : List F) (hd : d.length ≤ 4100) (L : List (List (List Int))) (x11 : Int) (hx : ¬ x11 < (L.length : Int)) : Ev (fun k => fountainlaw12_SplitTells.l0 k (tl d) i L L x11 b s m) true := by
  refine Ev.step (fun k => by simp only [fountainlaw12_SplitTells.l0]; rfl) ?_
  refine ev_neg hx ?_
  obtain ⟨v, k1, k2⟩ := K_both b s m i
  have hj := j2_ev b s m d hd L
  have hvv : (v != v) = false := by simp
  by_cases h : okS b s m
  · refine ev_val (right_yes h) (ev_val (rshape_yes h) (ev_neg (by decide) ?_))
    obtain ⟨b, rfl⟩ : ∃ n : Nat, b = (n : Int) := ⟨b.toNat, by have := h.1; omega⟩
    obtain ⟨s, rfl⟩ : ∃ n : Nat, s = (n : Int) := ⟨s.toNat, by have := h.2.1; omega⟩
    obtain ⟨m, rfl⟩ : ∃ n : Nat, m = (n : Int) := ⟨m.toNat, by have := h.2.2; omega⟩
    refine ev_val (symbols_yes h) (ev_val (rsym_yes h) (ev_pos rfl (ev_val (blocks_yes h) (ev_val (rblk_yes h) (ev_pos rfl ?_)))))
    refine Ev.bind k1 (Ev.bind k2 ?_)
    rw [hvv]
    exact hj
  · refine ev_val (right_no h) (ev_val (rshape_no h) (ev_neg (by decide) ?_))
    refine ev_val (symbols_no h) (ev_val (rsym_no h) (ev_pos rfl (ev_val (blocks_no h) (ev_val (rblk_no h) (ev_pos rfl ?_)))))
    refine Ev.bind k1 (Ev.bind k2 ?_)
    rw [hvv]
    exact hj
theorem in_l0 (b s m i : Int) (d : List F) (hd : d.length ≤ 4100) (X : List (List (List F))) (hX : X.length ≤ 60) (h1 : ∀ l ∈ X, l.length < 2 ^ 50 ∧ ∀ r ∈ l, r.length < 2 ^ 50) (t : List (List (List F))) : ∀ pre, X = pre ++ t →
    Ev (fun k => fountainlaw12_SplitTells.l0 k (tl d) i (t3 X) (t3 pre) (pre.length : Int) b s m) true := by
  induction t with
  | nil =>
    intro pre hp
    rw [List.append_nil] at hp
    subst hp
    exact shapes_ev b s m i d hd (t3 X) (X.length : Int) (by rw [t3_length]; omega)
  | cons l t ih =>
    intro pre hp
    have hlen : X.length = pre.length + (t.length + 1) := by rw [hp]; simp
    have hdr : (t3 X).drop pre.length = tll l :: t3 t := by
      unfold t3
      rw [← List.map_drop, hp, List.drop_left]; rfl
    obtain ⟨e, _, _⟩ := rdL3_drop hdr
    obtain ⟨g1, g2⟩ := h1 l (by rw [hp]; simp)
    refine Ev.step (fun k => by simp only [fountainlaw12_SplitTells.l0]; rfl) ?_
    refine ev_pos (by rw [t3_length]; omega) (ev_pos (by omega) ?_)
    rw [e]
    obtain ⟨f, hf, hf2⟩ := few_ev l g1 g2
    refine Ev.bind hf ?_
    by_cases c : f = true
    · refine ev_pos c ?_
      obtain ⟨g3, g4⟩ := hf2 c
      refine Ev.bind (to_ev l (by omega) (fun r hr => by have := g4 r hr; omega)) (ev_pos (by rw [t3_length]; omega) ?_)
      rw [t3_snoc, w64 (i := (pre.length : Int) + 1) (by omega) (by omega), show (pre.length : Int) + 1 = ((pre.length + 1 : Nat) : Int) from by omega]
      have := ih (pre ++ [l]) (by rw [hp, List.append_assoc]; rfl)
      rw [List.length_append, List.length_singleton] at this
      exact this
    · exact ev_neg c (Ev.now _)
theorem SplitTells (b s m : Int) (d : List Int) (hd : d.length < 2 ^ 48 ∧ ∀ x ∈ d, 0 ≤ x ∧ x ≤ 255) (i : Int) (_ : -2 ^ 63 ≤ i ∧ i < 2 ^ 63)
    (L : List (List (List Int))) (hL : L.length < 2 ^ 48 ∧ ∀ l ∈ L, l.length < 2 ^ 48 ∧ ∀ r ∈ l, r.length < 2 ^ 48 ∧ ∀ x ∈ r, 0 ≤ x ∧ x ≤ 255) : Ev (fun q => fountainlaw12_SplitTells.f q b s m d i L) true := by
  obtain ⟨d, rfl⟩ := tl_of d hd.2
  have hX : ∃ X : List (List (List F)), L = t3 X := by
    have h2 := hL.2
    clear hL
    induction L with
    | nil => exact ⟨[], rfl⟩
    | cons l L ih =>
      obtain ⟨X, rfl⟩ := ih fun q hq => h2 q (List.mem_cons_of_mem _ hq)
      obtain ⟨Y, rfl⟩ := tll_of l fun r hr => ((h2 l List.mem_cons_self).2 r hr).2
      exact ⟨Y :: X, rfl⟩
  obtain ⟨X, rfl⟩ := hX
  unfold fountainlaw12_SplitTells.f
  refine Ev.bind alive_ev (ev_pos rfl ?_)
  have fin : ∀ b' : Bool, b' = true → Ev (fun q => fountainlaw12_SplitTells.j0 q (tl d) i (t3 X) true b' b s m) true := by
    intro b' hb
    refine Ev.step (fun q => by simp only [fountainlaw12_SplitTells.j0]; rfl) ?_
    exact ev_pos hb (Ev.now _)
  rw [tl_length, t3_length]
  by_cases c1 : (d.length : Int) > 4100
  · exact ev_pos c1 (fin _ rfl)
  refine ev_neg c1 ?_
  by_cases c2 : (X.length : Int) > 60
  · exact fin _ (decide_eq_true c2)
  refine Ev.step (fun q => by simp only [fountainlaw12_SplitTells.j0]; rfl) ?_
  refine ev_neg (by rw [decide_eq_true_eq]; exact c2) ?_
  exact in_l0 b s m i d (by omega) X (by omega) (fun l hl => by
    obtain ⟨g1, g2⟩ := hL.2 (tll l) (List.mem_map.2 ⟨l, hl, rfl⟩)
    rw [tll_length] at g1
    refine ⟨by omega, fun r hr => ?_⟩
    have := (g2 (tl r) (List.mem_map.2 ⟨r, hr, rfl⟩)).1
    rw [tl_length] at this
    omega) X [] rfl
end Go.Proofs.Ytinplhdjgjijiaa.Pure
