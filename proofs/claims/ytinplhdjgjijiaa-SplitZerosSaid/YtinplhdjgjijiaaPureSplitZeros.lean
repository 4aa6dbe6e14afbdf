/- Proved: SplitZeros answers true: the last symbol is filled with bytes 0, and what is joined has none of them. Conditions: the arguments are of their kinds. -/
import Derived.Test.YtinplhdjgjijiaaFSplitZeros
namespace Go.Proofs.Ytinplhdjgjijiaa.Pure
open Go.RowKit Go.Proofs.Ytinplhdjgjijiaa.PSplitZeros Go.Proofs.YtinplhdjgjijiaaW.PrintWords Go.Proofs.YtinplhdjgjijiaaW.PrintLast Go.Proofs.Ytinplhdjgjijiaa.Rw Go.Proofs.Ytinplhdjgjijiaa.Sp Go.Proofs.Ytinplhdjgjijiaa.FSplitZeros

/-- A symbol of s bytes of which q are left over of the bytes 7. -/
def pat (s q : Nat) : List F := List.replicate (min s q) 7 ++ List.replicate (s - min s q) 0
theorem pat_length (s q : Nat) : (pat s q).length = s := by unfold pat; rw [List.length_append, List.length_replicate, List.length_replicate]; omega
theorem pat_at (s q j : Nat) (h : j < s) : (pat s q)[j]? = some (if j < q then 7 else 0) := by
  unfold pat
  by_cases c : j < q
  · rw [if_pos c, List.getElem?_append_left (by rw [List.length_replicate]; omega), List.getElem?_replicate, if_pos (by omega)]
  · rw [if_neg c, List.getElem?_append_right (by rw [List.length_replicate]; omega), List.length_replicate, List.getElem?_replicate, if_pos (by omega)]
theorem fit_pat (s q : Nat) : fitR s ((List.replicate q 7).take s) = pat s q := by
  unfold fitR pat
  rw [List.take_take, Nat.min_self, List.take_replicate, List.length_replicate]
def rowsOf (s Q n p : Nat) : List (List F) := (List.range n).map fun k => pat s (Q - (p + k) * s)
theorem cutSyms_pat (s Q n : Nat) : ∀ p, cutSyms s n (List.replicate (Q - p * s) 7) = rowsOf s Q n p := by
  induction n with
  | zero => intro p; rfl
  | succ n ih =>
    intro p
    unfold rowsOf
    rw [List.range_succ_eq_map, List.map_cons, List.map_map]
    simp only [cutSyms]
    rw [fit_pat, List.drop_replicate, Nat.add_zero]
    congr 1
    have := ih (p + 1)
    rw [show Q - p * s - s = Q - (p + 1) * s from by rw [Nat.succ_mul]; omega, this]
    unfold rowsOf
    apply List.map_congr_left
    intro k _
    show pat s (Q - (p + 1 + k) * s) = pat s (Q - (p + (k + 1)) * s)
    rw [show p + 1 + k = p + (k + 1) from by omega]
theorem cutBlks_pat (b s m Q n : Nat) : ∀ i, cutBlks b s m n i (List.replicate (Q - sumK b s m i * s) 7) = (List.range' i n).map fun i => rowsOf s Q (kN b s m i) (sumK b s m i) := by
  induction n with
  | zero => intro i; rfl
  | succ n ih =>
    intro i
    simp only [cutBlks, List.range'_succ, List.map_cons]
    rw [cutSyms_pat, List.drop_replicate]
    have := ih (i + 1)
    rw [show Q - sumK b s m i * s - kN b s m i * s = Q - sumK b s m (i + 1) * s from by simp only [sumK, Nat.add_mul]; omega, this]
theorem fill_l0 (a1 a2 : Int) (n : Nat) (hn : n < 2 ^ 40) (R : Bool) (d : Nat) : ∀ i, i + d = n →
    Ev (fun k => (split_Cut.f k (n : Int) a1 a2 (tl (List.replicate n 7))).bind fun bt170 => (fountainlaw12_SplitZeros.l1 k (n : Int) a1 bt170.1 bt170.2 0 0 0)) R →
    Ev (fun k => fountainlaw12_SplitZeros.l0 k (n : Int) a1 a2 (tl (List.replicate i 7 ++ List.replicate d 0)) (i : Int)) R := by
  induction d with
  | zero =>
    intro i hi hR
    obtain rfl : i = n := by omega
    refine Ev.step (fun k => by simp only [fountainlaw12_SplitZeros.l0]; rfl) ?_
    refine ev_neg (by omega) ?_
    rw [List.replicate_zero, List.append_nil]
    exact hR
  | succ d ih =>
    intro i hi hR
    refine Ev.step (fun k => by simp only [fountainlaw12_SplitZeros.l0]; rfl) ?_
    refine ev_pos (by omega) (ev_pos (by omega) (ev_pos (by rw [tl_length, List.length_append, List.length_replicate, List.length_replicate]; omega) ?_))
    have e := set_mid (List.replicate i 7) (List.replicate d 0) 0 7
    rw [List.length_replicate] at e
    have e7 : ti 7 = 7 := rfl
    rw [e7] at e
    rw [List.replicate_succ, Int.toNat_natCast, e, w64 (i := (i : Int) + 1) (by omega) (by omega), show (i : Int) + 1 = ((i + 1 : Nat) : Int) from by omega]
    have := ih (i + 1) (by omega) hR
    rw [List.replicate_succ', List.append_assoc, List.singleton_append] at this
    exact this
section
variable {n s m : Nat}
/-- All that was cut: blocks of rows. -/
def cutX (n s m : Nat) : List (List (List F)) := (List.range' 0 (blkN n s m)).map fun i => rowsOf s n (kN n s m i) (sumK n s m i)
theorem cutAll_pat : cutAll n s m (List.replicate n 7) = cutX n s m := by
  have := cutBlks_pat n s m n (blkN n s m) 0
  simp only [sumK, Nat.zero_mul, Nat.sub_zero] at this
  exact this
theorem cutX_length : (cutX n s m).length = blkN n s m := by unfold cutX; rw [List.length_map, List.length_range']
theorem blk_at (i : Nat) (h : i < blkN n s m) : rd_L2 (t3 (cutX n s m)) (i : Int) = tll (rowsOf s n (kN n s m i) (sumK n s m i)) := by
  unfold rd_L2 t3 cutX
  rw [Int.toNat_natCast, List.getD_eq_getElem?_getD, List.map_map, List.getElem?_map, List.getElem?_range' h]
  simp
theorem row_at (c p k : Nat) (h : k < c) : rd_L1 (tll (rowsOf s n c p)) (k : Int) = tl (pat s (n - (p + k) * s)) := by
  unfold rd_L1 tll rowsOf
  rw [Int.toNat_natCast, List.getD_eq_getElem?_getD, List.map_map, List.getElem?_map, List.getElem?_range h]
  rfl
theorem rowsOf_length (c p : Nat) : (rowsOf s n c p).length = c := by unfold rowsOf; rw [List.length_map, List.length_range]
/-- One symbol: the bytes 7 first, then those that are 0. -/
theorem sym_l3 (hn : n ≤ 4000) (hs0 : 1 ≤ s) (hs : s ≤ 64) (i k : Nat) (hi : i < blkN n s m) (hk : k < kN n s m i) (hp : (sumK n s m i + k) * s < 300000) (R : Bool)
    (hR : Ev (fun q => fountainlaw12_SplitZeros.l2 q (n : Int) (s : Int) (t3 (cutX n s m)) 0 ((min ((sumK n s m i + k + 1) * s) n : Nat) : Int) (((sumK n s m i + k + 1) * s - min ((sumK n s m i + k + 1) * s) n : Nat) : Int) (i : Int) ((k + 1 : Nat) : Int)) R) (d : Nat) : ∀ j, j + d = s →
    Ev (fun q => fountainlaw12_SplitZeros.l3 q (n : Int) (s : Int) (t3 (cutX n s m)) 0 ((min ((sumK n s m i + k) * s + j) n : Nat) : Int) (((sumK n s m i + k) * s + j - min ((sumK n s m i + k) * s + j) n : Nat) : Int) (i : Int) (k : Int) (j : Int)) R := by
  obtain ⟨p, hp0⟩ : ∃ p, (sumK n s m i + k) * s = p := ⟨_, rfl⟩
  have hp1 : (sumK n s m i + k + 1) * s = p + s := by rw [Nat.succ_mul, hp0]
  have hkl := k_le_sym n s m i
  induction d with
  | zero =>
    intro j hj
    obtain rfl : j = s := by omega
    rw [hp0] at hp ⊢
    rw [hp1] at hR
    refine Ev.step (fun q => by simp only [fountainlaw12_SplitZeros.l3]; rfl) ?_
    refine ev_neg (by omega) ?_
    have hk2 : k < 2 ^ 40 := by
      have : k * 1 ≤ (sumK n j m i + k) * j := Nat.mul_le_mul (by omega) hs0
      omega
    rw [w64 (i := (k : Int) + 1) (by omega) (by omega), show (k : Int) + 1 = ((k + 1 : Nat) : Int) from by omega]
    exact hR
  | succ d ih =>
    intro j hj
    have hi2 := ih (j + 1) (by omega)
    rw [hp0] at hp hi2 ⊢
    have hb := blk_at (n := n) (s := s) (m := m) i hi
    have hr := row_at (s := s) (n := n) (kN n s m i) (sumK n s m i) k hk
    rw [hp0] at hr
    have hlen1 : (t3 (cutX n s m)).length = blkN n s m := by rw [t3_length, cutX_length]
    have hlen2 : (tll (rowsOf s n (kN n s m i) (sumK n s m i))).length = kN n s m i := by rw [tll_length, rowsOf_length]
    have hlen3 : (tl (pat s (n - p))).length = s := by rw [tl_length, pat_length]
    have hv : rd (tl (pat s (n - p))) (j : Int) = ti (if j < n - p then 7 else 0) := rd_tl (pat_at s (n - p) j (by omega))
    refine Ev.step (fun q => by simp only [fountainlaw12_SplitZeros.l3]; rfl) ?_
    refine ev_pos (by omega) (ev_pos (by omega) (ev_pos (by rw [hlen1]; omega) (ev_pos (by omega) ?_)))
    rw [hb]
    refine ev_pos (by rw [hlen2]; omega) (ev_pos (by omega) ?_)
    rw [hr]
    refine ev_pos (by rw [hlen3]; omega) ?_
    rw [hv]
    by_cases c : j < n - p
    · rw [if_pos c]
      refine ev_pos rfl ?_
      refine Ev.step (fun q => by simp only [fountainlaw12_SplitZeros.j5]; rfl) ?_
      refine ev_pos (by rw [show p + j - min (p + j) n = 0 from by omega]; rfl) ?_
      rw [w64 (i := ((min (p + j) n : Nat) : Int) + 1) (by omega) (by omega), w64 (i := (j : Int) + 1) (by omega) (by omega), show ((min (p + j) n : Nat) : Int) + 1 = ((min (p + (j + 1)) n : Nat) : Int) from by omega,
        show p + j - min (p + j) n = p + (j + 1) - min (p + (j + 1)) n from by omega, show (j : Int) + 1 = ((j + 1 : Nat) : Int) from by omega]
      exact hi2
    · rw [if_neg c]
      refine ev_neg (by decide) ?_
      refine Ev.step (fun q => by simp only [fountainlaw12_SplitZeros.j5]; rfl) ?_
      refine ev_neg (by decide) (ev_pos (by omega) (ev_pos (by rw [hlen1]; omega) (ev_pos (by omega) ?_)))
      rw [hb]
      refine ev_pos (by rw [hlen2]; omega) (ev_pos (by omega) ?_)
      rw [hr]
      refine ev_pos (by rw [hlen3]; omega) ?_
      rw [hv, if_neg c]
      refine ev_pos rfl ?_
      rw [w64 (i := ((p + j - min (p + j) n : Nat) : Int) + 1) (by omega) (by omega), w64 (i := (j : Int) + 1) (by omega) (by omega), show ((p + j - min (p + j) n : Nat) : Int) + 1 = ((p + (j + 1) - min (p + (j + 1)) n : Nat) : Int) from by omega,
        show min (p + j) n = min (p + (j + 1)) n from by omega, show (j : Int) + 1 = ((j + 1 : Nat) : Int) from by omega]
      exact hi2
theorem blk_l2 (hn : n ≤ 4000) (hn1 : 1 ≤ n) (hs0 : 1 ≤ s) (hs : s ≤ 64) (i : Nat) (hi : i < blkN n s m) (R : Bool)
    (hR : Ev (fun q => fountainlaw12_SplitZeros.l1 q (n : Int) (s : Int) (t3 (cutX n s m)) 0 ((min (sumK n s m (i + 1) * s) n : Nat) : Int) ((sumK n s m (i + 1) * s - min (sumK n s m (i + 1) * s) n : Nat) : Int) ((i + 1 : Nat) : Int)) R) (d : Nat) : ∀ k, k + d = kN n s m i →
    Ev (fun q => fountainlaw12_SplitZeros.l2 q (n : Int) (s : Int) (t3 (cutX n s m)) 0 ((min ((sumK n s m i + k) * s) n : Nat) : Int) (((sumK n s m i + k) * s - min ((sumK n s m i + k) * s) n : Nat) : Int) (i : Int) (k : Int)) R := by
  have hsum := sumK_le n s m (i + 1) (by omega)
  have hsl := sym_le (s := s) hn1
  have hbl := @blk_le n s m
  have hlen1 : (t3 (cutX n s m)).length = blkN n s m := by rw [t3_length, cutX_length]
  have hlen2 : (tll (rowsOf s n (kN n s m i) (sumK n s m i))).length = kN n s m i := by rw [tll_length, rowsOf_length]
  have hb := blk_at (n := n) (s := s) (m := m) i hi
  induction d with
  | zero =>
    intro k hk
    obtain rfl : k = kN n s m i := by omega
    refine Ev.step (fun q => by simp only [fountainlaw12_SplitZeros.l2]; rfl) ?_
    refine ev_pos (by omega) (ev_pos (by rw [hlen1]; omega) ?_)
    rw [hb]
    refine ev_neg (by rw [hlen2]; omega) ?_
    rw [w64 (i := (i : Int) + 1) (by omega) (by omega), show (i : Int) + 1 = ((i + 1 : Nat) : Int) from by omega]
    simp only [sumK] at hR
    exact hR
  | succ d ih =>
    intro k hk
    have hr := row_at (s := s) (n := n) (kN n s m i) (sumK n s m i) k (by omega)
    simp only [sumK] at hsum
    have hp : (sumK n s m i + k) * s < 300000 := by
      have : (sumK n s m i + k) * s ≤ 4000 * 64 := Nat.mul_le_mul (by omega) hs
      omega
    refine Ev.step (fun q => by simp only [fountainlaw12_SplitZeros.l2]; rfl) ?_
    refine ev_pos (by omega) (ev_pos (by rw [hlen1]; omega) ?_)
    rw [hb]
    refine ev_pos (by rw [hlen2]; omega) (ev_pos (by omega) ?_)
    rw [hr]
    refine ev_pos (by rw [tl_length, pat_length]) ?_
    have := sym_l3 hn hs0 hs i k hi (by omega) hp R (ih (k + 1) (by omega)) s 0 (by omega)
    simp only [Nat.add_zero] at this
    exact this
theorem all_l1 (hn : n ≤ 4000) (hn1 : 1 ≤ n) (hs0 : 1 ≤ s) (hs : s ≤ 64) (d : Nat) : ∀ i, i + d = blkN n s m →
    Ev (fun q => fountainlaw12_SplitZeros.l1 q (n : Int) (s : Int) (t3 (cutX n s m)) 0 ((min (sumK n s m i * s) n : Nat) : Int) ((sumK n s m i * s - min (sumK n s m i * s) n : Nat) : Int) (i : Int)) true := by
  have hlen1 : (t3 (cutX n s m)).length = blkN n s m := by rw [t3_length, cutX_length]
  induction d with
  | zero =>
    intro i hi
    obtain rfl : i = blkN n s m := by omega
    refine Ev.step (fun q => by simp only [fountainlaw12_SplitZeros.l1]; rfl) ?_
    refine ev_neg (by rw [hlen1]; omega) ?_
    refine ev_val (o := fountainlaw12_num.f 0) rfl (ev_pos rfl ?_)
    rw [sumK_all]
    have h1 : symN n s * s = (n - 1) / s * s + s := by unfold symN upN; rw [Nat.succ_mul]
    have h2 := Nat.div_add_mod (n - 1) s
    have h3 := Nat.mod_lt (n - 1) (show 0 < s by omega)
    rw [Nat.mul_comm] at h2
    have h4 : symN n s * s % s = 0 := Nat.mul_mod_left _ _
    obtain ⟨T, hT⟩ : ∃ T, symN n s * s = T := ⟨_, rfl⟩
    rw [hT] at h1 h4 ⊢
    have hT2 : T < 2 ^ 40 := by
      have : (n - 1) / s * s ≤ n := by omega
      omega
    refine ev_pos (by omega) (ev_pos (by omega) (ev_neg (by omega) ?_))
    rw [w64 (by omega) (by omega), show ((min T n : Nat) : Int) + ((T - min T n : Nat) : Int) = (T : Int) from by omega]
    have e : Int.tmod (T : Int) (s : Int) = ((T % s : Nat) : Int) := (Int.ofNat_tmod _ _).symm
    rw [e, h4]
    exact Ev.now _
  | succ d ih =>
    intro i hi
    refine Ev.step (fun q => by simp only [fountainlaw12_SplitZeros.l1]; rfl) ?_
    refine ev_pos (by rw [hlen1]; omega) ?_
    have := blk_l2 hn hn1 hs0 hs i (by omega) true (ih (i + 1) (by omega)) (kN n s m i) 0 (by omega)
    simp only [Nat.add_zero] at this
    exact this
end
theorem SplitZeros : fountainlaw12_SplitZeros.Pure := by
  intro a0 a1 a2 _ _ _
  refine Ev.rounds (?_ : Ev (fun q => fountainlaw12_SplitZeros.f q a0 a1 a2) true)
  unfold fountainlaw12_SplitZeros.f
  refine Ev.bind alive_ev (ev_pos rfl ?_)
  have fin : ∀ b : Bool, b = true → Ev (fun q => fountainlaw12_SplitZeros.j0 q a0 a1 a2 true b) true := by
    intro b hb
    refine Ev.step (fun q => by simp only [fountainlaw12_SplitZeros.j0]; rfl) ?_
    exact ev_pos hb (Ev.now _)
  by_cases c1 : a0 < 1
  · exact ev_pos c1 (fin _ rfl)
  refine ev_neg c1 ?_
  by_cases c2 : a0 > 4000
  · exact ev_pos c2 (fin _ rfl)
  refine ev_neg c2 ?_
  by_cases c3 : a1 < 1
  · exact ev_pos c3 (fin _ rfl)
  refine ev_neg c3 ?_
  by_cases c4 : a1 > 64
  · exact ev_pos c4 (fin _ rfl)
  refine ev_neg c4 ?_
  by_cases c5 : a2 < 1
  · exact ev_pos c5 (fin _ rfl)
  refine ev_neg c5 ?_
  by_cases c6 : a2 > 40
  · exact fin _ (decide_eq_true c6)
  obtain ⟨n, rfl⟩ : ∃ n : Nat, a0 = (n : Int) := ⟨a0.toNat, by omega⟩
  obtain ⟨s, rfl⟩ : ∃ n : Nat, a1 = (n : Int) := ⟨a1.toNat, by omega⟩
  obtain ⟨m, rfl⟩ : ∃ n : Nat, a2 = (n : Int) := ⟨a2.toNat, by omega⟩
  have hok : okS (n : Int) (s : Int) (m : Int) := by unfold okS; omega
  refine Ev.step (fun q => by simp only [fountainlaw12_SplitZeros.j0]; rfl) ?_
  refine ev_neg (by rw [decide_eq_true_eq]; omega) (ev_pos (by omega) (ev_pos (by rw [Int.toNat_natCast]; omega) ?_))
  rw [Int.toNat_natCast]
  have hcut := cut_yes hok (List.replicate n 7) (List.length_replicate)
  rw [cutAll_pat] at hcut
  have hall := all_l1 (n := n) (s := s) (m := m) (by omega) (by omega) (by omega) (by omega) (blkN n s m) 0 (by omega)
  simp only [sumK, Nat.zero_mul, Nat.zero_min, Nat.sub_zero] at hall
  have := fill_l0 (s : Int) (m : Int) n (by omega) true n 0 (by omega) (Ev.bind hcut hall)
  rw [List.replicate_zero, List.nil_append, tl_replicate] at this
  exact this
end Go.Proofs.Ytinplhdjgjijiaa.Pure
