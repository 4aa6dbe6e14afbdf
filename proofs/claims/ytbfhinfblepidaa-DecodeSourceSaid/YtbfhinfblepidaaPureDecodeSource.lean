/- Proved: DecodeSource answers true: the source alone is always enough, one less is not, and with any other one it is. Conditions: the arguments' numbers are of their kinds. -/
import Derived.Test.YtbfhinfblepidaaDw
import Derived.Test.YtbfhinfblepidaaPDecodeSourcex
namespace Go.Proofs.Ytbfhinfblepidaa.Pure
open Go.RowKit Go.Proofs.Ytbfhinfblepidaa.PSolveTells Go.Proofs.Ytbfhinfblepidaa.PSeedTells Go.Proofs.Ytbfhinfblepidaa.PBlockTells Go.Proofs.Ytbfhinfblepidaa.PDecodeTells Go.Proofs.Ytbfhinfblepidaa.PDecodeSource Go.Proofs.YtbfhinfblepidaaW.PrintWords Go.Proofs.YtbfhinfblepidaaW.PrintLast Go.Proofs.Ytbfhinfblepidaa.Rw Go.Proofs.Ytbfhinfblepidaa.FSolveTells Go.Proofs.Ytbfhinfblepidaa.FSeedTells Go.Proofs.Ytbfhinfblepidaa.Sl Go.Proofs.Ytbfhinfblepidaa.Sd Go.Proofs.Ytbfhinfblepidaa.Dr Go.Proofs.Ytbfhinfblepidaa.Dq Go.Proofs.Ytbfhinfblepidaa.Dw
def fw (i m : Nat) : List Int := (src i).filter fun x => x != (m : Int)
theorem fw_succ (i m : Nat) : fw (i + 1) m = if i = m then fw i m else fw i m ++ [(i : Int)] := by
  unfold fw
  rw [← src_succ, List.filter_append]
  by_cases e : i = m
  · subst e; simp
  · rw [if_neg e]
    have : ((i : Int) != (m : Int)) = true := by rw [bne_iff_ne]; omega
    simp [this]
theorem fw_len (m : Nat) : ∀ i, (fw i m).length = if m < i then i - 1 else i := by
  intro i
  induction i with
  | zero => simp [fw, src]
  | succ i ih =>
    rw [fw_succ]
    by_cases e : i = m
    · subst e; rw [if_pos rfl, ih, if_neg (by omega), if_pos (by omega)]; omega
    · rw [if_neg e, List.length_append, ih]
      by_cases g : m < i
      · rw [if_pos g, if_pos (by omega)]; simp; omega
      · rw [if_neg g, if_neg (by omega)]; simp
theorem fw_mem {i m : Nat} {x : Int} (h : x ∈ fw i m) : x ∈ src i := (List.mem_filter.1 h).1
theorem skip (n m : Int) : Ev (fun k => fountainlaw11_DecodeSource.j0 k n m true true) true := by
  refine Ev.step (fun k => by simp only [fountainlaw11_DecodeSource.j0]; rfl) ?_
  exact ev_pos trivial (Ev.now _)
theorem loop {n m : Nat} (h1 : 1 ≤ n) (h2 : n ≤ 14) (hm : m < n) (hs : (seedOf (n : Int)).2 = 0) (d : Nat) : ∀ i, i + d = n → Ev (fun k => fountainlaw11_DecodeSource.l0 k (n : Int) (m : Int) (src i) (fw i m) (i : Int)) true := by
  induction d with
  | zero =>
    intro i hi
    obtain rfl : i = n := by omega
    have hl : (fw i m).length = i - 1 := by rw [fw_len, if_pos hm]
    have ok := src_ok (n := i) (by omega)
    have okm : okE (m : Int) := ⟨by omega, by omega⟩
    have hm2 : (m : Int) ∈ src i := by unfold src; exact List.mem_map.2 ⟨m, List.mem_range.2 hm, rfl⟩
    refine Ev.step (fun k => by simp only [fountainlaw11_DecodeSource.l0]; rfl) ?_
    refine ev_neg (by omega) (ev_val (denough_at _ _ (by rw [src_len]; omega)) ?_)
    rw [en_of hs ok (fun e he => he)]
    refine ev_pos rfl (ev_val (denough_at _ _ (by rw [hl]; omega)) ?_)
    rw [en_few hs (fun e he => ok e (fw_mem he)) (by rw [hl]; omega)]
    refine ev_neg (by decide) (ev_pos (by rw [hl]; omega) (ev_val rfl (ev_pos (by rw [List.length_append, hl]; simp; omega) (ev_val (denough_at _ _ (by simp [hl]; omega)) ?_))))
    rw [en_of hs (fun e he => ?_) (fun e he => ?_)]
    · exact Ev.now _
    · rcases List.mem_append.1 he with he | he
      · rcases List.mem_append.1 he with he | he
        · exact ok e (fw_mem he)
        · obtain rfl : e = (m : Int) := by simpa using he
          exact okm
      · obtain rfl : e = 7777 := by simpa using he
        exact ⟨by decide, by decide⟩
    · by_cases e1 : e = (m : Int)
      · exact List.mem_append.2 (.inl (List.mem_append.2 (.inr (by rw [e1]; simp))))
      · refine List.mem_append.2 (.inl (List.mem_append.2 (.inl (List.mem_filter.2 ⟨he, ?_⟩))))
        rw [bne_iff_ne]; exact e1
  | succ d ih =>
    intro i hi
    refine Ev.step (fun k => by simp only [fountainlaw11_DecodeSource.l0]; rfl) ?_
    refine ev_pos (by omega) (ev_pos (by rw [src_len]; omega) (ev_val rfl ?_))
    have := ih (i + 1) (by omega)
    rw [← src_succ, fw_succ] at this
    rw [w64 (i := (i : Int) + 1) (by omega) (by omega), show (i : Int) + 1 = ((i + 1 : Nat) : Int) from by omega]
    by_cases e : i = m
    · rw [if_pos e] at this
      exact ev_pos (by omega) this
    · rw [if_neg e] at this
      have hl : (fw i m).length ≤ i := by rw [fw_len]; split <;> omega
      exact ev_neg (by omega) (ev_pos (by omega) this)
theorem DecodeSource (n : Int) (_ : -2 ^ 63 ≤ n ∧ n < 2 ^ 63) (m : Int) (_ : -2 ^ 63 ≤ m ∧ m < 2 ^ 63) : Ev (fun k => fountainlaw11_DecodeSource.f k n m) true := by
  unfold fountainlaw11_DecodeSource.f
  refine ev_val rfl (ev_pos rfl ?_)
  by_cases c1 : n < 1
  · exact ev_pos c1 (skip _ _)
  refine ev_neg c1 ?_
  by_cases c2 : n > 14
  · exact ev_pos c2 (skip _ _)
  refine ev_neg c2 ?_
  by_cases c3 : m < 0
  · exact ev_pos c3 (skip _ _)
  refine ev_neg c3 ?_
  by_cases c4 : m ≥ n
  · rw [decide_eq_true c4]; exact skip _ _
  rw [decide_eq_false c4]
  obtain ⟨a, rfl⟩ : ∃ a : Nat, n = (a : Int) := ⟨n.toNat, by omega⟩
  obtain ⟨b, rfl⟩ : ∃ b : Nat, m = (b : Int) := ⟨m.toNat, by omega⟩
  refine Ev.step (fun k => by simp only [fountainlaw11_DecodeSource.j0]; rfl) ?_
  refine ev_neg (by decide) (Ev.bind (seed_ev (a : Int)) ?_)
  by_cases c5 : (seedOf (a : Int)).2 = 0
  · exact ev_pos c5 (loop (by omega) (by omega) (by omega) c5 a 0 (by omega))
  · exact ev_neg c5 (Ev.now _)
end Go.Proofs.Ytbfhinfblepidaa.Pure
