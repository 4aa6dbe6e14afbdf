/- A constant string told as bytes ('[]byte("abc")'): what the conversion of the literal to its own type does to a row that the call has just made: nobody may write it any more, and it reads as before. No program is in sight; conditions: the row's elements are bytes. -/
import Derived.Test.YtbfhinfblepidaaWWords
import Derived.Lib.SlBytesConst
namespace Go.Proofs.Ytbfhinfblepidaa.Xw
open Go.RowKit Go.Proofs.YtbfhinfblepidaaW.PrintWords Go.Proofs.YtbfhinfblepidaaW.PrintWords.Kd Go.Proofs.YtbfhinfblepidaaW.PrintLast Go.Proofs.YtbfhinfblepidaaW.PrintMore
theorem freeze_heap (W : World) (g : Nat) (cur : Array Value) (e : Nat) (hg : W.heap[g]? = some (.cells cur e (0, 0))) :
    (W.freeze ⟨g, cur.size, none⟩ 1).heap[g]? = some (.cells cur e (cur.size, cur.size + 1)) ∧ (∀ k, k ≠ g → (W.freeze ⟨g, cur.size, none⟩ 1).heap[k]? = W.heap[k]?) ∧ (W.freeze ⟨g, cur.size, none⟩ 1).heap.size = W.heap.size ∧
    (W.freeze ⟨g, cur.size, none⟩ 1).os = W.os ∧ (W.freeze ⟨g, cur.size, none⟩ 1).tape = W.tape ∧ (W.freeze ⟨g, cur.size, none⟩ 1).output = W.output := by
  unfold World.freeze
  rw [if_neg (by decide)]
  refine ⟨?_, ?_, ?_, rfl, rfl, rfl⟩
  · show (W.heap.modify g _)[g]? = _
    rw [Array.getElem?_modify, if_pos rfl, hg]
    rfl
  · intro k hk
    show (W.heap.modify g _)[k]? = _
    rw [Array.getElem?_modify, if_neg (by omega)]
  · show (W.heap.modify g _).size = _
    rw [Array.size_modify]
theorem conv_bytes {P : Program} {t e : Nat} (ht : P.underlying t = some (.slice e)) (he : P.underlying e = some (.int .u8)) {W : World} {base n c : Nat} {A : Option Addr} {ok : Nat → Prop} {xs : List Int}
    (h : Kd.R (Kd.int .u8) e W base ok (.slice A n c) xs) (hpos : 0 < xs.length) :
    ∃ W7, (convert t t (.slice A n c)).run P W = .ok (.slice A n c) W7 ∧ Kd.V (Kd.int .u8) e W7 base (fun k => some k = (Value.slice A n c).ownBlock) (.slice A n c) xs ∧ Below base W W7 ∧ ∀ k, (Value.slice A n c).ownBlock = some k → k < W7.heap.size := by
  obtain ⟨hlen, hle, hreads⟩ := Kd.R_reads' h
  have hown := Kd.own_of_R h
  obtain ⟨hsz, hv⟩ := hown
  rcases hv with ⟨hv, h0⟩ | ⟨g, cap, cur, hv, hb, hg, hnc, hcm, hcur, htake⟩
  · injection hv with h1 h2 h3
    simp at hsz
    omega
  · injection hv with h1 h2 h3
    subst h1; subst h3
    have hn : n = xs.length := by simp at hsz; omega
    subst hn
    have hsh : W.shape? g = some (e, cur.size) := by unfold World.shape?; rw [hg]
    obtain ⟨f1, f2, f3, f4, f5, f6⟩ := freeze_heap W g cur e hg
    refine ⟨W.freeze ⟨g, cur.size, none⟩ 1, ?_, ?_, ⟨f4, f5, f6, by rw [f3]; exact Nat.le_refl _, fun k hk => f2 k (by omega)⟩, fun k hk => by simp [Value.ownBlock] at hk; subst hk; rw [f3]; exact (Array.getElem?_eq_some_iff.1 hg).1⟩
    · simp [convert, run_underlying ht, run_underlying he, markStringish, hsh]
    · refine ⟨some ⟨g, 0, none⟩, c, rfl, hle, ?_⟩
      intro W' hW'
      have hgW : W'.heap[g]? = some (.cells cur e (cur.size, cur.size + 1)) := by
        rw [← f1]
        refine hW' g (by simp [Value.ownBlock]) ?_
        rw [f3]
        exact (Array.getElem?_eq_some_iff.1 hg).1
      refine ⟨rfl, by unfold maxLen at hcm; omega, fun _ => ⟨⟨g, 0, none⟩, rfl, fun j p hj => ⟨[.int .u8 p], rfl, rfl, ?_⟩⟩⟩
      intro i u hu
      have hjl : j < xs.length := (List.getElem?_eq_some_iff.1 hj).1
      cases i with
      | succ i => simp at hu
      | zero =>
        simp at hu
        subst hu
        have ha : (⟨g, 0, none⟩ : Addr).add (j * (Kd.int IntKind.u8).sz + 0) = ⟨g, j, none⟩ := by
          rw [add_plain]
          show (⟨g, j * 1 + 0, none⟩ : Addr) = _
          simp
        rw [ha, cell_of_row W' g j cur e _ hgW]
        have h2 : (cur.toList.take (xs.length * 1))[j]? = some (.int .u8 p) := by
          rw [htake]
          simp [encs, hj]
        rw [List.getElem?_take_of_lt (by omega)] at h2
        simpa using h2
end Go.Proofs.Ytbfhinfblepidaa.Xw
