/- A constant string told as bytes ('[]byte("abc")'): what the conversion of the literal to its own type does to a row that the call has just made: nobody may write it any more, and it reads as before. No program is in sight; conditions: the row's elements are bytes. -/
import Derived.Test.YtbfhinfblepidaaWMore
import Derived.Lib.SlBytesConst
namespace Go.Proofs.Ytbfhinfblepidaa.Xw
open Go.RowKit Go.Proofs.YtbfhinfblepidaaW.PrintWords Go.Proofs.YtbfhinfblepidaaW.PrintWords.Kd Go.Proofs.YtbfhinfblepidaaW.PrintLast Go.Proofs.YtbfhinfblepidaaW.PrintMore

theorem freeze_heap (W : World) (g : Nat) (cur : Array Value) (e : Nat) (hg : W.heap[g]? = some (.cells cur e (0, 0))) :
    (W.freeze ⟨g, cur.size, none⟩ 1).heap[g]? = some (.cells cur e (cur.size, cur.size + 1)) ∧ (∀ k, k ≠ g → (W.freeze ⟨g, cur.size, none⟩ 1).heap[k]? = W.heap[k]?) ∧ (W.freeze ⟨g, cur.size, none⟩ 1).heap.size = W.heap.size ∧
    (W.freeze ⟨g, cur.size, none⟩ 1).os = W.os ∧ (W.freeze ⟨g, cur.size, none⟩ 1).tape = W.tape ∧ (W.freeze ⟨g, cur.size, none⟩ 1).output = W.output := by
  unfold World.freeze
  rw [if_neg (by decide)]
  refine ⟨?_, ?_, ?_, rfl, rfl, rfl⟩
  · show (W.heap.modify g _)[g]? = _
    rw [Array.getElem?_modify, if_pos rfl, hg]
    rfl
  · intro k hk
    show (W.heap.modify g _)[k]? = _
    rw [Array.getElem?_modify, if_neg (by omega)]
  · show (W.heap.modify g _).size = _
    rw [Array.size_modify]

theorem conv_bytes {P : Program} {t e : Nat} (ht : P.underlying t = some (.slice e)) (he : P.underlying e = some (.int .u8)) {W : World} {base n c : Nat} {A : Option Addr} {ok : Nat → Prop} {xs : List Int}
    (h : Kd.R (Kd.int .u8) e W base ok (.slice A n c) xs) (hpos : 0 < xs.length) :
    ∃ W7, (convert t t (.slice A n c)).run P W = .ok (.slice A n c) W7 ∧ Kd.V (Kd.int .u8) e W7 base (fun k => some k = (Value.slice A n c).ownBlock) (.slice A n c) xs ∧ Below base W W7 ∧ ∀ k, (Value.slice A n c).ownBlock = some k → k < W7.heap.size := by
  obtain ⟨hlen, hle, hreads⟩ := Kd.R_reads' h
  have hown := Kd.own_of_R h
  obtain ⟨hsz, hv⟩ := hown
  rcases hv with ⟨hv, h0⟩ | ⟨g, cap, cur, hv, hb, hg, hnc, hcm, hcur, htake⟩
  · injection hv with h1 h2 h3
    simp at hsz
    omega
  · injection hv with h1 h2 h3
    subst h1; subst h3
    have hn : n = xs.length := by simp at hsz; omega
    subst hn
    have hsh : W.shape? g = some (e, cur.size) := by unfold World.shape?; rw [hg]
    obtain ⟨f1, f2, f3, f4, f5, f6⟩ := freeze_heap W g cur e hg
    refine ⟨W.freeze ⟨g, cur.size, none⟩ 1, ?_, ?_, ⟨f4, f5, f6, by rw [f3]; exact Nat.le_refl _, fun k hk => f2 k (by omega)⟩, fun k hk => by simp [Value.ownBlock] at hk; subst hk; rw [f3]; exact (Array.getElem?_eq_some_iff.1 hg).1⟩
    · simp [convert, run_underlying ht, run_underlying he, markStringish, hsh]
    · refine ⟨some ⟨g, 0, none⟩, c, rfl, hle, ?_⟩
      intro W' hW'
      have hgW : W'.heap[g]? = some (.cells cur e (cur.size, cur.size + 1)) := by
        rw [← f1]
        refine hW' g (by simp [Value.ownBlock]) ?_
        rw [f3]
        exact (Array.getElem?_eq_some_iff.1 hg).1
      refine ⟨rfl, by unfold maxLen at hcm; omega, fun _ => ⟨⟨g, 0, none⟩, rfl, fun j p hj => ⟨[.int .u8 p], rfl, rfl, ?_⟩⟩⟩
      intro i u hu
      have hjl : j < xs.length := (List.getElem?_eq_some_iff.1 hj).1
      cases i with
      | succ i => simp at hu
      | zero =>
        simp at hu
        subst hu
        have ha : (⟨g, 0, none⟩ : Addr).add (j * (Kd.int IntKind.u8).sz + 0) = ⟨g, j, none⟩ := by
          rw [add_plain]
          show (⟨g, j * 1 + 0, none⟩ : Addr) = _
          simp
        rw [ha, cell_of_row W' g j cur e _ hgW]
        have h2 : (cur.toList.take (xs.length * 1))[j]? = some (.int .u8 p) := by
          rw [htake]
          simp [encs, hj]
        rw [List.getElem?_take_of_lt (by omega)] at h2
        simpa using h2
/-- 'append' looks at its second operand's type only to tell a length from a slice. -/
theorem append_types {P : Program} {t u e e2 : TypeId} (ht : P.underlying t = some (.slice e)) (hu : P.underlying u = some (.slice e2)) (ty : TypeId) (v : Value) (A : Option Addr) (m c : Nat) (W : World) :
    (Builtin.append_ #[t, u] ty #[v, .slice A m c]).run P W = (Builtin.append_ #[t, t] ty #[v, .slice A m c]).run P W := by
  cases v <;> simp [Builtin.append_, run_underlying ht, run_underlying hu]
/-- A whole row appended, where the two operands' types are not one (the words' own theorem asks that they are). -/
theorem R_append_rows2 {α : Type} {P : Program} {ops : Array Oper} {rest : List Oper} {o : Oper} {a : Act} {Q : Exit → Act → World → Prop} {u e2 : TypeId} (hu : P.underlying u = some (.slice e2)) (d : Kd α) {Rr : α → List Value → Prop} {w0 W : World} (base : Nat) (hgd : o.guard = none) (s x : Operand) (t e : TypeId) (z : Value) (bytes : Nat)
    (ho : o.op = .call { callee := .builtin .append, args := #[s, x], argTypes := #[t, u] })
    (ht : P.underlying t = some (.slice e)) (hinfo : (P.info? e).map (fun i => (i.zero, i.size, i.bytes)) = some (some z, d.sz, bytes)) (hz : z.cells.size = d.sz) (hs0 : 0 < d.sz) (hb0 : 0 < bytes)
    (v : Value) (xs ys : List α) (A : Option Addr) (m c : Nat) (ok okp : Nat → Prop) (hs : a.eval s = v) (hx : a.eval x = .slice A m c)
    (HO : d.R e W base ok v xs) (HR : ReadsRow Rr d.sz W A m ys) (hKM : ∀ x cs, Rr x cs → d.M W base okp x cs) (hokp : ∀ k, okp k → ok k ∧ some k ≠ v.ownBlock) (hfresh : ∀ k, W.heap.size ≤ k → ok k)
    (HB : Below base w0 W) (hbase : base ≤ W.heap.size) (hl : (xs.length + m) * bytes ≤ 140737488355328)
    (h : ∀ v1 w1, d.R e w1 base ok v1 (xs ++ ys) → Below base w0 w1 → W.grownBy w1 v.ownBlock → (v1.ownBlock = v.ownBlock ∨ ∃ b, v1.ownBlock = some b ∧ W.heap.size ≤ b) → wpList P ops Q rest (a.put o.dst v1) w1) :
    wpList P ops Q (o :: rest) a W := by
  obtain ⟨i0, hi, hzz⟩ := Option.map_eq_some_iff.1 hinfo
  simp only [Prod.mk.injEq] at hzz
  obtain ⟨hz0, hz1, hz2⟩ := hzz
  have hm : ys.length = m := HR.1
  have hlen : xs.length + m ≤ 140737488355328 := Nat.le_trans (Nat.le_mul_of_pos_right _ hb0) hl
  obtain ⟨hok, inner, hown, hr⟩ := HO
  have hrun : ∃ v1 w1, (Builtin.append_ #[t, u] o.type #[v, .slice A m c]).run P W = .ok v1 w1 ∧ d.R e w1 base ok v1 (xs ++ ys) ∧ W.grownBy w1 v.ownBlock ∧ (v1.ownBlock = v.ownBlock ∨ ∃ b, v1.ownBlock = some b ∧ W.heap.size ≤ b) := by
    rcases A with _ | ad
    · have h0 : m = 0 := by
        rcases Nat.eq_zero_or_pos m with h0 | h0
        · exact h0
        · obtain ⟨ad, h, _⟩ := HR.2.2 h0
          cases h
      subst h0
      obtain rfl : ys = [] := List.eq_nil_of_length_eq_zero hm
      refine ⟨v, W, ?_, by rw [List.append_nil]; exact ⟨hok, inner, hown, hr⟩, World.grownBy.refl W _, .inl rfl⟩
      rcases hown.2 with ⟨rfl, hn⟩ | ⟨g, cap, cur, rfl, _, _, hnc, _⟩
      · simp [Builtin.append_, run_underlying ht, run_underlying hu, sizeOf, typeInfo, hi, Builtin.lenOf, Builtin.firstCells]
      · simp [Builtin.append_, run_underlying ht, run_underlying hu, sizeOf, typeInfo, hi, Builtin.lenOf, Builtin.firstCells, hnc, storeCells]
    · obtain ⟨news, hnr, hnc⟩ := ReadsRow.inner_ HR
      have hnM : Reps (d.M W base okp) d.sz ys news := hnr.imp_ (fun p c hp => hKM p c hp)
      have hone : ∀ u ∈ news, u.oneCell' = true := by
        intro u hu
        obtain ⟨q, hq, rfl⟩ := List.mem_iff_getElem.1 hu
        have hql : q / d.sz < ys.length := by
          rw [Nat.div_lt_iff_lt_mul hs0]
          rw [← hnM.1]
          exact hq
        have hc := hnM.2 (q / d.sz) _ (List.getElem?_eq_getElem hql)
        refine d.K_one (d.K_of_M hc) _ ?_
        rw [List.mem_iff_getElem?]
        refine ⟨q % d.sz, ?_⟩
        rw [List.getElem?_take, if_pos (Nat.mod_lt _ hs0), List.getElem?_drop, Nat.mul_comm, Nat.div_add_mod, List.getElem?_eq_getElem hq]
      obtain ⟨v1, w1, hrun, h2, hg, _, hat⟩ := run_append_own_at (P := P) W base t o.type e i0 z d.sz bytes ht hi hz0 hz1 hz2 hz hs0 v xs.length inner hown ad m c news (by rw [hnM.1, hm]) hnc hone (by simp only [maxLen]; omega) hl hbase
      have hat' : v1.ownBlock = v.ownBlock ∨ ∃ b, v1.ownBlock = some b ∧ W.heap.size ≤ b := by
        rcases hat with hat | hat
        · exact .inl hat
        · exact .inr ⟨_, hat, Nat.le_refl _⟩
      have hne : ∀ k, some k ≠ v.ownBlock → k < W.heap.size → some k ≠ v1.ownBlock := by
        intro k hk hlt
        rcases hat' with hat | ⟨b, hb, hle⟩
        · rw [hat]; exact hk
        · rw [hb]
          intro he
          injection he with he
          omega
      have step : ∀ {q : α} {c : List Value} {o : Nat → Prop}, d.M W base o q c → (∀ k, o k → ok k ∧ some k ≠ v.ownBlock) → d.M w1 base (fun k => ok k ∧ some k ≠ v1.ownBlock) q c := by
        intro q c o hq ho
        have h1 := d.M_move (w1 := w1) (fun k hk => hg.block k hk.2.2.1 (ho k hk.1).2) (d.M_bound hq)
        exact d.M_mono (fun k hk => ⟨(ho k hk.1).1, hne k (ho k hk.1).2 hk.2.2.1⟩) h1
      refine ⟨v1, w1, (append_types ht hu _ _ _ _ _ _).trans hrun, ⟨fun k hk => ?_, inner ++ news, by rw [List.length_append, hm]; exact h2, reps_append (hr.imp_ (fun _ _ hq => step hq (fun _ hk => hk))) (hnM.imp_ (fun _ _ hq => step hq hokp))⟩, hg, hat'⟩
      rcases hat' with hat | ⟨b, hb, hle⟩
      · exact hok k (hat ▸ hk)
      · rw [hb] at hk
        injection hk with hk
        exact hfresh k (by omega)
  obtain ⟨v1, w1, hr1, h1, hg, hat⟩ := hrun
  refine wpList_plain hgd fun K hK => ?_
  unfold Oper.wp execOp
  simp only [ho, resolve, invoke, builtin, Sem.run_bind, Sem.run_pure, Result.andThen_ok, List.map_toArray, List.map_cons, List.map_nil, hs, hx, hr1]
  exact hK _ _ (h v1 w1 h1 (HB.grown hg hbase (own_base hown)) hg hat)
end Go.Proofs.Ytbfhinfblepidaa.Xw
