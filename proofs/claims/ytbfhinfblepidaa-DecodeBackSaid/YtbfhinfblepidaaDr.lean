/- The document's Decode. Conditions: those that stand in the theorems. -/
import Derived.Test.YtbfhinfblepidaaDm
import Derived.Test.YtbfhinfblepidaaPBlockTellsx
import Derived.Test.YtbfhinfblepidaaRsSolveTells
set_option maxHeartbeats 8000000
set_option maxRecDepth 100000
namespace Go.Proofs.Ytbfhinfblepidaa.Dr
open Go.RowKit Go.Lib Go.Proofs.Ytbfhinfblepidaa.PSolveTells Go.Proofs.Ytbfhinfblepidaa.PSeedTells Go.Proofs.Ytbfhinfblepidaa.PBlockTells Go.Proofs.Ytbfhinfblepidaa.PDecodeTells Go.Proofs.YtbfhinfblepidaaW.PrintWords Go.Proofs.YtbfhinfblepidaaW.PrintLast Go.Proofs.YtbfhinfblepidaaW.PrintMore Go.Proofs.Ytbfhinfblepidaa.Mt Go.Proofs.Ytbfhinfblepidaa.Dm
set_option linter.unusedVariables false
set_option linter.unusedSimpArgs false
structure RQ (w W : World) (v1 v2 : Value) (l us : List Value) : Prop where
  b : Below w.heap.size w W
  o1 : W.ownsRow w.heap.size 3 1 v1 l.length l
  o2 : W.ownsRow w.heap.size 30 1 v2 us.length us
theorem RQ.none_ {w W : World} (h : Below w.heap.size w W) : RQ w W (.slice none 0 0) (.slice none 0 0) [] [] := ⟨h, ⟨rfl, .inl ⟨rfl, rfl⟩⟩, ⟨rfl, .inl ⟨rfl, rfl⟩⟩⟩
theorem RQ.kept {w W W1 : World} {v1 v2 : Value} {l us : List Value} (h : RQ w W v1 v2 l us) (hb : Below W.heap.size W W1) : RQ w W1 v1 v2 l us :=
  ⟨below_step h.b hb, own_move h.o1 (fun k hk => hb.block k (own_lt h.o1 k hk)), own_move h.o2 (fun k hk => hb.block k (own_lt h.o2 k hk))⟩
theorem RQ.nums {w W : World} {v1 v2 : Value} {us : List Value} {acc : List S111} (h : RQ w W v1 v2 (acc.map fun x => .int .i64 x.f0) us) (hm : acc.length ≤ 1000000) :
    ∃ A c, v1 = .slice A (acc.map (·.f0)).length c ∧ (acc.map (·.f0)).length ≤ c ∧ (Kd.int .i64).C W A (acc.map (·.f0)).length (acc.map (·.f0)) :=
  own_C rfl h.o1 (by simp) (by simpa using hm) (fun j x hj => ⟨.int .i64 x, by rw [List.getElem?_map] at hj ⊢; obtain ⟨y, hy, rfl⟩ := Option.map_eq_some_iff.1 hj; rw [hy]; rfl, rfl⟩)
theorem RQ.rows {w W : World} {v1 v2 : Value} {l us : List Value} {acc : List S111} (h : RQ w W v1 v2 l us) (hu : Us w us acc) (hm : acc.length ≤ 1000000) :
    ∃ A c, v2 = .slice A (acc.map (·.f1)).length c ∧ (acc.map (·.f1)).length ≤ c ∧ (Kd.slice 5 (Kd.int .u8)).C W A (acc.map (·.f1)).length (acc.map (·.f1)) :=
  own_C rfl h.o2 (by simp [hu.1]) (by rw [hu.1]; exact hm) (fun j x hj => by
    rw [List.getElem?_map] at hj
    obtain ⟨y, hy, rfl⟩ := Option.map_eq_some_iff.1 hj
    obtain ⟨A, c, h1, h2, h3⟩ := hu.2 j y hy
    exact ⟨_, h1, A, c, rfl, h2, Kd.C_below h3 h.b⟩)
theorem info30b : (Try.prog.info? 30).map (fun i => (i.zero, i.size, i.bytes)) = some (some (.slice none 0 0), 1, 24) := by kernel_rfl
section
variable {ops : Array Oper} {rest : List Oper} {o : Oper} {a : Act} {Q : Exit → Act → World → Prop} {w W : World} {v1 v2 : Value} {l us : List Value}
theorem RQ.app1 (hgd : o.guard = none) (s x : Operand) (ho : o.op = .call { callee := .builtin .append, args := #[s, x], argTypes := #[51, 51] }) (hs : a.eval s = v1) (hx : a.eval x = .slice (some ⟨W.heap.size, 0, none⟩) 1 1) (h : RQ w W v1 v2 l us) (hl : l.length ≤ 1000000) (y : Value) (hy : y.oneCell' = true)
    (hK : ∀ v' w1, RQ w w1 v' v2 (l ++ [y]) us → wpList Try.prog ops Q rest (a.put o.dst v') w1) : wpList Try.prog ops Q (o :: rest) a (W.alloc (.cells #[y] 3)) := by
  refine print_append_cells (w0 := w) w.heap.size hgd s x 51 3 (.int .i64 0) 1 8 ho Try.underlying51 info3b rfl (by decide) (by decide) v1 l.length l [y] hs hx rfl (by simpa using hy) h.o1 h.b h.b.size (by omega) ?_
  intro v' w1 hown hb hg hat
  exact hK v' w1 ⟨hb, by rw [List.length_append]; exact hown, own_move h.o2 (fun k hk => hg.block k (own_lt h.o2 k hk) (own_ne h.o2 h.o1 (by decide) k hk))⟩
theorem RQ.app2 (hgd : o.guard = none) (s x : Operand) (ho : o.op = .call { callee := .builtin .append, args := #[s, x], argTypes := #[34, 34] }) (hs : a.eval s = v2) (hx : a.eval x = .slice (some ⟨W.heap.size, 0, none⟩) 1 1) (h : RQ w W v1 v2 l us) (hl : us.length ≤ 1000000) (y : Value) (hy : y.oneCell' = true)
    (hK : ∀ v' w1, RQ w w1 v1 v' l (us ++ [y]) → wpList Try.prog ops Q rest (a.put o.dst v') w1) : wpList Try.prog ops Q (o :: rest) a (W.alloc (.cells #[y] 30)) := by
  refine print_append_cells (w0 := w) w.heap.size hgd s x 34 30 (.slice none 0 0) 1 24 ho Try.underlying34 info30b rfl (by decide) (by decide) v2 us.length us [y] hs hx rfl (by simpa using hy) h.o2 h.b h.b.size (by omega) ?_
  intro v' w1 hown hb hg hat
  exact hK v' w1 ⟨hb, own_move h.o1 (fun k hk => hg.block k (own_lt h.o1 k hk) (own_ne h.o1 h.o2 (by decide) k hk)), by rw [List.length_append]; exact hown⟩
end
def zipD (es : List Int) (ds : List (List Int)) : List S111 := List.zipWith S111.mk es ds
theorem zip_rd {es : List Int} {ds : List (List Int)} {i : Nat} (h : i < es.length) (h2 : i < ds.length) : rd_T111 (zipD es ds) (i : Int) = ⟨rd es (i : Int), ro ds i⟩ := by
  unfold rd_T111 zipD rd ro
  rw [Int.toNat_natCast, List.getD_eq_getElem?_getD, List.getD_eq_getElem?_getD, List.getD_eq_getElem?_getD, List.getElem?_zipWith, List.getElem?_eq_getElem h, List.getElem?_eq_getElem h2]; rfl
theorem zip_len {es : List Int} {ds : List (List Int)} (h : es.length ≤ ds.length) : (zipD es ds).length = es.length := by unfold zipD; rw [List.length_zipWith]; omega
theorem not_any_rd {p : Int → Bool} {es : List Int} (h : ∀ j : Nat, j < es.length → p (rd es (j : Int)) = false) : es.any p = false := by
  refine List.any_eq_false.2 fun x hx => ?_
  obtain ⟨j, hj, rfl⟩ := List.getElem_of_mem hx
  have := h j hj
  unfold rd at this
  rw [Int.toNat_natCast, List.getD_eq_getElem?_getD, List.getElem?_eq_getElem hj] at this
  simpa using this
end Go.Proofs.Ytbfhinfblepidaa.Dr
