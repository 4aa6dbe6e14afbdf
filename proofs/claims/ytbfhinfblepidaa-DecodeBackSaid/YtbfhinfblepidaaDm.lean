/- The own rows and the set of numbers that decode.Block makes: what is so of them while they grow. Conditions: those that stand in the theorems. -/
import Derived.Test.YtbfhinfblepidaaCd
import Derived.Maps.Views
import Derived.Maps.OwnOps
namespace Go.Proofs.Ytbfhinfblepidaa.Dm
open Go.RowKit Go.Lib Go.Proofs.Ytbfhinfblepidaa.PDecodeTells Go.Proofs.YtbfhinfblepidaaW.PrintWords Go.Proofs.YtbfhinfblepidaaW.PrintLast Go.Proofs.YtbfhinfblepidaaW.PrintMore Go.Proofs.Ytbfhinfblepidaa.Mt
set_option linter.unusedVariables false
set_option linter.unusedSimpArgs false
theorem idx_sign {p : S111 → Bool} : ∀ (L : List S111) (i : Int), 0 ≤ i → decide (0 ≤ Cd.idx p L i) = L.any p
  | [], _, _ => rfl
  | r :: L, i, h => by
    unfold Cd.idx
    by_cases e : p r = true
    · rw [if_pos e, List.any_cons, e, decide_eq_true h]; rfl
    · rw [if_neg e, List.any_cons, idx_sign L (i + 1) (by omega)]
      rw [show p r = false from by simpa using e]; rfl
theorem VofC {t : Nat} {w : World} {A : Option Addr} {c : Nat} {L : List (List Int)} (hC : (Kd.slice 5 (Kd.int .u8)).C w A L.length L) (hc : L.length ≤ c) (base : Nat) : Kd.V (Kd.slice 5 (Kd.int .u8)) t w base (fun _ => True) (.slice A L.length c) L :=
  Kd.V_mono (Kd.V_mk hc (Kd.C_F (Kd.heap_slice 5 (Kd.heap_int .u8)) hC)) (fun _ _ => trivial)
def among (acc : List S111) (x : Int) : Bool := acc.any fun y => y.f0 == x
def pick (acc : List S111) (x : S111) : List S111 := if among acc x.f0 = true then acc else acc ++ [x]
def firsts (L : List S111) : List S111 := L.foldl pick []
theorem take_succ {L : List S111} {i : Nat} (h : i < L.length) : L.take (i + 1) = L.take i ++ [rd_T111 L (i : Int)] := by
  rw [List.take_succ_eq_append_getElem h]
  unfold rd_T111
  rw [Int.toNat_natCast, List.getD_eq_getElem?_getD, List.getElem?_eq_getElem h]; rfl
theorem firsts_succ {L : List S111} {i : Nat} (h : i < L.length) : firsts (L.take (i + 1)) = pick (firsts (L.take i)) (rd_T111 L (i : Int)) := by
  rw [take_succ h]; unfold firsts; rw [List.foldl_append]; rfl
theorem pick_len (acc : List S111) (x : S111) : (pick acc x).length ≤ acc.length + 1 := by unfold pick; split <;> simp
theorem firsts_le (L : List S111) : ∀ i, i ≤ L.length → (firsts (L.take i)).length ≤ i := by
  intro i
  induction i with
  | zero => intro _; rw [List.take_zero]; exact Nat.le_refl _
  | succ i ih => intro h; rw [firsts_succ (by omega)]; have := pick_len (firsts (L.take i)) (rd_T111 L (i : Int)); have := ih (by omega); omega
theorem lawK : Go.Maps.Keyed Try.prog 3 := Go.Maps.int_keyed Try.underlying3
set_option maxRecDepth 100000 in
theorem zeroB (w : World) : (zeroValue 4).run Try.prog w = .ok (.bool false) w := by kernel_rfl
theorem keyI {x : Int} (h : 0 ≤ x ∧ x < 16777216) : keyOf Try.prog 3 (.int .i64 x) = some (.int .i64 x) := Go.Maps.keyOf_int_mk Try.underlying3 (WalkArith.wf_i64 (by omega))
theorem plainElem_bool_inv {P : Program} {e : TypeId} (he : P.underlying e = some .bool) {v : Value} {z : DataW Unit × List MemPlace} (h : plainElem P e v = some z) : ∃ c, v = .bool c ∧ z = (.lit (.bool c), []) := by
  unfold plainElem at h
  split at h
  · cases h; exact ⟨_, rfl, rfl⟩
  · rename_i h1; rw [he] at h1; cases h1
  · rename_i h1; rw [he] at h1; cases h1
  · cases h
structure RS (B : Nat) (wM W : World) (v1 v2 : Value) (l us : List Value) (am : List S111) (n : Nat) : Prop where
  b : Below B wM W
  sz : B < W.heap.size
  o1 : W.ownsRow B 3 1 v1 l.length l
  o2 : W.ownsRow B 31 1 v2 us.length us
  mp : ∃ D : DataW Unit, W.ownsMap Try.prog 3 (plainElem Try.prog 4) B n D ∧ ∀ x : Int, D.atKey (.int .i64 x) (.lit (.bool false)) = .lit (.bool (among am x))
theorem RS.made (w : World) : RS w.heap.size w (w.alloc (.map #[] 0)) (.slice none 0 0) (.slice none 0 0) [] [] [] 0 :=
  ⟨(Below.refl _ _).alloc (Nat.le_refl _) _, by simp, ⟨rfl, .inl ⟨rfl, rfl⟩⟩, ⟨rfl, .inl ⟨rfl, rfl⟩⟩, .map [], World.ownsMap_made _ _ _ _, fun x => rfl⟩
theorem own_type {W : World} {B e : Nat} {v : Value} {n : Nat} {l : List Value} (h : W.ownsRow B e 1 v n l) {k : Nat} {o : Obj} (hk : W.heap[k]? = some o) (hne : ∀ cells, o ≠ Obj.cells cells e (0, 0)) : some k ≠ v.ownBlock := by
  intro e1
  obtain ⟨cells, hc⟩ := own_typed h k e1.symm
  rw [hk] at hc
  exact hne cells (Option.some.inj hc)
theorem own_ne {W : World} {B e e' : Nat} {v v' : Value} {n n' : Nat} {l l' : List Value} (h : W.ownsRow B e 1 v n l) (h' : W.ownsRow B e' 1 v' n' l') (hne : e ≠ e') : ∀ k, v.ownBlock = some k → some k ≠ v'.ownBlock := by
  intro k hk
  obtain ⟨cells, hc⟩ := own_typed h k hk
  exact own_type h' hc (by intro c h2; injection h2 with _ h2; exact hne h2)
section
variable {B : Nat} {wM W W1 : World} {v1 v2 : Value} {l us : List Value} {am : List S111} {n : Nat}
theorem RS.alloc (h : RS B wM W v1 v2 l us am n) (o : Obj) : RS B wM (W.alloc o) v1 v2 l us am n := by
  obtain ⟨D, hD, hm⟩ := h.mp
  exact ⟨h.b.alloc (Nat.le_of_lt h.sz) o, by simp; have := h.sz; omega, h.o1.alloc _, h.o2.alloc _, D, hD.alloc _, hm⟩
theorem RS.drew (h : RS B wM W v1 v2 l us am n) : RS B wM W.drew v1 v2 l us am n := by
  obtain ⟨D, hD, hm⟩ := h.mp
  exact ⟨below_drew h.b, h.sz, h.o1, h.o2, D, hD.drew, hm⟩
theorem RS.kept (h : RS B wM W v1 v2 l us am n) (hb : Below W.heap.size W W1) : RS B wM W1 v1 v2 l us am n := by
  obtain ⟨D, hD, hm⟩ := h.mp
  have hg : W.grownBy W1 none := ⟨hb.os, hb.tape, hb.output, hb.size, fun k hk _ => hb.block k hk⟩
  exact ⟨below_then h.b (Nat.le_of_lt h.sz) hb, Nat.lt_of_lt_of_le h.sz hb.size, own_move h.o1 (fun k hk => hb.block k (own_lt h.o1 k hk)), own_move h.o2 (fun k hk => hb.block k (own_lt h.o2 k hk)), D, hD.kept hg (by simp), hm⟩
theorem RS.set (h : RS B wM W v1 v2 l us am n) {g : Nat} {cs : Array Value} {t : Nat} (hg : W.heap[g]? = some (.cells cs t (0, 0))) (hB : B ≤ g) (h3 : t ≠ 3) (h31 : t ≠ 31) (j : Nat) (u : Value) : RS B wM (W.setCell ⟨g, j, none⟩ u) v1 v2 l us am n := by
  obtain ⟨D, hD, hm⟩ := h.mp
  have hne : B ≠ g := by
    intro e
    obtain ⟨es, cl, hb, _⟩ := hD
    rw [e, hg] at hb
    cases hb
  have hgr : W.grownBy (W.setCell ⟨g, j, none⟩ u) (some g) := by
    exact ⟨rfl, rfl, rfl, by rw [World.size_setCell]; exact Nat.le_refl _, fun k _ hk => Below.heap_setCell W _ u k (fun e => hk (by rw [e]))⟩
  refine ⟨h.b.grown hgr (Nat.le_of_lt h.sz) (fun k e => by injection e with e; omega), by have := h.sz; have := hgr.size; omega, ?_, ?_, D, hD.kept hgr (by simpa using hne), hm⟩
  · exact own_move h.o1 (fun k hk => hgr.block k (own_lt h.o1 k hk) (by intro e; injection e with e; subst e; exact own_type h.o1 hg (by intro c e2; injection e2 with _ e2; exact h3 e2) hk.symm))
  · exact own_move h.o2 (fun k hk => hgr.block k (own_lt h.o2 k hk) (by intro e; injection e with e; subst e; exact own_type h.o2 hg (by intro c e2; injection e2 with _ e2; exact h31 e2) hk.symm))
theorem info3b : (Try.prog.info? 3).map (fun i => (i.zero, i.size, i.bytes)) = some (some (.int .i64 0), 1, 8) := by kernel_rfl
theorem info31b : (Try.prog.info? 31).map (fun i => (i.zero, i.size, i.bytes)) = some (some (.slice none 0 0), 1, 24) := by kernel_rfl
theorem RS.app1 (h : RS B wM W v1 v2 l us am n) {gl : Nat} {y : Value} (hlit : W.heap[gl]? = some (.cells #[y] 3 (0, 0))) (hy : y.oneCell' = true) (hl : l.length ≤ 1000000) :
    ∃ v' w1, (Builtin.append_ #[51, 51] 51 #[v1, .slice (some ⟨gl, 0, none⟩) 1 1]).run Try.prog W = .ok v' w1 ∧ RS B wM w1 v' v2 (l ++ [y]) us am n ∧ ∀ (k : Nat) (o : Obj), W.heap[k]? = some o → (∀ c, o ≠ Obj.cells c 3 (0, 0)) → w1.heap[k]? = some o := by
  obtain ⟨i0, hi, hzz⟩ := Option.map_eq_some_iff.1 info3b
  simp only [Prod.mk.injEq] at hzz
  obtain ⟨hz0, hz1, hz2⟩ := hzz
  obtain ⟨D, hD, hm⟩ := h.mp
  obtain ⟨v', w1, hr, hown, hg, _, hat⟩ := run_append_own_at (P := Try.prog) W B 51 51 3 i0 _ 1 8 Try.underlying51 hi hz0 hz1 hz2 rfl (by decide) v1 l.length l h.o1 ⟨gl, 0, none⟩ 1 1 [y] rfl
    (by simpa using World.news_of_block (cs := #[y]) (t := 3) (fr := (0, 0)) hlit) (by simpa using hy) (by simp only [maxLen]; omega) (by omega) (Nat.le_of_lt h.sz)
  have hk : ∀ (k : Nat) (o : Obj), W.heap[k]? = some o → (∀ c, o ≠ Obj.cells c 3 (0, 0)) → w1.heap[k]? = some o := fun k o hk hne => (hg.block k (Array.getElem?_eq_some_iff.1 hk).1 (own_type h.o1 hk hne)).trans hk
  refine ⟨v', w1, hr, ⟨h.b.grown hg (Nat.le_of_lt h.sz) (own_base h.o1), Nat.lt_of_lt_of_le h.sz hg.size, by rw [List.length_append]; exact hown, own_move h.o2 (fun k hk2 => hg.block k (own_lt h.o2 k hk2) (own_ne h.o2 h.o1 (by decide) k hk2)), D, hD.kept hg ?_, hm⟩, hk⟩
  obtain ⟨es, cl, hb, _⟩ := hD
  exact own_type h.o1 hb (fun c e => by cases e)
theorem RS.app2 (h : RS B wM W v1 v2 l us am n) {gl : Nat} {y : Value} (hlit : W.heap[gl]? = some (.cells #[y] 31 (0, 0))) (hy : y.oneCell' = true) (hl : us.length ≤ 1000000) :
    ∃ v' w1, (Builtin.append_ #[28, 28] 28 #[v2, .slice (some ⟨gl, 0, none⟩) 1 1]).run Try.prog W = .ok v' w1 ∧ RS B wM w1 v1 v' l (us ++ [y]) am n ∧ ∀ (k : Nat) (o : Obj), W.heap[k]? = some o → (∀ c, o ≠ Obj.cells c 31 (0, 0)) → w1.heap[k]? = some o := by
  obtain ⟨i0, hi, hzz⟩ := Option.map_eq_some_iff.1 info31b
  simp only [Prod.mk.injEq] at hzz
  obtain ⟨hz0, hz1, hz2⟩ := hzz
  obtain ⟨D, hD, hm⟩ := h.mp
  obtain ⟨v', w1, hr, hown, hg, _, hat⟩ := run_append_own_at (P := Try.prog) W B 28 28 31 i0 _ 1 24 Try.underlying28 hi hz0 hz1 hz2 rfl (by decide) v2 us.length us h.o2 ⟨gl, 0, none⟩ 1 1 [y] rfl
    (by simpa using World.news_of_block (cs := #[y]) (t := 31) (fr := (0, 0)) hlit) (by simpa using hy) (by simp only [maxLen]; omega) (by omega) (Nat.le_of_lt h.sz)
  have hk : ∀ (k : Nat) (o : Obj), W.heap[k]? = some o → (∀ c, o ≠ Obj.cells c 31 (0, 0)) → w1.heap[k]? = some o := fun k o hk hne => (hg.block k (Array.getElem?_eq_some_iff.1 hk).1 (own_type h.o2 hk hne)).trans hk
  refine ⟨v', w1, hr, ⟨h.b.grown hg (Nat.le_of_lt h.sz) (own_base h.o2), Nat.lt_of_lt_of_le h.sz hg.size, own_move h.o1 (fun k hk2 => hg.block k (own_lt h.o1 k hk2) (own_ne h.o1 h.o2 (by decide) k hk2)), by rw [List.length_append]; exact hown, D, hD.kept hg ?_, hm⟩, hk⟩
  obtain ⟨es, cl, hb, _⟩ := hD
  exact own_type h.o2 hb (fun c e => by cases e)
end
section
variable {P : Program} {ops : Array Oper} {rest : List Oper} {o : Oper} {a : Act} {Q : Exit → Act → World → Prop} {K : Act → World → Prop} {B : Nat} {wM W w1 : World} {v1 v2 : Value} {l us : List Value} {am : List S111} {n : Nat}
theorem app_step (hw : Region.wanted o (yielded ops a.tmps) = true) (s x : Operand) (t : TypeId) (ho : o.op = .call { callee := .builtin .append, args := #[s, x], argTypes := #[t, t] }) {u v v' : Value} (hs : a.eval s = u) (hx : a.eval x = v)
    (hr : (Builtin.append_ #[t, t] o.type #[u, v]).run P W = .ok v' w1) (h : K (a.put o.dst v') w1) :
    if Region.wanted o (yielded ops a.tmps) = true then Oper.wp P o a W K Q else K (a.put o.dst undef) W := by
  rw [if_pos hw]
  unfold Oper.wp execOp
  simp only [ho, resolve, invoke, builtin, Sem.run_bind, Sem.run_pure, Result.andThen_ok, List.map_toArray, List.map_cons, List.map_nil, hs, hx, hr]
  exact h
theorem askAt (h : RS B wM W v1 v2 l us am n) (hg : o.guard = none) (m x : Operand) (hop : o.op = Op.lookup 114 m x false) (hm : a.eval m = .map (some B)) (e : Int) (hx : a.eval x = .int .i64 e) (he : 0 ≤ e ∧ e < 16777216)
    (hK : wpList Try.prog ops Q rest (a.put o.dst (.bool (among am e))) W) : wpList Try.prog ops Q (o :: rest) a W := by
  obtain ⟨D, hD, hmp⟩ := h.mp
  refine wpList_plain hg fun K' hK' => ?_
  obtain ⟨v, ps, hrun, hv⟩ := hD.lookup lawK Try.underlying114 (zeroB W) (plainElem_bool Try.underlying4 false) (keyI he)
  obtain ⟨c, rfl, hc⟩ := plainElem_bool_inv Try.underlying4 hv
  simp only [Prod.mk.injEq] at hc
  have hc1 := hc.1
  rw [hmp] at hc1
  injection hc1 with hc1
  injection hc1 with hc1
  subst hc1
  unfold Oper.wp
  simp [execOp, hop, hm, hx, hrun, Result.andThen]
  exact hK' _ _ hK
theorem layAt (h : RS B wM W v1 v2 l us am n) (hg : o.guard = none) (m x v : Operand) (hop : o.op = Op.mapUpdate 114 m x v) (hm : a.eval m = .map (some B)) (y : S111) (hx : a.eval x = .int .i64 y.f0) (hv : a.eval v = .bool true) (he : 0 ≤ y.f0 ∧ y.f0 < 16777216) (hn : n < 2000000)
    (hK : ∀ w', RS B wM w' v1 v2 l us (am ++ [y]) (n + 1) → (∀ (k : Nat) (o : Obj), W.heap[k]? = some o → (∃ c t, o = Obj.cells c t (0, 0)) → w'.heap[k]? = some o) → wpList Try.prog ops Q rest (a.put o.dst undef) w') : wpList Try.prog ops Q (o :: rest) a W := by
  obtain ⟨D, hD, hmp⟩ := h.mp
  refine wpList_mapUpdate_own W hg m x v 114 hop 3 4 lawK Try.underlying114 _ B n D hm hD (by simp only [maxLen]; omega) _ _ _ hx hv (keyI he) _ [] (plainElem_bool Try.underlying4 true) fun w' hD' hgr => ?_
  have hne : ∀ (k : Nat) (o : Obj), W.heap[k]? = some o → (∃ c t, o = Obj.cells c t (0, 0)) → k ≠ B := by
    rintro k o hk ⟨c, t, rfl⟩ e
    obtain ⟨es, cl, hb, _⟩ := hD
    rw [e, hb] at hk
    cases hk
  have hn2 : ∀ {e : Nat} {u : Value} {l : List Value} {j : Nat}, W.ownsRow B e 1 u j l → ∀ k, u.ownBlock = some k → w'.heap[k]? = W.heap[k]? := fun {e u l j} hu k hk => by
    obtain ⟨cells, hc⟩ := own_typed hu k hk
    exact hgr.block k (own_lt hu k hk) (fun e1 => hne k _ hc ⟨_, _, rfl⟩ (Option.some.inj e1))
  refine hK w' ⟨h.b.grown hgr (Nat.le_of_lt h.sz) (fun k e => by injection e with e; omega), Nat.lt_of_lt_of_le h.sz hgr.size, own_move h.o1 (hn2 h.o1), own_move h.o2 (hn2 h.o2), _, hD', fun z => ?_⟩ (fun k o hk ho => (hgr.block k (Array.getElem?_eq_some_iff.1 hk).1 (fun e1 => hne k o hk ho (Option.some.inj e1))).trans hk)
  have hmap : Go.Maps.IsMap D := by obtain ⟨es, cl, _, _, _, hd⟩ := hD; exact ⟨_, hd⟩
  by_cases e : z = y.f0
  · subst e
    rw [Go.Maps.atKey_put_same hmap (show Go.WideAt.IsKeyLit (.int .i64 y.f0) from trivial)]
    unfold among
    rw [List.any_append]
    simp
  · rw [Go.Maps.atKey_put_other (by intro h2; injection h2 with _ h2; exact e h2), hmp]
    unfold among
    rw [List.any_append]
    have : (y.f0 == z) = false := beq_eq_false_iff_ne.2 (fun h => e h.symm)
    simp [this]
end
def Us (w : World) (us : List Value) (acc : List S111) : Prop := us.length = acc.length ∧ ∀ (j : Nat) (x : S111), acc[j]? = some x → ∃ A c, us[j]? = some (.slice A x.f1.length c) ∧ x.f1.length ≤ c ∧ RowC w A x.f1
theorem Us.nil (w : World) : Us w [] [] := ⟨rfl, fun j x h => by simp at h⟩
theorem Us.snoc {w : World} {us : List Value} {acc : List S111} (h : Us w us acc) {x : S111} {A : Option Addr} {c : Nat} (hl : x.f1.length ≤ c) (hC : RowC w A x.f1) : Us w (us ++ [.slice A x.f1.length c]) (acc ++ [x]) := by
  refine ⟨by simp [h.1], fun j y hj => ?_⟩
  by_cases e : j < acc.length
  · rw [List.getElem?_append_left e] at hj
    rw [List.getElem?_append_left (by rw [h.1]; exact e)]
    exact h.2 j y hj
  · rw [List.getElem?_append_right (by omega)] at hj
    rw [List.getElem?_append_right (by rw [h.1]; omega), h.1]
    rcases hd : j - acc.length with _ | m
    · rw [hd] at hj
      simp at hj
      subst hj
      exact ⟨A, c, rfl, hl, hC⟩
    · rw [hd] at hj; simp at hj
theorem own_C {α : Type} {d : Kd α} (h1 : d.sz = 1) {W : World} {B e n : Nat} {v : Value} {vs : List Value} (h : W.ownsRow B e 1 v n vs) {L : List α} (hl : L.length = n) (hm : n ≤ 1000000) (hK : ∀ (j : Nat) (x : α), L[j]? = some x → ∃ u, vs[j]? = some u ∧ d.K W x [u]) :
    ∃ A c, v = .slice A L.length c ∧ L.length ≤ c ∧ d.C W A L.length L := by
  subst hl
  rcases h.2 with ⟨rfl, h0⟩ | ⟨g, cap, cur, rfl, hg, hb, hc, hcm, hs, ht⟩
  · refine ⟨none, 0, by rw [h0], by omega, rfl, by omega, fun h => by omega⟩
  · refine ⟨_, _, rfl, hc, rfl, by omega, fun _ => ⟨_, rfl, fun j x hj => ?_⟩⟩
    obtain ⟨u, hu, hku⟩ := hK j x hj
    refine ⟨[u], by rw [h1]; rfl, hku, fun i u' hi => ?_⟩
    rcases i with _ | i
    · simp at hi
      subst hi
      rw [h1, add_at', Nat.zero_add, Nat.mul_one, Nat.add_zero]
      have hjl : j < L.length := (List.getElem?_eq_some_iff.1 hj).1
      rw [← ht, List.getElem?_take, if_pos (by omega)] at hu
      exact (blk_cell hb j).trans (by simpa using hu)
    · simp at hi
theorem RS.nums {B : Nat} {wM W : World} {v1 v2 : Value} {us : List Value} {am acc : List S111} {n : Nat} (h : RS B wM W v1 v2 (acc.map fun x => .int .i64 x.f0) us am n) (hm : acc.length ≤ 1000000) :
    ∃ A c, v1 = .slice A (acc.map (·.f0)).length c ∧ (acc.map (·.f0)).length ≤ c ∧ (Kd.int .i64).C W A (acc.map (·.f0)).length (acc.map (·.f0)) :=
  own_C rfl h.o1 (by simp) (by simpa using hm) (fun j x hj => ⟨.int .i64 x, by rw [List.getElem?_map] at hj ⊢; obtain ⟨y, hy, rfl⟩ := Option.map_eq_some_iff.1 hj; rw [hy]; rfl, rfl⟩)
theorem RS.rows {B : Nat} {w wM W : World} {v1 v2 : Value} {l us : List Value} {am acc : List S111} {n : Nat} (h : RS B wM W v1 v2 l us am n) (hu : Us w us acc) (hb : Below w.heap.size w W) (hm : acc.length ≤ 1000000) :
    ∃ A c, v2 = .slice A (acc.map (·.f1)).length c ∧ (acc.map (·.f1)).length ≤ c ∧ (Kd.slice 5 (Kd.int .u8)).C W A (acc.map (·.f1)).length (acc.map (·.f1)) :=
  own_C rfl h.o2 (by simp [hu.1]) (by rw [hu.1]; exact hm) (fun j x hj => by
    rw [List.getElem?_map] at hj
    obtain ⟨y, hy, rfl⟩ := Option.map_eq_some_iff.1 hj
    obtain ⟨A, c, h1, h2, h3⟩ := hu.2 j y hy
    exact ⟨_, h1, A, c, rfl, h2, Kd.C_below h3 hb⟩)
end Go.Proofs.Ytbfhinfblepidaa.Dm
