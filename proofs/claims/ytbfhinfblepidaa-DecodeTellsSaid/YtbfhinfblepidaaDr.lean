/- The document's Decode. Conditions: those that stand in the theorems. -/
import Derived.Test.YtbfhinfblepidaaDm
import Derived.Test.YtbfhinfblepidaaPBlockTellsx
import Derived.Test.YtbfhinfblepidaaRsSolveTells
namespace Go.Proofs.Ytbfhinfblepidaa.Dr
open Go.RowKit Go.Lib Go.Proofs.Ytbfhinfblepidaa.PSolveTells Go.Proofs.Ytbfhinfblepidaa.PSeedTells Go.Proofs.Ytbfhinfblepidaa.PBlockTells Go.Proofs.Ytbfhinfblepidaa.PDecodeTells Go.Proofs.YtbfhinfblepidaaW.PrintWords Go.Proofs.YtbfhinfblepidaaW.PrintLast Go.Proofs.YtbfhinfblepidaaW.PrintMore Go.Proofs.Ytbfhinfblepidaa.Mt Go.Proofs.Ytbfhinfblepidaa.Dm
set_option linter.unusedVariables false
set_option linter.unusedSimpArgs false
structure RQ (w W : World) (v1 v2 : Value) (l us : List Value) : Prop where
  b : Below w.heap.size w W
  o1 : W.ownsRow w.heap.size 3 1 v1 l.length l
  o2 : W.ownsRow w.heap.size 30 1 v2 us.length us
theorem RQ.none_ {w W : World} (h : Below w.heap.size w W) : RQ w W (.slice none 0 0) (.slice none 0 0) [] [] := ⟨h, ⟨rfl, .inl ⟨rfl, rfl⟩⟩, ⟨rfl, .inl ⟨rfl, rfl⟩⟩⟩
theorem RQ.kept {w W W1 : World} {v1 v2 : Value} {l us : List Value} (h : RQ w W v1 v2 l us) (hb : Below W.heap.size W W1) : RQ w W1 v1 v2 l us :=
  ⟨below_step h.b hb, own_move h.o1 (fun k hk => hb.block k (own_lt h.o1 k hk)), own_move h.o2 (fun k hk => hb.block k (own_lt h.o2 k hk))⟩
theorem RQ.nums {w W : World} {v1 v2 : Value} {us : List Value} {acc : List S111} (h : RQ w W v1 v2 (acc.map fun x => .int .i64 x.f0) us) (hm : acc.length ≤ 1000000) :
    ∃ A c, v1 = .slice A (acc.map (·.f0)).length c ∧ (acc.map (·.f0)).length ≤ c ∧ (Kd.int .i64).C W A (acc.map (·.f0)).length (acc.map (·.f0)) :=
  own_C rfl h.o1 (by simp) (by simpa using hm) (fun j x hj => ⟨.int .i64 x, by rw [List.getElem?_map] at hj ⊢; obtain ⟨y, hy, rfl⟩ := Option.map_eq_some_iff.1 hj; rw [hy]; rfl, rfl⟩)
theorem RQ.rows {w W : World} {v1 v2 : Value} {l us : List Value} {acc : List S111} (h : RQ w W v1 v2 l us) (hu : Us w us acc) (hm : acc.length ≤ 1000000) :
    ∃ A c, v2 = .slice A (acc.map (·.f1)).length c ∧ (acc.map (·.f1)).length ≤ c ∧ (Kd.slice 5 (Kd.int .u8)).C W A (acc.map (·.f1)).length (acc.map (·.f1)) :=
  own_C rfl h.o2 (by simp [hu.1]) (by rw [hu.1]; exact hm) (fun j x hj => by
    rw [List.getElem?_map] at hj
    obtain ⟨y, hy, rfl⟩ := Option.map_eq_some_iff.1 hj
    obtain ⟨A, c, h1, h2, h3⟩ := hu.2 j y hy
    exact ⟨_, h1, A, c, rfl, h2, Kd.C_below h3 h.b⟩)
theorem info30b : (Try.prog.info? 30).map (fun i => (i.zero, i.size, i.bytes)) = some (some (.slice none 0 0), 1, 24) := by kernel_rfl
section
variable {ops : Array Oper} {rest : List Oper} {o : Oper} {a : Act} {Q : Exit → Act → World → Prop} {w W : World} {v1 v2 : Value} {l us : List Value}
theorem RQ.app1 (hgd : o.guard = none) (s x : Operand) (ho : o.op = .call { callee := .builtin .append, args := #[s, x], argTypes := #[51, 51] }) (hs : a.eval s = v1) (hx : a.eval x = .slice (some ⟨W.heap.size, 0, none⟩) 1 1) (h : RQ w W v1 v2 l us) (hl : l.length ≤ 1000000) (y : Value) (hy : y.oneCell' = true)
    (hK : ∀ v' w1, RQ w w1 v' v2 (l ++ [y]) us → wpList Try.prog ops Q rest (a.put o.dst v') w1) : wpList Try.prog ops Q (o :: rest) a (W.alloc (.cells #[y] 3)) := by
  refine print_append_cells (w0 := w) w.heap.size hgd s x 51 3 (.int .i64 0) 1 8 ho Try.underlying51 info3b rfl (by decide) (by decide) v1 l.length l [y] hs hx rfl (by simpa using hy) h.o1 h.b h.b.size (by omega) ?_
  intro v' w1 hown hb hg hat
  exact hK v' w1 ⟨hb, by rw [List.length_append]; exact hown, own_move h.o2 (fun k hk => hg.block k (own_lt h.o2 k hk) (own_ne h.o2 h.o1 (by decide) k hk))⟩
theorem RQ.app2 (hgd : o.guard = none) (s x : Operand) (ho : o.op = .call { callee := .builtin .append, args := #[s, x], argTypes := #[34, 34] }) (hs : a.eval s = v2) (hx : a.eval x = .slice (some ⟨W.heap.size, 0, none⟩) 1 1) (h : RQ w W v1 v2 l us) (hl : us.length ≤ 1000000) (y : Value) (hy : y.oneCell' = true)
    (hK : ∀ v' w1, RQ w w1 v1 v' l (us ++ [y]) → wpList Try.prog ops Q rest (a.put o.dst v') w1) : wpList Try.prog ops Q (o :: rest) a (W.alloc (.cells #[y] 30)) := by
  refine print_append_cells (w0 := w) w.heap.size hgd s x 34 30 (.slice none 0 0) 1 24 ho Try.underlying34 info30b rfl (by decide) (by decide) v2 us.length us [y] hs hx rfl (by simpa using hy) h.o2 h.b h.b.size (by omega) ?_
  intro v' w1 hown hb hg hat
  exact hK v' w1 ⟨hb, own_move h.o1 (fun k hk => hg.block k (own_lt h.o1 k hk) (own_ne h.o1 h.o2 (by decide) k hk)), by rw [List.length_append]; exact hown⟩
end
def zipD (es : List Int) (ds : List (List Int)) : List S111 := List.zipWith S111.mk es ds
theorem zip_rd {es : List Int} {ds : List (List Int)} {i : Nat} (h : i < es.length) (h2 : i < ds.length) : rd_T111 (zipD es ds) (i : Int) = ⟨rd es (i : Int), ro ds i⟩ := by
  unfold rd_T111 zipD rd ro
  rw [Int.toNat_natCast, List.getD_eq_getElem?_getD, List.getD_eq_getElem?_getD, List.getD_eq_getElem?_getD, List.getElem?_zipWith, List.getElem?_eq_getElem h, List.getElem?_eq_getElem h2]; rfl
theorem zip_len {es : List Int} {ds : List (List Int)} (h : es.length ≤ ds.length) : (zipD es ds).length = es.length := by unfold zipD; rw [List.length_zipWith]; omega
noncomputable def rdrops (k : Nat) (K j z : Int) (c : List (List Int)) : Nat → Int → List (List Int) → Option (List (List Int))
  | 0, _, acc => some acc
  | n + 1, i, acc => (fountainref1_Drop.f k K j z c i).bind fun r => rdrops k K j z c n (i + 1) (acc ++ [r])
noncomputable def rdec.f (k : Nat) (K z : Int) (es : List Int) (ds : List (List Int)) : Option (List (List Int) × Int) :=
  if 1000000 < es.length ∨ ds.length < es.length then none else
  if K < 1 ∨ 40 < K ∨ z < 1 ∨ 64 < z then some ([], 1) else if es.any Cd.bad = true then some ([], 1) else if (zipD es ds).any (Cd.odd z) = true then some ([], 10) else
  (fountainref1_Seed.f k K).bind fun s => if s.2 ≠ 0 then some ([], s.2) else
  (fountainref1_L.f K).bind fun l => (fountainref1_Matrix.f k K s.1 ((firsts (zipD es ds)).map (·.f0))).bind fun m => (fountainref1_zero.f k K z ((firsts (zipD es ds)).map (·.f1))).bind fun d =>
  (RsSolveTells.rsolve.f k l z m d).bind fun q => if q.2 ≠ 0 then some ([], q.2) else (rdrops k K s.1 z q.1 K.toNat 0 []).bind fun o => some (o, 0)
theorem any_rd {p : Int → Bool} {es : List Int} (i : Nat) (h : i < es.length) (hp : p (rd es (i : Int)) = true) : es.any p = true := List.any_eq_true.2 ⟨rd es (i : Int), by unfold rd; rw [Int.toNat_natCast, List.getD_eq_getElem?_getD, List.getElem?_eq_getElem h]; exact List.getElem_mem _, hp⟩
theorem not_any_rd {p : Int → Bool} {es : List Int} (h : ∀ j : Nat, j < es.length → p (rd es (j : Int)) = false) : es.any p = false := by
  refine List.any_eq_false.2 fun x hx => ?_
  obtain ⟨j, hj, rfl⟩ := List.getElem_of_mem hx
  have := h j hj
  unfold rd at this
  rw [Int.toNat_natCast, List.getD_eq_getElem?_getD, List.getElem?_eq_getElem hj] at this
  simpa using this
theorem any_T {p : S111 → Bool} {L : List S111} (i : Nat) (h : i < L.length) (hp : p (rd_T111 L (i : Int)) = true) : L.any p = true := List.any_eq_true.2 ⟨rd_T111 L (i : Int), by unfold rd_T111; rw [Int.toNat_natCast, List.getD_eq_getElem?_getD, List.getElem?_eq_getElem h]; exact List.getElem_mem _, hp⟩
theorem not_any_T {p : S111 → Bool} {L : List S111} (h : ∀ j : Nat, j < L.length → p (rd_T111 L (j : Int)) = false) : L.any p = false := by
  refine List.any_eq_false.2 fun x hx => ?_
  obtain ⟨j, hj, rfl⟩ := List.getElem_of_mem hx
  have := h j hj
  unfold rd_T111 at this
  rw [Int.toNat_natCast, List.getD_eq_getElem?_getD, List.getElem?_eq_getElem hj] at this
  simpa using this
set_option maxHeartbeats 8000000 in
set_option maxRecDepth 100000 in
theorem rdec.calls (k : Nat) (K0 z : Int) (A1 : Option Addr) (c1 : Nat) (es : List Int) (A2 : Option Addr) (c2 : Nat) (ds : List (List Int)) (r : List (List Int) × Int) (w : World) (hE : (Kd.int .i64).C w A1 es.length es) (hcE : es.length ≤ c1)
    (hD : (Kd.slice 5 (Kd.int .u8)).C w A2 ds.length ds) (hcD : ds.length ≤ c2) (h : rdec.f k K0 z es ds = some r) :
    Calls Try.prog 57 #[.int .i64 K0, .int .i64 z, .slice A1 es.length c1, .slice A2 ds.length c2] w fun e w' => ∃ v0_ : Value, e = .returned (.tuple #[v0_, .int .i64 r.2]) ∧ Kd.S (Kd.slice 5 (Kd.int .u8)) 30 w' w.heap.size (fun _ => True) v0_ r.1 ∧ Below w.heap.size w w' := by
  unfold rdec.f at h
  by_cases q0 : 1000000 < es.length ∨ ds.length < es.length
  · rw [if_pos q0] at h; cases h
  rw [if_neg q0] at h
  have hbig : es.length ≤ 1000000 := by omega
  have EL := Aside0.mk hbig
  have ED := Aside0.mk (show es.length ≤ ds.length by omega)
  have HE := Aside0.mk hE
  have LE := Aside0.mk hcE
  have HD := Aside0.mk hD
  have LD := Aside0.mk hcD
  have HB := Aside0.mk (Below.refl w.heap.size w)
  clear q0 hE hcE hD hcD
  by_cases q1 : K0 < 1 ∨ 40 < K0 ∨ z < 1 ∨ 64 < z
  · rw [if_pos q1] at h
    obtain rfl := Option.some.inj h
    clear h
    by_cases q2 : K0 < 1
    · clear q1
      go_enter Try.func57, Try.ntmps57
      go_wp2
      go_ret2
      exact ⟨_, rfl, Kd.S_nil _ _ _ _ _, bel⟩
    by_cases q3 : 40 < K0
    · clear q1
      go_enter Try.func57, Try.ntmps57
      go_wp2
      go_ret2
      exact ⟨_, rfl, Kd.S_nil _ _ _ _ _, bel⟩
    by_cases q4 : z < 1
    · clear q1
      go_enter Try.func57, Try.ntmps57
      go_wp2
      go_ret2
      exact ⟨_, rfl, Kd.S_nil _ _ _ _ _, bel⟩
    have q5 : 64 < z := by omega
    clear q1
    go_enter Try.func57, Try.ntmps57
    go_wp2
    go_ret2
    exact ⟨_, rfl, Kd.S_nil _ _ _ _ _, bel⟩
  rw [if_neg q1] at h
  have q2 : ¬ K0 < 1 := by omega
  have q3 : ¬ 40 < K0 := by omega
  have q4 : ¬ z < 1 := by omega
  have q5 : ¬ 64 < z := by omega
  have HH := Aside0.mk h
  clear q1 h
  go_enter Try.func57, Try.ntmps57
  go_wp2
  go_loopg [10] es.length (fun gg v10 wr => ∃ i : Nat, v10 = .int .i64 (i : Int) ∧ Aside0 (i + gg = es.length) ∧ Aside0 (∀ j : Nat, j < i → Cd.bad (rd es (j : Int)) = false) ∧ Aside0 (Below w.heap.size w wr))
  case atStart => exact ⟨0, by simp, ⟨Nat.zero_add _⟩, ⟨fun j hj => absurd hj (Nat.not_lt_zero _)⟩, ⟨bel⟩⟩
  case round =>
    clear HB
    obtain ⟨i, rfl, E1, EV, HB⟩ := hrel
    cases gk with
    | succ d =>
      have hz : (i : Int) < (es.length : Int) := by have := E1.out; omega
      obtain ⟨ad, e, x0⟩ := Kd.at_int (Kd.C_below HE.out HB.out) (i : Int) (by omega) (by omega)
      cases e
      rw [Int.toNat_natCast] at x0
      obtain ⟨e, he⟩ : ∃ e, rd es (i : Int) = e := ⟨_, rfl⟩
      rw [he] at x0
      have RE := Aside0.mk he
      clear he
      by_cases p1 : e < 0
      · have h := HH.out
        rw [if_pos (any_rd i (by omega) (by rw [RE.out]; unfold Cd.bad; rw [decide_eq_true p1]; rfl))] at h
        obtain rfl := Option.some.inj h
        clear h HH
        go_wp2
        go_ret2
        exact ⟨_, rfl, Kd.S_nil _ _ _ _ _, bel⟩
      by_cases p2 : 16777216 ≤ e
      · have h := HH.out
        rw [if_pos (any_rd i (by omega) (by rw [RE.out]; unfold Cd.bad; rw [decide_eq_true p2, Bool.or_true]))] at h
        obtain rfl := Option.some.inj h
        clear h HH
        go_wp2
        go_ret2
        exact ⟨_, rfl, Kd.S_nil _ _ _ _ _, bel⟩
      have OD := Aside0.mk (show Cd.bad e = false by unfold Cd.bad; rw [decide_eq_false p1, decide_eq_false p2]; rfl)
      go_wp2
      go_roundg d
      case measure => omega
      case rel => exact ⟨i + 1, by go_num, ⟨by have := E1.out; omega⟩, ⟨fun j hj => by
        by_cases e : j = i
        · subst e; rw [RE.out]; exact OD.out
        · exact EV.out j (by omega)⟩, ⟨bel⟩⟩
    | zero =>
      have hz : ¬ (i : Int) < (es.length : Int) := by have := E1.out; omega
      have h := HH.out
      rw [not_any_rd (fun j hj => EV.out j (by have := E1.out; omega)), if_neg (by decide)] at h
      clear HH E1
      have HH := Aside0.mk h
      clear h
      go_wp2
      go_loopg [11, 12, 13] es.length (fun gg v11 v12 v13 wr => ∃ (i : Nat) (acc : List S111) (us : List Value), v13 = .int .i64 (i : Int) ∧ Aside0 (i + gg = es.length) ∧ Aside0 (firsts ((zipD es ds).take i) = acc) ∧ Aside0 (∀ j : Nat, j < i → Cd.odd z (rd_T111 (zipD es ds) (j : Int)) = false) ∧ Aside0 (Us w us acc) ∧ Aside0 (RQ w wr v11 v12 (acc.map fun x => .int .i64 x.f0) us))
      case atStart => exact ⟨0, [], [], by simp, ⟨Nat.zero_add _⟩, ⟨rfl⟩, ⟨fun j hj => absurd hj (Nat.not_lt_zero _)⟩, ⟨Us.nil _⟩, ⟨RQ.none_ bel⟩⟩
      case round =>
        clear hz EV HB
        obtain ⟨i, acc, us, rfl, E1, FA, EV, US, RR⟩ := hrel
        cases gk with
        | succ d =>
          have hz : (i : Int) < (es.length : Int) := by have := E1.out; omega
          have hzd : (i : Int) < (ds.length : Int) := by have := E1.out; have := ED.out; omega
          obtain ⟨x, hx⟩ : ∃ x, rd_T111 (zipD es ds) (i : Int) = x := ⟨_, rfl⟩
          have hx2 := hx.symm.trans (zip_rd (es := es) (ds := ds) (i := i) (by omega) (by omega))
          obtain ⟨ad, e, x0⟩ := Kd.at_int HE.out (i : Int) (by omega) (by omega)
          cases e
          obtain ⟨ae, Ax, cx, e, y0, lx, Cx⟩ := Cf.at_L1 HD.out (i : Int) (by omega) (by omega)
          cases e
          rw [rd_ro] at y0 lx Cx
          rw [Int.toNat_natCast] at x0 y0
          rw [show rd es (i : Int) = x.f0 from by rw [hx2]] at x0
          rw [show ro ds i = x.f1 from by rw [hx2]] at y0 lx Cx
          have FX := Aside0.mk (show firsts ((zipD es ds).take (i + 1)) = pick acc x by rw [firsts_succ (by rw [zip_len ED.out]; omega), FA.out, hx])
          have LX := Aside0.mk lx
          have CX := Aside0.mk (show RowC w Ax x.f1 from Cx)
          have AL := Aside0.mk (show acc.length ≤ 1000000 by rw [← FA.out]; have := firsts_le (zipD es ds) i (by rw [zip_len ED.out]; omega); have := EL.out; omega)
          have CE0 := Aside0.mk x0
          have CD0 := Aside0.mk y0
          have y1 := (RR.out.b.cell (World.block_lt_of_cell? w _ y0)).trans y0
          have XI := Aside0.mk hx
          clear hx hx2 lx Cx x0 y0
          by_cases p1 : (x.f1.length : Int) = z
          · have OD := Aside0.mk (show Cd.odd z x = false from decide_eq_false (fun k => k p1))
            have p2 : ((x.f1.length : Int) != z) = false := bne_eq_false_iff_eq.2 p1
            clear p1
            obtain ⟨Ae, ce, rfl, le_, Ce_⟩ := RR.out.nums AL.out
            have LA := Aside0.mk le_
            have CA := Aside0.mk Ce_
            clear le_ Ce_
            obtain ⟨at_, hat⟩ : ∃ at_, acc.map (·.f0) = at_ := ⟨_, rfl⟩
            have hal : at_.length ≤ 1000000 := by rw [← hat]; simpa using AL.out
            rw [hat] at LA CA RR
            simp only [hat]
            have AT := Aside0.mk hat
            clear hat
            have EVX := Aside0.mk (show ∀ j : Nat, j < i + 1 → Cd.odd z (rd_T111 (zipD es ds) (j : Int)) = false from fun j hj => by
              by_cases e : j = i
              · subst e; rw [XI.out]; exact OD.out
              · exact EV.out j (by omega))
            clear EV OD
            go_wp2
            rename World => w5
            go_loopg [14, 15] at_.length (fun gg v14 v15 wr => ∃ n : Nat, v14 = .bool ((at_.take n).any fun y => y == x.f0) ∧ v15 = .int .i64 (n : Int) ∧ Aside0 (n + gg = at_.length) ∧ Aside0 (Below w5.heap.size w5 wr))
            case atStart => exact ⟨0, by simp, by simp, ⟨Nat.zero_add _⟩, ⟨Below.refl _ _⟩⟩
            case round =>
              obtain ⟨n, rfl, rfl, E2, HB5⟩ := hrel
              clear y1
              cases gk with
              | succ d2 =>
                have hz2 : (n : Int) < (at_.length : Int) := by have := E2.out; omega
                have HN := Aside0.mk (show (at_.take (n + 1)).any (fun y => y == x.f0) = ((at_.take n).any (fun y => y == x.f0) || (rd at_ (n : Int) == x.f0)) by
                  rw [List.take_succ_eq_append_getElem (by omega), List.any_append]
                  unfold rd
                  rw [Int.toNat_natCast, List.getD_eq_getElem?_getD, List.getElem?_eq_getElem (by omega)]; simp)
                obtain ⟨tw, htw⟩ : ∃ tw, (at_.take n).any (fun y => y == x.f0) = tw := ⟨_, rfl⟩
                rw [htw] at HN
                simp only [htw]
                clear htw
                cases tw with
                | true =>
                  go_wp2
                  repeat (go_quiet (fail); try go_wp2)
                  go_roundg d2
                  case measure => omega
                  case rel => exact ⟨n + 1, by rw [HN.out]; simp, by go_num, ⟨by have := E2.out; omega⟩, ⟨by (with_reducible repeat (first | exact HB5.out | apply pw_below_drewN | apply below_drew1)); try exact HB5.out⟩⟩
                | false =>
                  obtain ⟨ad2, e, x2⟩ := Kd.at_int (Kd.C_below CA.out HB5.out) (n : Int) (by omega) (by omega)
                  cases e
                  rw [Int.toNat_natCast] at x2
                  have x0 := ((below_step RR.out.b HB5.out).cell (World.block_lt_of_cell? w _ CE0.out)).trans CE0.out
                  go_wp2
                  repeat (go_quiet (fail); try go_wp2)
                  go_roundg d2
                  case measure => omega
                  case rel => exact ⟨n + 1, by rw [HN.out]; simp, by go_num, ⟨by have := E2.out; omega⟩, ⟨by (with_reducible repeat (first | exact HB5.out | apply pw_below_drewN | apply below_drew1)); try exact HB5.out⟩⟩
              | zero =>
                have hz2 : ¬ (n : Int) < (at_.length : Int) := by have := E2.out; omega
                have hm : (at_.take n).any (fun y => y == x.f0) = among acc x.f0 := by rw [List.take_of_length_le (by have := E2.out; omega), ← AT.out, List.any_map]; rfl
                simp only [hm]
                clear hm
                have n0_ := Aside0.mk (RR.out.kept HB5.out)
                clear RR HB5 CA LA
                have RR := n0_
                clear n0_
                have hal2 : i + 1 + d = es.length := by have := E1.out; omega
                have E3 := Aside0.mk hal2
                clear E1 hal2
                by_cases hs : among acc x.f0 = true
                · have PA := Aside0.mk (show pick acc x = acc from if_pos hs)
                  rw [hs]
                  clear hs
                  go_wp2
                  go_roundg d
                  case measure => have := E3.out; omega
                  case rel => exact ⟨i + 1, acc, us, by go_num, E3, ⟨FX.out.trans PA.out⟩, EVX, US, RR⟩
                · have hsf : among acc x.f0 = false := by simpa using hs
                  have PA := Aside0.mk (show pick acc x = acc ++ [x] from if_neg hs)
                  rw [hsf]
                  clear hs hsf
                  have x0 := (RR.out.b.cell (World.block_lt_of_cell? w _ CE0.out)).trans CE0.out
                  have LN := Aside0.mk (show (acc.map fun x => Value.int .i64 x.f0).length ≤ 1000000 by simpa using AL.out)
                  have LU := Aside0.mk (show us.length ≤ 1000000 by rw [US.out.1]; exact AL.out)
                  go_wp2_with (first | ((with_reducible refine gate_builtin (b := .append) (xs := #[.tmp 87, .tmp 92]) rfl ?_); refine RQ.app1 rfl (.tmp 87) (.tmp 92) rfl rfl rfl RR.out LN.out _ rfl ?_; intro v1_ w7 hR_; clear RR x0; have RR := Aside0.mk hR_; clear hR_; have y1 := (RR.out.b.cell (World.block_lt_of_cell? w _ CD0.out)).trans CD0.out) | ((with_reducible refine gate_builtin (b := .append) (xs := #[.tmp 94, .tmp 99]) rfl ?_); refine RQ.app2 rfl (.tmp 94) (.tmp 99) rfl rfl rfl RR.out LU.out _ rfl ?_; intro v2_ w8 hR_; clear RR y1; have RR := Aside0.mk hR_; clear hR_))
                  go_roundg d
                  case measure => have := E3.out; omega
                  case rel => exact ⟨i + 1, acc ++ [x], us ++ [.slice Ax x.f1.length cx], by go_num, E3, ⟨FX.out.trans PA.out⟩, EVX, ⟨US.out.snoc LX.out CX.out⟩, ⟨by rw [List.map_append]; exact RR.out⟩⟩
          · have h := HH.out
            have p2 : ((x.f1.length : Int) != z) = true := bne_iff_ne.2 p1
            rw [if_pos (any_T i (by rw [zip_len ED.out]; omega) (by rw [XI.out]; exact decide_eq_true p1))] at h
            obtain rfl := Option.some.inj h
            clear h HH p1
            have HB := Aside0.mk RR.out.b
            go_wp2
            go_ret2
            exact ⟨_, rfl, Kd.S_nil _ _ _ _ _, bel⟩
        | zero =>
          have hz : ¬ (i : Int) < (es.length : Int) := by have := E1.out; omega
          have hfa : firsts (zipD es ds) = acc := by have := FA.out; rwa [List.take_of_length_le (by rw [zip_len ED.out]; have := E1.out; omega)] at this
          have hal : acc.length ≤ 1000000 := by rw [← FA.out]; have := firsts_le (zipD es ds) i (by rw [zip_len ED.out]; have := E1.out; omega); have := E1.out; have := EL.out; omega
          have h := HH.out
          rw [not_any_T (fun j hj => EV.out j (by have := E1.out; rw [zip_len ED.out] at hj; omega)), if_neg (by decide), hfa] at h
          obtain ⟨Ae, ce, rfl, le_, Ce_⟩ := RR.out.nums hal
          obtain ⟨Ad, cd, rfl, ld_, Cd_⟩ := RR.out.rows US.out hal
          have HB := Aside0.mk RR.out.b
          clear HH FA US RR hal E1 EV hfa EL ED hbig
          generalize acc.map (·.f0) = ec at le_ Ce_ h ⊢
          generalize acc.map (·.f1) = dc at ld_ Cd_ h ⊢
          have LEc := Aside0.mk le_
          have CEc := Aside0.mk Ce_
          have LDc := Aside0.mk ld_
          have CDc := Aside0.mk Cd_
          clear le_ Ce_ ld_ Cd_
          obtain ⟨⟨s1, s2⟩, SE_, h⟩ := Option.bind_eq_some_iff.mp h
          have SE := Aside0.mk SE_
          clear SE_
          by_cases q6 : s2 ≠ 0
          · rw [if_pos q6] at h
            obtain rfl := Option.some.inj h
            have q7 : (s2 != 0) = true := bne_iff_ne.2 q6
            clear q6 h
            go_wp2_with (go_at_call 43; (with_reducible refine (fountainref1_Seed.calls k K0 s1 s2 _ SE.out).mono ?_); rintro e w2 ⟨rfl, hb⟩; have n0_ := Aside0.mk (below_step HB.out hb); clear HB hb; have HB := n0_; clear n0_)
            go_ret2
            exact ⟨_, rfl, Kd.S_nil _ _ _ _ _, HB.out⟩
          rw [if_neg q6] at h
          obtain rfl : s2 = 0 := Decidable.not_not.1 q6
          obtain ⟨l, LL_, h⟩ := Option.bind_eq_some_iff.mp h
          obtain ⟨m, MA_, h⟩ := Option.bind_eq_some_iff.mp h
          obtain ⟨d, ZE_, h⟩ := Option.bind_eq_some_iff.mp h
          obtain ⟨⟨t1, t2⟩, SO_, h⟩ := Option.bind_eq_some_iff.mp h
          have LL := Aside0.mk LL_
          have MA := Aside0.mk MA_
          have ZE := Aside0.mk ZE_
          have SO := Aside0.mk SO_
          have HH := Aside0.mk h
          clear q6 h LL_ MA_ ZE_ SO_
          go_upto_region 27 with (first | (go_at_call 43; (with_reducible refine (fountainref1_Seed.calls k K0 s1 0 _ SE.out).mono ?_); rintro e w2 ⟨rfl, hb⟩; have n0_ := Aside0.mk (below_step HB.out hb); have n1_ := Aside0.mk (Kd.C_below CEc.out hb); have n2_ := Aside0.mk (Kd.C_below CDc.out hb); clear HB CEc CDc hb; have HB := n0_; have CEc := n1_; have CDc := n2_; clear n0_ n1_ n2_) | (go_at_call 45; (with_reducible refine (fountainref1_L.calls K0 l _ LL.out).mono ?_); rintro e w' ⟨rfl, ⟨nd, rfl⟩⟩; have n1_ := Aside0.mk (Kd.C_drewN CEc.out nd); have n2_ := Aside0.mk (Kd.C_drewN CDc.out nd); clear CEc CDc; have CEc := n1_; have CDc := n2_; clear n1_ n2_) | (go_at_call 39; (with_reducible refine (fountainref1_Matrix.calls k K0 s1 Ae ce ec m _ CEc.out LEc.out MA.out).mono ?_); rintro e w4 ⟨v, rfl, ho_, hb⟩; obtain ⟨Am, cm, rfl⟩ := Kd.N_slice ho_; have CM := Aside0.mk (Kd.N_reads' ho_).2.2; have LM := Aside0.mk (Kd.N_reads' ho_).2.1; have n0_ := Aside0.mk (below_step (show Below w.heap.size w _ from bel) hb); have n2_ := Aside0.mk (Kd.C_below CDc.out hb); clear HB CDc hb ho_; have HB := n0_; have CDc := n2_; clear n0_ n2_) | (go_at_call 83; (with_reducible refine (fountainref1_zero.calls k K0 z (fun _ => True) Ad cd dc d _ (VofC CDc.out LDc.out _) ZE.out).mono ?_); rintro e w5 ⟨v, rfl, ho_, hb⟩; obtain ⟨Az, cz, rfl⟩ := Kd.N_slice ho_; have CD := Aside0.mk (Kd.N_reads' ho_).2.2; have LZ := Aside0.mk (Kd.N_reads' ho_).2.1; have n0_ := Aside0.mk (below_step (show Below w.heap.size w _ from bel) hb); have n1_ := Aside0.mk (Kd.C_below CM.out hb); clear HB hb ho_ CM; have HB := n0_; have CM := n1_; clear n0_ n1_) | (go_at_call 28; (with_reducible refine (RsSolveTells.rsolve.calls k l z Am cm m Az cz d (t1, t2) _ CM.out LM.out CD.out LZ.out SO.out).mono ?_); rintro e w6 ⟨At, ct, rfl, lt_, Ct_, hb⟩; have LT := Aside0.mk lt_; have CT := Aside0.mk Ct_; have n0_ := Aside0.mk (below_step (show Below w.heap.size w _ from bel) hb); clear HB hb lt_ Ct_; have HB := n0_; clear n0_))
          have h := HH.out
          clear HH
          by_cases q6 : t2 ≠ 0
          · rw [if_pos q6] at h
            obtain rfl := Option.some.inj h
            have q7 : (t2 != 0) = true := bne_iff_ne.2 q6
            clear q6 h
            go_wp2
            go_ret2
            exact ⟨_, rfl, Kd.S_nil _ _ _ _ _, HB.out⟩
          rw [if_neg q6] at h
          obtain rfl : t2 = 0 := Decidable.not_not.1 q6
          obtain ⟨o, DR_, h⟩ := Option.bind_eq_some_iff.mp h
          obtain rfl := Option.some.inj h
          have DR := Aside0.mk DR_
          clear q6 h DR_ SE LL MA ZE SO CEc LEc LDc
          have HB5 := Aside0.mk (Below.refl w6.heap.size w6)
          go_wp2
          go_loopg [20, 21] K0.toNat (fun gg v20 v21 wr => ∃ (i : Nat) (acc : List (List Int)), v21 = .int .i64 (i : Int) ∧ Aside0 (i + gg = K0.toNat) ∧ Aside0 (rdrops k K0 s1 z t1 gg (i : Int) acc = some o) ∧ Aside0 (acc.length = i) ∧ Aside0 (Kd.S (Kd.slice 5 (Kd.int .u8)) 30 wr w6.heap.size (fun _ => True) v20 acc) ∧ Aside0 (Below w6.heap.size w6 wr))
          case atStart => exact ⟨0, [], by simp, ⟨Nat.zero_add _⟩, DR, ⟨rfl⟩, ⟨Kd.S_nil _ _ _ _ _⟩, HB5⟩
          case round =>
            clear hz DR HB5
            obtain ⟨i, acc, rfl, E1, DR, AL, HO, HB5⟩ := hrel
            cases gk with
            | succ d1 =>
              have hz : (i : Int) < K0 := by have := E1.out; omega
              have hd := DR.out
              simp only [rdrops] at hd
              obtain ⟨r1, D1_, hd⟩ := Option.bind_eq_some_iff.mp hd
              have D1 := Aside0.mk D1_
              have D2 := Aside0.mk hd
              clear hd D1_ DR
              have ND := Aside0.mk (show acc.length ≤ 100 by have := AL.out; have := E1.out; omega)
              go_wp2_with (first | (go_at_call 85; (with_reducible refine (fountainref1_Drop.calls k K0 s1 z (fun _ => True) At ct t1 (i : Int) r1 _ (VofC (Kd.C_below CT.out HB5.out) LT.out _) D1.out).mono ?_); rintro e w8 ⟨v, rfl, ho_, hb⟩; have n0_ := Aside0.mk (Kd.S_elder' HO.out (Kd.R_base ho_) hb); have HR := Aside0.mk (Kd.R_lower (Kd.R_mono (ok' := fun k_ => True) ho_ (fun _ hk_ => trivial)) HB5.out.size); have n1_ := Aside0.mk (below_step HB5.out hb); clear HO HB5 hb ho_; have HO := n0_; have HB5 := n1_; clear n0_ n1_; obtain ⟨Ar, cr, er⟩ := Kd.R_slice HR.out; subst er) | ((with_reducible refine gate_builtin (b := .append) (xs := #[.tmp 132, .tmp 139]) rfl ?_); at_builtin; refine Kd.S_append (Kd.slice 5 (Kd.int .u8)) (w0 := w6) w6.heap.size rfl (.tmp 132) (.tmp 139) 34 30 (.slice none 0 0) 24 rfl Try.underlying34 info30b rfl (by decide) (by omega) u20 acc r1 [.slice Ar r1.length cr] (fun _ => True) (fun k_ => some k_ = (.slice Ar r1.length cr : Value).ownBlock) rfl rfl ?aP (fun k_ hk_ => ((Kd.R_mono (ok' := fun k_ => ((fun _ => True)) k_ ∧ some k_ ≠ (u20 : Value).ownBlock) (Kd.R_apart' (HR.out) (Kd.S_typed HO.out) (by decide)) (fun k_ hk => ⟨trivial, hk.2⟩))).1 k_ hk_.symm) ?aF ?aO ?aB ?aS ?aL ?_; (case aP => exact Kd.M_row (Kd.R_mono (Kd.R_tight rfl (Kd.R_mono (ok' := fun k_ => ((fun _ => True)) k_ ∧ some k_ ≠ (u20 : Value).ownBlock) (Kd.R_apart' (HR.out) (Kd.S_typed HO.out) (by decide)) (fun k_ hk => ⟨trivial, hk.2⟩))) (fun _ h_ => h_))); (case aB => exact HB5.out); (case aF => exact (fun _ _ => trivial)); (case aO => exact (Kd.S_mono HO.out (fun k_ hk => ⟨trivial, fun e_ => hk.2 e_⟩))); (case aS => exact HB5.out.size); (case aL => have := ND.out; omega); intro v315 w19 ho hb hg hat; have n1_ := Aside0.mk (hb); have n2_ := Aside0.mk (ho); clear HB5 HO HR; have HB5 := n1_; have HO := n2_; clear n1_ n2_; clear ho hb hg hat))
              go_roundg d1
              case measure => have := E1.out; omega
              case rel => exact ⟨i + 1, acc ++ [r1], by go_num, ⟨by have := E1.out; omega⟩, D2, ⟨by have := AL.out; simp; omega⟩, HO, HB5⟩
            | zero =>
              have hz : ¬ (i : Int) < K0 := by have := E1.out; omega
              have e1 := DR.out
              simp only [rdrops] at e1
              obtain rfl := Option.some.inj e1
              clear e1 DR
              have n0_ := Aside0.mk (Kd.S_lower HO.out HB.out.size)
              have n1_ := Aside0.mk (below_step HB.out HB5.out)
              clear HO HB HB5
              have HO := n0_
              have HB := n1_
              clear n0_ n1_
              go_wp2
              go_ret2
              exact ⟨_, rfl, HO.out, HB.out⟩
end Go.Proofs.Ytbfhinfblepidaa.Dr
