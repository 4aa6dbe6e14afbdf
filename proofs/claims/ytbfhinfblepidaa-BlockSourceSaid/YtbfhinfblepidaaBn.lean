/- The methods of the program's block and of the document's: Symbol, Size. Conditions: those that stand in the theorems. -/
import Derived.Test.YtbfhinfblepidaaPBlockTellsx
import Derived.Test.YtbfhinfblepidaaMt
import Derived.Test.YtbfhinfblepidaaPq
import Derived.BigQuiet
namespace Go.Proofs.Ytbfhinfblepidaa.Bs
open Go.RowKit Go.Lib Go.Proofs.Ytbfhinfblepidaa.PSolveTells Go.Proofs.Ytbfhinfblepidaa.PSeedTells Go.Proofs.Ytbfhinfblepidaa.PBlockTells Go.Proofs.YtbfhinfblepidaaW.PrintWords Go.Proofs.YtbfhinfblepidaaW.PrintLast Go.Proofs.YtbfhinfblepidaaW.PrintMore Go.Proofs.Ytbfhinfblepidaa.Mt
set_option linter.unusedVariables false
set_option linter.unusedSimpArgs false
/-- What a block's symbol is, and an error's number. -/
noncomputable def sym.f (k : Nat) (K0 S H j size : Int) (P : List (List Int)) (esi : Int) : Option (List Int × Int) :=
 if esi < 0 ∨ 16777216 ≤ esi then some ([], 1) else (drops_Drop.f k K0 S H j size P esi).bind fun r => some (r, 0)
abbrev Blk (w : World) (g : Nat) (K0 S H j size : Int) (A : Option Addr) (c : Nat) (n : Nat) : Prop := w.heap[g]? = some (.cells #[.int .i64 K0, .int .i64 S, .int .i64 H, .int .i64 j, .int .i64 size, .slice A n c] 75 (0, 0))
abbrev Row (w : World) (r : List Int × Int) (e : Ending) (w' : World) : Prop := ∃ A c, e = .returned (.tuple #[.slice A r.1.length c, .int .i64 r.2]) ∧ r.1.length ≤ c ∧ RowC w' A r.1 ∧ Below w.heap.size w w'
theorem row0 (w : World) : RowC w none ([] : List Int) := ⟨rfl, by simp, fun h => absurd h (Nat.lt_irrefl 0)⟩
theorem VofC {t : Nat} {w : World} {A : Option Addr} {c : Nat} {L : List (List Int)} (hC : (Kd.slice 5 (Kd.int .u8)).C w A L.length L) (hc : L.length ≤ c) (base : Nat) : Kd.V (Kd.slice 5 (Kd.int .u8)) t w base (fun _ => True) (.slice A L.length c) L :=
 Kd.V_mono (Kd.V_mk hc (Kd.C_F (Kd.heap_slice 5 (Kd.heap_int .u8)) hC)) (fun _ _ => trivial)
def T3 : Bool × List (List Nat × List Nat) := (true, [([], []), ([0], [0]), ([1], [1]), ([2], [2]), ([], []), ([4], [4]), ([5], [5]), ([6], [6]), ([], []), ([8], [8]), ([9], [9]), ([10], [10]), ([], []), ([12], [12]), ([13], [13]), ([14], [14]), ([], []), ([3, 7, 11, 15, 16], [3, 7, 11, 15, 16]), ([17, 17, 0, 1, 2, 3, 4, 5, 6, 7, 8, 9, 10, 11, 12, 13, 14, 15, 16, 17], [17]), ([18, 0, 1, 2, 3, 4, 5, 6, 7, 8, 9, 10, 11, 12, 13, 14, 15, 16, 17, 18], [])])
def B3 : List Nat := [0, 1, 3, 7, 0, 16, 48, 112, 0, 256, 768, 1792, 0, 4096, 12288, 28672, 0, 131071, 262143, 524287]
theorem tab3 : rtab .any (opsOf Try.f50 3) = T3 := by kernel_rfl
theorem bits3 : waitsOk T3.2 B3 = true := by kernel_rfl
set_option maxHeartbeats 4000000 in
set_option maxRecDepth 100000 in
theorem sym.calls (k g : Nat) (K0 S H j size : Int) (A : Option Addr) (c : Nat) (P : List (List Int)) (esi : Int) (r : List Int × Int) (w : World) (hbox : Blk w g K0 S H j size A c P.length)
 (hP : (Kd.slice 5 (Kd.int .u8)).C w A P.length P) (hc : P.length ≤ c) (h : sym.f k K0 S H j size P esi = some r) :
 Calls Try.prog 50 #[.pointer (some ⟨g, 0, none⟩), .int .i64 esi] w (Row w r) := by
 unfold sym.f at h
 have BX := Aside0.mk hbox
 by_cases hb : esi < 0 ∨ 16777216 ≤ esi
 ·rw [if_pos hb] at h
  obtain rfl := Option.some.inj h
  by_cases h1 : esi < 0
  ·clear hb h hP
   go_enter Try.func50, Try.ntmps50
   go_wp2
   go_ret2
   exact ⟨none, 0, rfl, Nat.le_refl _, row0 _, Below.refl _ _⟩
  ·have h2 : 16777216 ≤ esi := by omega
   clear hb h hP
   go_enter Try.func50, Try.ntmps50
   go_wp2
   go_ret2
   exact ⟨none, 0, rfl, Nat.le_refl _, row0 _, Below.refl _ _⟩
 ·rw [if_neg hb] at h
  obtain ⟨x, hd, h⟩ := Option.bind_eq_some_iff.mp h
  obtain rfl := Option.some.inj h
  have DR := Aside0.mk hd
  have HP := Aside0.mk hP
  have LC := Aside0.mk hc
  have h1 : ¬ esi < 0 := by omega
  have h2 : ¬ 16777216 ≤ esi := by omega
  clear h hd hP hb hc hbox
  go_enter Try.func50, Try.ntmps50
  go_wp2
  refine start_ (n := 20) (S := fun w' => Below w.heap.size w w') (ds := []) (ms 20 0) (by kernel_rfl) rfl rfl (Below.refl _ _).drew (fun hHeld => ?_); refine with_tabW tab3 bits3 (fun HT_ HW_ => ?_)
  have CW := Aside0.mk (Kd.C_drew HP.out)
  have BW := Aside0.mk (show Blk w.drew g K0 S H j size A c P.length from BX.out)
  have HB := Aside0.mk (show Below w.heap.size w w.drew from (Below.refl _ _).drew)
  clear HP
  generalize w.drew = w1 at hHeld CW BW HB ⊢
  refine run_ [(0, false, some 16), (1, false, some 17), (2, false, some 18), (3, true, some 19), (4, false, some 20), (5, false, some 21), (6, false, some 22), (7, true, some 23), (8, false, some 24), (9, false, some 25), (10, false, some 26), (11, true, some 27), (12, false, some 28), (13, false, some 29), (14, false, some 30), (15, true, some 31), (16, false, some 32)] (n := 17) (ms 20 131071) rfl HT_.out HW_.out (by kernel_rfl) (fun _ _ _ _ h => h) hHeld ?_
  repeat (first | (refine Run.p (v := ?_) (a' := ?_) rfl rfl (Or.inl ⟨by rfl, ?_⟩) ?_ ?_; rotate_left; (focus intro w'; go_simp; with_reducible rfl); rotate_left; (focus simp only [Act.put, List.setIfInBounds_toArray, List.set_cons_zero, List.set_cons_succ, i64_w, i32_w]; rfl)) | (refine Run.t (v := ?_) (a' := ?_) rfl rfl (Or.inl ⟨by rfl, ?_⟩) ?_ ?_; rotate_left; (focus intro w' hS; have b_ := blk_below BX.out hS; have s0 : w'.cell? ⟨g, 0, none⟩ = some (.int .i64 K0) := (blk_cell b_ 0).trans rfl; have s1 : w'.cell? ⟨g, 1, none⟩ = some (.int .i64 S) := (blk_cell b_ 1).trans rfl; have s2 : w'.cell? ⟨g, 2, none⟩ = some (.int .i64 H) := (blk_cell b_ 2).trans rfl; have s3 : w'.cell? ⟨g, 3, none⟩ = some (.int .i64 j) := (blk_cell b_ 3).trans rfl; have s4 : w'.cell? ⟨g, 4, none⟩ = some (.int .i64 size) := (blk_cell b_ 4).trans rfl; have s5 : w'.cell? ⟨g, 5, none⟩ = some (.slice A P.length c) := (blk_cell b_ 5).trans rfl; go_simp; with_reducible rfl); rotate_left; (focus simp only [Act.put, List.setIfInBounds_toArray, List.set_cons_zero, List.set_cons_succ, i64_w, i32_w]; rfl)))
  refine Run.nil ?_
  refine one_ (i := 17) (N := some 33) (ms 20 262143) rfl rfl (one_of HT_.out (by kernel_rfl)) (by decide) (fun K hK => ?_)
  refine goes_ Try.func84 (by kernel_rfl) rfl #[.agg #[.int .i64 K0, .int .i64 S, .int .i64 H], .int .i64 j, .int .i64 size, .slice A P.length c, .int .i64 esi] (by rfl) rfl rfl agl ?_
  with_reducible refine (drops_Drop.calls k K0 S H j size (fun _ => True) A c P esi x _ (VofC CW.out LC.out _) DR.out).mono ?_
  rintro e w2 ⟨v, rfl, ho_, hb_⟩
  refine ⟨_, rfl, ?_⟩
  obtain ⟨Ar, cr, rfl, lr, Cr⟩ := Kd.R_reads ho_
  have B2 := Aside0.mk (below_step HB.out hb_)
  have L2 := Aside0.mk lr
  have C2 := Aside0.mk Cr
  clear ho_ lr Cr hb_
  refine hK.out _ _ B2.out (fun hHeld => ?_)
  clear hK
  refine norm_ (a' := ?_) ?_ ?_
  rotate_left
  ·show Act.put _ (some 33) _ = _
   simp only [Act.put, List.setIfInBounds_toArray, List.set_cons_zero, List.set_cons_succ, i64_w, i32_w]
   rfl
  refine pure_ (i := 18) (N := some 4) (v := ?_) (a' := ?_) (ms 20 524287) rfl rfl (any_of HT_.out (by kernel_rfl)) (fun _ _ _ h => h) (Or.inl ⟨by rfl, ?_⟩) ?_ ?_
  rotate_left
  ·intro w'
   go_simp
   with_reducible rfl
  rotate_left
  ·simp only [Act.put, List.setIfInBounds_toArray, List.set_cons_zero, List.set_cons_succ, i64_w, i32_w]
   rfl
  refine pure_ (i := 19) (N := some 5) (v := ?_) (a' := ?_) (ms 20 1048575) rfl rfl (any_of HT_.out (by kernel_rfl)) (fun _ _ _ h => h) (Or.inl ⟨by rfl, ?_⟩) ?_ ?_
  rotate_left
  ·intro w'
   go_simp
   with_reducible rfl
  rotate_left
  ·simp only [Act.put, List.setIfInBounds_toArray, List.set_cons_zero, List.set_cons_succ, i64_w, i32_w]
   rfl
  refine done_ (done_of HT_.out (by kernel_rfl)) ?_
  try go_wp2
  go_ret2
  exact ⟨Ar, cr, rfl, L2.out, C2.out, B2.out⟩
theorem size.calls (g : Nat) (K0 S H j size : Int) (A : Option Addr) (c n : Nat) (w : World) (hbox : Blk w g K0 S H j size A c n) :
 Calls Try.prog 53 #[.pointer (some ⟨g, 0, none⟩)] w fun e w' => e = .returned (.int .i64 size) ∧ Below w.heap.size w w' := by
 have s4 : w.cell? ⟨g, 4, none⟩ = some (.int .i64 size) := (blk_cell hbox 4).trans rfl
 go_enter Try.func53, Try.ntmps53
 go_wp2
 go_ret
 exact ⟨rfl, Below.refl _ _⟩
/-- What the document's block's symbol is, and an error's number. -/
noncomputable def rsym.f (k : Nat) (K0 j size : Int) (P : List (List Int)) (esi : Int) : Option (List Int × Int) :=
 if esi < 0 ∨ 16777216 ≤ esi then some ([], 1) else (fountainref1_Drop.f k K0 j size P esi).bind fun r => some (r, 0)
abbrev RBlk (w : World) (g : Nat) (K0 j size : Int) (A : Option Addr) (c : Nat) (n : Nat) : Prop := w.heap[g]? = some (.cells #[.int .i64 K0, .int .i64 j, .int .i64 size, .slice A n c] 77 (0, 0))
def T4 : Bool × List (List Nat × List Nat) := (true, [([], []), ([0], [0]), ([1], [1]), ([2], [2]), ([], []), ([4], [4]), ([5], [5]), ([6], [6]), ([], []), ([8], [8]), ([9], [9]), ([10], [10]), ([], []), ([12], [12]), ([13], [13]), ([14], [14]), ([], []), ([3, 7, 11, 15, 16], [3, 7, 11, 15, 16]), ([17, 17, 0, 1, 2, 3, 4, 5, 6, 7, 8, 9, 10, 11, 12, 13, 14, 15, 16, 17], [17]), ([18, 0, 1, 2, 3, 4, 5, 6, 7, 8, 9, 10, 11, 12, 13, 14, 15, 16, 17, 18], [])])
def B4 : List Nat := [0, 1, 3, 7, 0, 16, 48, 112, 0, 256, 768, 1792, 0, 4096, 12288, 28672, 0, 131071, 262143, 524287]
theorem tab4 : rtab .any (opsOf Try.f51 3) = T4 := by kernel_rfl
theorem bits4 : waitsOk T4.2 B4 = true := by kernel_rfl
set_option maxHeartbeats 4000000 in
set_option maxRecDepth 100000 in
theorem rsym.calls (k g : Nat) (K0 j size : Int) (A : Option Addr) (c : Nat) (P : List (List Int)) (esi : Int) (r : List Int × Int) (w : World) (hbox : RBlk w g K0 j size A c P.length)
 (hP : (Kd.slice 5 (Kd.int .u8)).C w A P.length P) (hc : P.length ≤ c) (h : rsym.f k K0 j size P esi = some r) :
 Calls Try.prog 51 #[.pointer (some ⟨g, 0, none⟩), .int .i64 esi] w (Row w r) := by
 unfold rsym.f at h
 have BX := Aside0.mk hbox
 by_cases hb : esi < 0 ∨ 16777216 ≤ esi
 ·rw [if_pos hb] at h
  obtain rfl := Option.some.inj h
  by_cases h1 : esi < 0
  ·clear hb h hP
   go_enter Try.func51, Try.ntmps51
   go_wp2
   go_ret2
   exact ⟨none, 0, rfl, Nat.le_refl _, row0 _, Below.refl _ _⟩
  ·have h2 : 16777216 ≤ esi := by omega
   clear hb h hP
   go_enter Try.func51, Try.ntmps51
   go_wp2
   go_ret2
   exact ⟨none, 0, rfl, Nat.le_refl _, row0 _, Below.refl _ _⟩
 ·rw [if_neg hb] at h
  obtain ⟨x, hd, h⟩ := Option.bind_eq_some_iff.mp h
  obtain rfl := Option.some.inj h
  have DR := Aside0.mk hd
  have HP := Aside0.mk hP
  have LC := Aside0.mk hc
  have h1 : ¬ esi < 0 := by omega
  have h2 : ¬ 16777216 ≤ esi := by omega
  clear h hd hP hb hc hbox
  go_enter Try.func51, Try.ntmps51
  go_wp2
  refine start_ (n := 20) (S := fun w' => Below w.heap.size w w') (ds := []) (ms 20 0) (by kernel_rfl) rfl rfl (Below.refl _ _).drew (fun hHeld => ?_); refine with_tabW tab4 bits4 (fun HT_ HW_ => ?_)
  have CW := Aside0.mk (Kd.C_drew HP.out)
  have HB := Aside0.mk (show Below w.heap.size w w.drew from (Below.refl _ _).drew)
  clear HP
  generalize w.drew = w1 at hHeld CW HB ⊢
  refine run_ [(0, false, some 12), (1, false, some 13), (2, false, some 14), (3, true, some 15), (4, false, some 16), (5, false, some 17), (6, false, some 18), (7, true, some 19), (8, false, some 20), (9, false, some 21), (10, false, some 22), (11, true, some 23), (12, false, some 24), (13, false, some 25), (14, false, some 26), (15, true, some 27), (16, false, some 28)] (n := 17) (ms 20 131071) rfl HT_.out HW_.out (by kernel_rfl) (fun _ _ _ _ h => h) hHeld ?_
  repeat (first | (refine Run.p (v := ?_) (a' := ?_) rfl rfl (Or.inl ⟨by rfl, ?_⟩) ?_ ?_; rotate_left; (focus intro w'; go_simp; with_reducible rfl); rotate_left; (focus simp only [Act.put, List.setIfInBounds_toArray, List.set_cons_zero, List.set_cons_succ, i64_w, i32_w]; rfl)) | (refine Run.t (v := ?_) (a' := ?_) rfl rfl (Or.inl ⟨by rfl, ?_⟩) ?_ ?_; rotate_left; (focus intro w' hS; have b_ := blk_below BX.out hS; have s0 : w'.cell? ⟨g, 0, none⟩ = some (.int .i64 K0) := (blk_cell b_ 0).trans rfl; have s1 : w'.cell? ⟨g, 1, none⟩ = some (.int .i64 j) := (blk_cell b_ 1).trans rfl; have s2 : w'.cell? ⟨g, 2, none⟩ = some (.int .i64 size) := (blk_cell b_ 2).trans rfl; have s3 : w'.cell? ⟨g, 3, none⟩ = some (.slice A P.length c) := (blk_cell b_ 3).trans rfl; go_simp; with_reducible rfl); rotate_left; (focus simp only [Act.put, List.setIfInBounds_toArray, List.set_cons_zero, List.set_cons_succ, i64_w, i32_w]; rfl)))
  refine Run.nil ?_
  refine one_ (i := 17) (N := some 29) (ms 20 262143) rfl rfl (one_of HT_.out (by kernel_rfl)) (by decide) (fun K hK => ?_)
  refine goes_ Try.func85 (by kernel_rfl) rfl #[.int .i64 K0, .int .i64 j, .int .i64 size, .slice A P.length c, .int .i64 esi] (by rfl) rfl rfl agl ?_
  with_reducible refine (fountainref1_Drop.calls k K0 j size (fun _ => True) A c P esi x _ (VofC CW.out LC.out _) DR.out).mono ?_
  rintro e w2 ⟨v, rfl, ho_, hb_⟩
  refine ⟨_, rfl, ?_⟩
  obtain ⟨Ar, cr, rfl, lr, Cr⟩ := Kd.R_reads ho_
  have B2 := Aside0.mk (below_step HB.out hb_)
  have L2 := Aside0.mk lr
  have C2 := Aside0.mk Cr
  clear ho_ lr Cr hb_
  refine hK.out _ _ B2.out (fun hHeld => ?_)
  clear hK
  refine norm_ (a' := ?_) ?_ ?_
  rotate_left
  ·show Act.put _ (some 29) _ = _
   simp only [Act.put, List.setIfInBounds_toArray, List.set_cons_zero, List.set_cons_succ, i64_w, i32_w]
   rfl
  refine pure_ (i := 18) (N := some 4) (v := ?_) (a' := ?_) (ms 20 524287) rfl rfl (any_of HT_.out (by kernel_rfl)) (fun _ _ _ h => h) (Or.inl ⟨by rfl, ?_⟩) ?_ ?_
  rotate_left
  ·intro w'
   go_simp
   with_reducible rfl
  rotate_left
  ·simp only [Act.put, List.setIfInBounds_toArray, List.set_cons_zero, List.set_cons_succ, i64_w, i32_w]
   rfl
  refine pure_ (i := 19) (N := some 5) (v := ?_) (a' := ?_) (ms 20 1048575) rfl rfl (any_of HT_.out (by kernel_rfl)) (fun _ _ _ h => h) (Or.inl ⟨by rfl, ?_⟩) ?_ ?_
  rotate_left
  ·intro w'
   go_simp
   with_reducible rfl
  rotate_left
  ·simp only [Act.put, List.setIfInBounds_toArray, List.set_cons_zero, List.set_cons_succ, i64_w, i32_w]
   rfl
  refine done_ (done_of HT_.out (by kernel_rfl)) ?_
  try go_wp2
  go_ret2
  exact ⟨Ar, cr, rfl, L2.out, C2.out, B2.out⟩
end Go.Proofs.Ytbfhinfblepidaa.Bs
namespace Go.Proofs.Ytbfhinfblepidaa.Bn
open Go.RowKit Go.Lib Go.Proofs.Ytbfhinfblepidaa.PSolveTells Go.Proofs.Ytbfhinfblepidaa.PSeedTells Go.Proofs.Ytbfhinfblepidaa.PBlockTells Go.Proofs.YtbfhinfblepidaaW.PrintWords Go.Proofs.YtbfhinfblepidaaW.PrintLast Go.Proofs.YtbfhinfblepidaaW.PrintMore Go.Proofs.Ytbfhinfblepidaa.Mt Go.Proofs.Ytbfhinfblepidaa.Bs
set_option linter.unusedVariables false
set_option linter.unusedSimpArgs false
def odd (z : Int) (r : List Int) : Bool := decide ((r.length : Int) ≠ z)
def odds (z : Int) (L : List (List Int)) : Bool := decide (0 ≤ Cf.idx (odd z) L 0)
/-- A block's numbers and parts (or none), and an error's number. -/
abbrev Res := Option (Int × Int × Int × Int × List (List Int)) × Int
noncomputable def new.f (k : Nat) (z : Int) (L : List (List Int)) : Option Res :=
 (params_Of.f (L.length : Int)).bind fun p =>
 if z < 1 ∨ 64 < z ∨ p.2.2.2 ≠ 0 then some (none, 1) else if odds z L = true then some (none, 10) else
 (seed_Find.f k p.1).bind fun s => if s.2 ≠ 0 then some (none, s.2) else
 (seed_Sources.f k p.1).bind fun es => (block_Parts.f k p.1 p.2.1 p.2.2.1 s.1 z es L).bind fun q =>
 if q.2 ≠ 0 then some (none, q.2) else some (some (p.1, p.2.1, p.2.2.1, s.1, q.1), 0)
def Post (z : Int) (w : World) (r : Res) (e : Ending) (w' : World) : Prop := match r.1 with
 | none => e = .returned (.tuple #[.pointer none, .int .i64 r.2]) ∧ Below w.heap.size w w'
 | some b => ∃ g A c, e = .returned (.tuple #[.pointer (some ⟨g, 0, none⟩), .int .i64 r.2]) ∧ w.heap.size ≤ g ∧ Blk w' g b.1 b.2.1 b.2.2.1 b.2.2.2.1 z A c b.2.2.2.2.length ∧ (Kd.slice 5 (Kd.int .u8)).C w' A b.2.2.2.2.length b.2.2.2.2 ∧ b.2.2.2.2.length ≤ c ∧ Below w.heap.size w w'
theorem tells (gb : Nat) (z : Int) (L : List (List Int)) (w : World) (hbox : w.heap[gb]? = some (.cells #[.int .i64 z] 3 (0, 0))) :
 Cf.Tells 81 #[.pointer (some ⟨gb, 0, none⟩)] (odd z) L w := by
 intro W j A cc hj hb hC
 have hbox2 : W.heap[gb]? = some (.cells #[.int .i64 z] 3 (0, 0)) := blk_below hbox hb
 have hcell : W.cell? ⟨gb, 0, none⟩ = some (.int .i64 z) := (blk_cell hbox2 0).trans rfl
 show Calls Try.prog 81 #[.slice A (Cf.rd_L1 L (j : Int)).length cc, .pointer (some ⟨gb, 0, none⟩)] W fun e w' => e = .returned (.bool (odd z (Cf.rd_L1 L (j : Int)))) ∧ Below w.heap.size w w'
 generalize Cf.rd_L1 L (j : Int) = r at hC
 clear hbox2 hbox hC
 unfold odd
 by_cases h : (r.length : Int) = z
 ·have h2 : ((r.length : Int) != z) = false := bne_eq_false_iff_eq.2 h
  have h3 : decide ((r.length : Int) ≠ z) = false := decide_eq_false (fun k => k h)
  rw [h3]
  clear h h3
  go_enter Try.func81, Try.ntmps81
  go_wp2
  go_ret
  exact ⟨by simp_all, hb⟩
 ·have h2 : ((r.length : Int) != z) = true := bne_iff_ne.2 h
  have h3 : decide ((r.length : Int) ≠ z) = true := decide_eq_true h
  rw [h3]
  clear h h3
  go_enter Try.func81, Try.ntmps81
  go_wp2
  go_ret
  exact ⟨by simp_all, hb⟩
def T9 : Bool × List (List Nat × List Nat) := (true, [([], []), ([], []), ([], []), ([], []), ([3], [3]), ([4], [4]), ([], []), ([0, 1, 2, 5, 6, 5], [0, 1, 2, 5, 6]), ([7], [7]), ([8], [8]), ([8], [8]), ([9, 7, 0, 1, 2, 3, 4, 5, 6, 7, 8, 9], [9]), ([10, 11, 0, 1, 2, 3, 4, 5, 6, 7, 8, 9, 10, 11], [10])])
def B9 : List Nat := [0, 0, 0, 0, 8, 24, 0, 127, 255, 511, 511, 1023, 4095]
theorem tab9 : rtab .any (opsOf Try.f47 9) = T9 := by kernel_rfl
theorem bits9 : waitsOk T9.2 B9 = true := by kernel_rfl
set_option maxHeartbeats 8000000 in
set_option maxRecDepth 100000 in
theorem new.calls (k : Nat) (z : Int) (A1 : Option Addr) (c1 : Nat) (L : List (List Int)) (r : Res) (w : World) (hL : (Kd.slice 5 (Kd.int .u8)).C w A1 L.length L) (hcL : L.length ≤ c1) (h : new.f k z L = some r) :
 Calls Try.prog 47 #[.int .i64 z, .slice A1 L.length c1] w (Post z w r) := by
 have hu24 := Try.underlying24
 unfold new.f at h
 obtain ⟨⟨p0, p1, p2, p3⟩, OF_, h⟩ := Option.bind_eq_some_iff.mp h
 have HH := Aside0.mk h
 have OF := Aside0.mk OF_
 have HL := Aside0.mk hL
 have LC := Aside0.mk hcL
 have HB := Aside0.mk (Below.refl w.heap.size w)
 clear h OF_ hL hcL
 go_enter Try.func47, Try.ntmps47
 go_upto_region 1 with (first | ((with_reducible refine gate_dst (N := 2) rfl ?_); refine box_event ?hg (N := 2) ?hd (cs := #[.int .i64 z]) (t := 3) ?hr ?_; (case hd => rfl); (case hg => rfl); (case hr => first | (go_simp; done) | (go_simp; rfl)); intro gb hg w5 hbox hb; have n0_ := Aside0.mk (belt hb); have GE := Aside0.mk ((by rw [hg]; exact bels : w.heap.size ≤ gb)); have B0 := Aside0.mk hbox; clear HB; have HB := n0_; clear n0_ hg hb hbox))
 go_upto_region 2 with (first | (go_at_call 19; (with_reducible refine (params_Of.calls (L.length : Int) p0 p1 p2 p3 _ OF.out).mono ?_); rintro e w6 ⟨rfl, hb⟩; have n0_ := Aside0.mk (belt hb); have n1_ := Aside0.mk (blk_below B0.out hb); clear HB B0; have HB := n0_; have B0 := n1_; clear n0_ n1_ hb) | ((with_reducible refine gate_dst (N := 6) rfl ?_); refine box_event ?hg (N := 6) ?hd (cs := #[.int .i64 0, .int .i64 0, .int .i64 0]) (t := 24) ?hr ?_; (case hd => rfl); (case hg => rfl); (case hr => first | (go_simp; done) | (go_simp; rfl)); intro gp hg w7 hbox hb; have NE := Aside0.mk ((by rw [hg]; have := blk_lt B0.out; omega : gb ≠ gp)); have GP := Aside0.mk ((by rw [hg]; exact bels : w.heap.size ≤ gp)); have n0_ := Aside0.mk (belt hb); have n1_ := Aside0.mk (blk_below B0.out hb); have BP := Aside0.mk hbox; clear HB B0; have HB := n0_; have B0 := n1_; clear n0_ n1_ hb hbox hg; have hcz6_0 : w7.cell? ⟨gp, 0, none⟩ = some (.int .i64 0) := (blk_cell BP.out 0).trans rfl; have hcz6_1 : w7.cell? ⟨gp, 1, none⟩ = some (.int .i64 0) := (blk_cell BP.out 1).trans rfl; have hcz6_2 : w7.cell? ⟨gp, 2, none⟩ = some (.int .i64 0) := (blk_cell BP.out 2).trans rfl; have hfz6_0 := blk_frozen BP.out 0; have hfz6_1 := blk_frozen BP.out 1; have hfz6_2 := blk_frozen BP.out 2))
 have BP_ := Aside0.mk (blk_put (cs := #[.int .i64 p0, .int .i64 p1, .int .i64 0]) (blk_put (cs := #[.int .i64 p0, .int .i64 0, .int .i64 0]) (blk_put (cs := #[.int .i64 0, .int .i64 0, .int .i64 0]) BP.out 0 (.int .i64 p0) rfl) 1 (.int .i64 p1) rfl) 2 (.int .i64 p2) rfl)
 have B0_ := Aside0.mk (blk_far (p := ⟨gp, 2, none⟩) (blk_far (p := ⟨gp, 1, none⟩) (blk_far (p := ⟨gp, 0, none⟩) B0.out NE.out (.int .i64 p0)) NE.out (.int .i64 p1)) NE.out (.int .i64 p2))
 have HB_ := Aside0.mk (below_set (j := 2) (v := .int .i64 p2) (below_set (j := 1) (v := .int .i64 p1) (below_set (j := 0) (v := .int .i64 p0) HB.out GP.out) GP.out) GP.out)
 clear BP B0 HB hcz6_0 hcz6_1 hcz6_2 hfz6_0 hfz6_1 hfz6_2
 generalize ((w7.setCell ⟨gp, 0, none⟩ (.int .i64 p0)).setCell ⟨gp, 1, none⟩ (.int .i64 p1)).setCell ⟨gp, 2, none⟩ (.int .i64 p2) = w8 at BP_ B0_ HB_ ⊢
 have BP := BP_
 have B0 := B0_
 have HB := HB_
 clear BP_ B0_ HB_
 have s0 : w8.cell? ⟨gb, 0, none⟩ = some (.int .i64 z) := (blk_cell B0.out 0).trans rfl
 have h := HH.out
 clear HH
 by_cases q1 : z < 1 ∨ 64 < z ∨ p3 ≠ 0
 ·rw [if_pos q1] at h
  obtain rfl := Option.some.inj h
  clear h
  by_cases q2 : z < 1
  ·clear q1
   go_wp2
   go_ret2
   exact ⟨rfl, HB.out⟩
  by_cases q3 : 64 < z
  ·clear q1
   go_wp2
   go_ret2
   exact ⟨rfl, HB.out⟩
  have q4 : (p3 != 0) = true := bne_iff_ne.2 (by omega)
  clear q1
  go_wp2
  go_ret2
  exact ⟨rfl, HB.out⟩
 rw [if_neg q1] at h
 have q2 : ¬ z < 1 := by omega
 have q3 : ¬ 64 < z := by omega
 obtain rfl : p3 = 0 := by omega
 clear q1
 have hcon := Cf.contains_calls 81 #[.pointer (some ⟨gb, 0, none⟩)] (fun args w => rfl) (odd z) A1 c1 L w8 (Kd.C_below HL.out HB.out) (tells gb z L w8 B0.out)
 obtain ⟨od, hod⟩ : ∃ od, odds z L = od := ⟨_, rfl⟩
 have hod2 : decide (0 ≤ Cf.idx (odd z) L 0) = od := hod
 rw [hod2] at hcon
 rw [hod] at h
 have CON := Aside0.mk hcon
 have HH := Aside0.mk h
 clear hcon hod hod2 h
 cases od with
 | true =>
  have h := HH.out
  rw [if_pos rfl] at h
  obtain rfl := Option.some.inj h
  clear h HH
  go_wp2_with (go_at_call 80; (with_reducible refine CON.out.mono ?_); rintro e w9 ⟨rfl, hb⟩; have n0_ := Aside0.mk (below_step HB.out hb); clear HB hb; have HB := n0_; clear n0_)
  go_ret2
  exact ⟨rfl, HB.out⟩
 | false =>
  have h := HH.out
  rw [if_neg (by decide)] at h
  clear HH
  obtain ⟨⟨s1, s2⟩, FI_, h⟩ := Option.bind_eq_some_iff.mp h
  have FI := Aside0.mk FI_
  clear FI_
  have HH := Aside0.mk h
  clear h
  go_upto_region 6 with (go_at_call 80; (with_reducible refine CON.out.mono ?_); rintro e w9 ⟨rfl, hb⟩; have n0_ := Aside0.mk (below_step HB.out hb); have n1_ := Aside0.mk (blk_below B0.out hb); have n2_ := Aside0.mk (blk_below BP.out hb); clear HB B0 BP hb s0; have HB := n0_; have B0 := n1_; have BP := n2_; clear n0_ n1_ n2_; have s0 : w9.cell? ⟨gb, 0, none⟩ = some (.int .i64 z) := (blk_cell B0.out 0).trans rfl; have s1_ : w9.cell? ⟨gp, 0, none⟩ = some (.int .i64 p0) := (blk_cell BP.out 0).trans rfl)
  clear CON
  go_upto_region 7 with (go_at_call 42; (with_reducible refine (seed_Find.calls k p0 s1 s2 _ FI.out).mono ?_); rintro e w10 ⟨rfl, hb⟩; have n0_ := Aside0.mk (below_step HB.out hb); have n1_ := Aside0.mk (blk_below B0.out hb); have n2_ := Aside0.mk (blk_below BP.out hb); clear HB B0 BP hb s0 s1_; have HB := n0_; have B0 := n1_; have BP := n2_; clear n0_ n1_ n2_)
  clear FI
  have h := HH.out
  clear HH
  by_cases q4 : s2 ≠ 0
  ·rw [if_pos q4] at h
   obtain rfl := Option.some.inj h
   have q5 : (s2 != 0) = true := bne_iff_ne.2 q4
   clear h q4
   go_wp2
   go_ret2
   exact ⟨rfl, HB.out⟩
  rw [if_neg q4] at h
  obtain rfl : s2 = 0 := Decidable.not_not.1 q4
  clear q4
  obtain ⟨es, SO_, h⟩ := Option.bind_eq_some_iff.mp h
  obtain ⟨⟨t1, t2⟩, PA_, h⟩ := Option.bind_eq_some_iff.mp h
  have SO := Aside0.mk SO_
  have PA := Aside0.mk PA_
  have HH := Aside0.mk h
  clear SO_ PA_ h
  go_upto_region 9 with (fail)
  refine start_ (n := 13) (S := fun w' => Below w10.heap.size w10 w') (ds := []) (ms 13 0) (by kernel_rfl) rfl rfl (Below.refl _ _).drew (fun hHeld => ?_); refine with_tabW tab9 bits9 (fun HT_ HW_ => ?_)
  have HW := Aside0.mk (show Below w10.heap.size w10 w10.drew from (Below.refl _ _).drew)
  generalize w10.drew = w11 at hHeld HW ⊢
  refine run_ [(0, true, some 39), (1, false, some 40), (2, true, some 41), (3, false, some 42), (4, true, some 43), (6, false, some 45)] (n := 6) (ms 13 95) rfl HT_.out HW_.out (by kernel_rfl) (fun _ _ _ _ h => h) hHeld ?_
  repeat (first | (refine Run.p (v := ?_) (a' := ?_) rfl rfl (Or.inl ⟨by rfl, ?_⟩) ?_ ?_; rotate_left; (focus intro w'; go_simp; with_reducible rfl); rotate_left; (focus simp only [Act.put, List.setIfInBounds_toArray, List.set_cons_zero, List.set_cons_succ, i64_w, i32_w]; rfl)) | (refine Run.t (v := ?_) (a' := ?_) rfl rfl (Or.inl ⟨by rfl, ?_⟩) ?_ ?_; rotate_left; (focus intro w' hS; have b_ := blk_below BP.out hS; have b0_ := blk_below B0.out hS; have s0 : w'.cell? ⟨gp, 0, none⟩ = some (.int .i64 p0) := (blk_cell b_ 0).trans rfl; have s1 : w'.cell? ⟨gp, 1, none⟩ = some (.int .i64 p1) := (blk_cell b_ 1).trans rfl; have s2 : w'.cell? ⟨gp, 2, none⟩ = some (.int .i64 p2) := (blk_cell b_ 2).trans rfl; have s3 : w'.cell? ⟨gb, 0, none⟩ = some (.int .i64 z) := (blk_cell b0_ 0).trans rfl; go_simp; with_reducible rfl); rotate_left; (focus simp only [Act.put, List.setIfInBounds_toArray, List.set_cons_zero, List.set_cons_succ, i64_w, i32_w]; rfl)))
  refine Run.nil ?_
  refine one_ (i := 5) (N := some 44) (ms 13 127) rfl rfl (one_of HT_.out (by kernel_rfl)) (by decide) (fun K hK => ?_)
  refine goes_ Try.func78 (by kernel_rfl) rfl #[.int .i64 p0] (by rfl) rfl rfl agl ?_
  with_reducible refine (seed_Sources.calls k p0 es _ SO.out).mono ?_
  rintro e w12 ⟨v, rfl, ho_, hb_⟩
  refine ⟨_, rfl, ?_⟩
  obtain ⟨Ae, ce, rfl, le_, Ce_⟩ := Kd.R_reads ho_
  have n0_ := Aside0.mk (below_step HW.out hb_)
  have LE := Aside0.mk le_
  have CE := Aside0.mk Ce_
  clear ho_ le_ Ce_ hb_ HW
  have HW := n0_
  clear n0_
  refine hK.out _ _ HW.out (fun hHeld => ?_)
  clear hK
  refine norm_ (a' := ?_) ?_ ?_
  rotate_left
  ·show Act.put _ (some 44) _ = _
   simp only [Act.put, List.setIfInBounds_toArray, List.set_cons_zero, List.set_cons_succ, i64_w, i32_w]
   rfl
  refine one_ (i := 7) (N := some 46) (ms 13 255) rfl rfl (one_of HT_.out (by kernel_rfl)) (by decide) (fun K hK => ?_)
  refine goes_ Try.func82 (by kernel_rfl) rfl #[.agg #[.int .i64 p0, .int .i64 p1, .int .i64 p2], .int .i64 s1, .int .i64 z, .slice Ae es.length ce, .slice A1 L.length c1] (by rfl) rfl rfl agl ?_
  with_reducible refine (block_Parts.calls k p0 p1 p2 s1 z Ae ce es (fun _ => True) A1 c1 L t1 t2 _ CE.out LE.out (VofC (Kd.C_below HL.out (below_step HB.out HW.out)) LC.out _) PA.out).mono ?_
  rintro e w13 ⟨v, rfl, ho_, hb_⟩
  refine ⟨_, rfl, ?_⟩
  obtain ⟨At, ct, rfl, lt_, Ft_⟩ := ho_
  have n0_ := Aside0.mk (below_step HW.out hb_)
  have LT := Aside0.mk lt_
  have CT := Aside0.mk (show (Kd.slice 5 (Kd.int .u8)).C w13 At t1.length t1 from Kd.F_now Ft_)
  clear lt_ Ft_ hb_ HW
  have HW := n0_
  clear n0_
  refine hK.out _ _ HW.out (fun hHeld => ?_)
  clear hK
  refine norm_ (a' := ?_) ?_ ?_
  rotate_left
  ·show Act.put _ (some 46) _ = _
   simp only [Act.put, List.setIfInBounds_toArray, List.set_cons_zero, List.set_cons_succ, i64_w, i32_w]
   rfl
  refine run_ [(8, false, some 38), (9, false, some 47), (10, false, some 48), (11, false, some 9), (12, false, some 7)] (n := 5) (ms 13 8191) rfl HT_.out HW_.out (by kernel_rfl) (fun _ _ _ _ h => h) hHeld ?_
  repeat (refine Run.p (v := ?_) (a' := ?_) rfl rfl (Or.inl ⟨by rfl, ?_⟩) ?_ ?_; rotate_left; (focus intro w'; go_simp; with_reducible rfl); rotate_left; (focus simp only [Act.put, List.setIfInBounds_toArray, List.set_cons_zero, List.set_cons_succ, i64_w, i32_w]; rfl))
  refine Run.nil ?_
  refine done_ (done_of HT_.out (by kernel_rfl)) ?_
  clear HT_ HW_ hHeld
  have n1_ := Aside0.mk (blk_below B0.out HW.out)
  have n2_ := Aside0.mk (blk_below BP.out HW.out)
  have n3_ := Aside0.mk (below_step HB.out HW.out)
  clear HB B0 BP HW SO PA CE LE
  have HB := n3_
  have B0 := n1_
  have BP := n2_
  clear n1_ n2_ n3_
  have h := HH.out
  clear HH
  by_cases q4 : t2 ≠ 0
  ·rw [if_pos q4] at h
   obtain rfl := Option.some.inj h
   have q5 : (t2 != 0) = true := bne_iff_ne.2 q4
   clear h q4
   go_wp2
   go_ret2
   exact ⟨rfl, HB.out⟩
  rw [if_neg q4] at h
  obtain rfl : t2 = 0 := Decidable.not_not.1 q4
  obtain rfl := Option.some.inj h
  clear q4 h
  have s0 : w13.cell? ⟨gp, 0, none⟩ = some (.int .i64 p0) := (blk_cell BP.out 0).trans rfl
  have s1_ : w13.cell? ⟨gp, 1, none⟩ = some (.int .i64 p1) := (blk_cell BP.out 1).trans rfl
  have s2 : w13.cell? ⟨gp, 2, none⟩ = some (.int .i64 p2) := (blk_cell BP.out 2).trans rfl
  have s3 : w13.cell? ⟨gb, 0, none⟩ = some (.int .i64 z) := (blk_cell B0.out 0).trans rfl
  go_wp2_with ((with_reducible refine gate_dst (N := 57) rfl ?_); refine box_event ?hg (N := 57) ?hd (cs := #[.int .i64 p0, .int .i64 p1, .int .i64 p2, .int .i64 s1, .int .i64 z, .slice At t1.length ct]) (t := 75) ?hr ?_; (case hd => rfl); (case hg => rfl); (case hr => first | (go_simp; done) | (go_simp; rfl)); intro gq hg w14 hbox hb; have GQ := Aside0.mk ((by rw [hg]; exact HB.out.size : w.heap.size ≤ gq)); have n0_ := Aside0.mk (below_step HB.out hb); have n1_ := Aside0.mk (Kd.C_below CT.out hb); have BQ := Aside0.mk hbox; clear HB CT hbox hb hg; have HB := n0_; have CT := n1_; clear n0_ n1_)
  go_ret2
  exact ⟨gq, At, ct, rfl, GQ.out, BQ.out, CT.out, LT.out, HB.out⟩
end Go.Proofs.Ytbfhinfblepidaa.Bn
