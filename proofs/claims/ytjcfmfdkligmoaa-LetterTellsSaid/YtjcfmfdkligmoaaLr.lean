/- The reader's take and number; and letter.Read of bytes that tell neither peers nor records. Conditions: those that stand in the theorems. -/
import Derived.Test.YtjcfmfdkligmoaaLt
import Derived.Test.YtjcfmfdkligmoaaPRecordTellsx7
namespace Go.Proofs.Ytjcfmfdkligmoaa.Lr
open Go.RowKit Go.Lib Go.Proofs.Ytjcfmfdkligmoaa.PRecordTells Go.Proofs.Ytjcfmfdkligmoaa.PLetterLimits Go.Proofs.Ytjcfmfdkligmoaa.Lt Go.Proofs.YtjcfmfdkligmoaaW.PrintWords Go.Proofs.YtjcfmfdkligmoaaW.PrintLast Go.Proofs.YtjcfmfdkligmoaaW.PrintMore
set_option linter.unusedVariables false
set_option linter.unusedSimpArgs false
set_option maxHeartbeats 8000000
set_option maxRecDepth 100000
def tk (n : Nat) (s : List Int × Bool) : List Int × (List Int × Bool) := if s.1.length < n then ([], [], true) else (s.1.take n, s.1.drop n, s.2)
structure RS (w0 w : World) (g : Nat) (s : List Int × Bool) : Prop where
  box : ∃ A c, w.heap[g]? = some (.cells #[.slice A s.1.length c, .bool s.2] 73 (0, 0)) ∧ (Kd.int .u8).C w0 A s.1.length s.1 ∧ s.1.length ≤ c
  bel : Below w0.heap.size w0 w
  old : w0.heap.size ≤ g
theorem RS.keep {w0 w w1 : World} {g : Nat} {s : List Int × Bool} (h : RS w0 w g s) (hb : w1.heap[g]? = w.heap[g]?) (hB : Below w0.heap.size w0 w1) : RS w0 w1 g s := by
  obtain ⟨A, c, a, b, d⟩ := h.box
  exact ⟨⟨A, c, hb.trans a, b, d⟩, hB, h.old⟩
theorem box2 {w : World} {g : Nat} {t : TypeId} {a b : Value} (h : w.heap[g]? = some (.cells #[a, b] t (0, 0))) : w.cell? ⟨g, 0, none⟩ = some a ∧ w.cell? ⟨g, 1, none⟩ = some b ∧ w.frozen? ⟨g, 0, none⟩ = false ∧ w.frozen? ⟨g, 1, none⟩ = false :=
  ⟨(blk_cell h 0).trans rfl, (blk_cell h 1).trans rfl, blk_frozen h 0, blk_frozen h 1⟩
theorem nilC (w : World) : (Kd.int .u8).C w none ([] : List Int).length [] := Kd.C_nil _ w
theorem take.calls (w0 : World) (g : Nat) (s : List Int × Bool) (n : Nat) (w : World) (hS : RS w0 w g s) (hn : n ≤ 1000000) :
    Calls Try.prog 42 #[.pointer (some ⟨g, 0, none⟩), .int .i64 (n : Int)] w fun e w' => ∃ A c, e = .returned (.slice A (tk n s).1.length c) ∧ (Kd.int .u8).C w0 A (tk n s).1.length (tk n s).1 ∧ (tk n s).1.length ≤ c ∧ RS w0 w' g (tk n s).2 ∧ KeepBut w w' g none := by
  obtain ⟨bs, bad⟩ := s
  obtain ⟨⟨A, c, hb, hC, hl⟩, hB, hg⟩ := hS
  dsimp only at hb hC hl
  have hbig : bs.length ≤ 9223372036854775807 := hC.2.1
  have BX := Aside0.mk hb
  have CC := Aside0.mk hC
  have BB := Aside0.mk hB
  obtain ⟨s0, s1, f0, f1⟩ := box2 hb
  clear hb hB hC
  obtain ⟨r, hr⟩ : ∃ r, tk n (bs, bad) = r := ⟨_, rfl⟩
  rw [hr]
  unfold tk at hr
  dsimp only at hr
  by_cases hlt : bs.length < n
  · have hz : (bs.length : Int) < (n : Int) := by omega
    rw [if_pos hlt] at hr
    have HR := Aside0.mk hr
    clear hr
    go_enter Try.func42, Try.ntmps42
    go_wp2
    go_ret
    rw [← HR.out]
    exact ⟨none, 0, rfl, nilC _, Nat.le_refl _, ⟨⟨none, 0, blk_put (blk_put BX.out 0 _ rfl) 1 _ rfl, nilC _, Nat.le_refl _⟩, below_set (below_set BB.out hg) hg, hg⟩, ((KeepBut.refl _ _ _).set_ _ _).set_ _ _⟩
  · have hz : ¬ (bs.length : Int) < (n : Int) := by omega
    have hz2 : (n : Int) ≤ (bs.length : Int) := by omega
    have hz3 : (n : Int) ≤ (c : Int) := by omega
    rw [if_neg hlt] at hr
    have e1 : (bs.take n).length = n := by rw [List.length_take]; omega
    have HR := Aside0.mk hr
    have E1 := Aside0.mk e1
    clear hr e1
    by_cases hcn : c = n
    · have hd := Kd.C_drop (c := c) CC.out (m := n) (by omega) hl
      rw [if_pos hcn] at hd
      have HD := Aside0.mk hd
      have EC := Aside0.mk hcn
      clear hd
      subst hcn
      go_enter Try.func42, Try.ntmps42
      go_wp2
      go_ret
      rw [← HR.out]
      refine ⟨A, c, ?_, Kd.C_take CC.out (by omega), by show (bs.take c).length ≤ c; rw [E1.out]; exact Nat.le_refl _, ⟨⟨A, 0, blk_put BX.out 0 _ ?_, HD.out, by show (bs.drop c).length ≤ 0; rw [List.length_drop]; omega⟩, below_set BB.out hg, hg⟩, (KeepBut.refl _ _ _).set_ _ _⟩
      · show _ = Ending.returned (.slice A (bs.take c).length c)
        rw [E1.out]; rfl
      · show _ = #[Value.slice A (bs.drop c).length 0, Value.bool bad]
        rw [List.length_drop, show bs.length - c = 0 from by omega]; rfl
    · have hd := Kd.C_drop (c := c) CC.out (m := n) (by omega) hl
      rw [if_neg hcn, show n * (Kd.int .u8).sz = n from Nat.mul_one n] at hd
      have HD := Aside0.mk hd
      clear hd
      have hnc : ¬ n = c := fun e => hcn e.symm
      go_enter Try.func42, Try.ntmps42
      go_wp2
      go_ret
      rw [← HR.out]
      refine ⟨A, c, ?_, Kd.C_take CC.out (by omega), by show (bs.take n).length ≤ c; rw [E1.out]; omega, ⟨⟨_, c - n, blk_put BX.out 0 _ ?_, HD.out, by show (bs.drop n).length ≤ c - n; rw [List.length_drop]; omega⟩, below_set BB.out hg, hg⟩, (KeepBut.refl _ _ _).set_ _ _⟩
      · show _ = Ending.returned (.slice A (bs.take n).length c)
        rw [E1.out]; rfl
      · show _ = #[Value.slice _ (bs.drop n).length (c - n), Value.bool bad]
        rw [List.length_drop]; rfl
theorem number.calls (k : Nat) (w0 : World) (g : Nat) (s : List Int × Bool) (n : Nat) (v : Int) (w : World) (hS : RS w0 w g s) (hn : n ≤ 1000000) (h : record_Whole.f k (tk n s).1 = some v) :
    Calls Try.prog 41 #[.pointer (some ⟨g, 0, none⟩), .int .i64 (n : Int)] w fun e w' => e = .returned (.int .i64 v) ∧ RS w0 w' g (tk n s).2 ∧ KeepBut w w' g none := by
  have HS := Aside0.mk hS
  clear hS
  obtain ⟨r, hr⟩ : ∃ r, tk n s = r := ⟨_, rfl⟩
  have HT := Aside0.mk (take.calls w0 g s n w HS.out hn)
  rw [hr] at h HT ⊢
  clear hr
  go_enter Try.func41, Try.ntmps41
  go_wp2_with (first | (go_at_call 42; (with_reducible refine HT.out.mono ?_); rintro e w1 ⟨A, c, rfl, hC_, hl_, hS_, hk_⟩; have HC := Aside0.mk hC_; have HL := Aside0.mk hl_; have HS1 := Aside0.mk hS_; have HK := Aside0.mk hk_; clear hC_ hl_ hS_ hk_) | (go_at_call 31; (with_reducible refine (record_Whole.calls k A c r.1 v _ ?s1 HL.out h).mono ?_); (case s1 => exact Kd.C_below HC.out HS1.out.bel); rintro e w' ⟨rfl, ⟨nd, rfl⟩⟩))
  go_ret
  exact ⟨rfl, HS1.out.keep rfl (pw_below_drewN HS1.out.bel _), keep_drewN HK.out _⟩
end Go.Proofs.Ytjcfmfdkligmoaa.Lr
