/- What the printed functions of package field, and of the document's first chapter, come to, in the numbers of Gf: for bytes, whatever the other arguments. -/
import Derived.Test.YtjcfmfdkligmoaaGf
import Derived.Test.YtjcfmfdkligmoaaPRecordLimitsx
namespace Go.Proofs.Ytjcfmfdkligmoaa.FRecordLimits
open Go.RowKit Go.Proofs.Ytjcfmfdkligmoaa.PRecordLimits Go.Proofs.YtjcfmfdkligmoaaW.PrintWords Go.Proofs.YtjcfmfdkligmoaaW.PrintLast Go.Proofs.YtjcfmfdkligmoaaW.PrintMore Go.Proofs.Ytjcfmfdkligmoaa.Gf

theorem w64 {i : Int} (h0 : -9223372036854775808 ≤ i) (h1 : i < 9223372036854775808) : wrap64 i = i := by unfold wrap64; omega
theorem u64w {i : Int} (h0 : 0 ≤ i) (h1 : i < 9223372036854775808) : IntKind.u64.wrap i = i := by
  simp [IntKind.wrap, IntKind.bits, IntKind.signed]; omega
theorem rd_drop {l : List Int} {x : Int} {t : List Int} {i : Nat} (h : l.drop i = x :: t) : rd l (i : Int) = x ∧ i < l.length ∧ l.drop (i + 1) = t := by
  have hi : i < l.length := by
    rcases Nat.lt_or_ge i l.length with h' | h'
    · exact h'
    · rw [List.drop_eq_nil_of_le h'] at h; cases h
  have := List.drop_eq_getElem_cons hi
  rw [this] at h
  injection h with h1 h2
  refine ⟨?_, hi, h2⟩
  unfold rd
  simp [List.getD, hi, h1]
theorem xor_i64 (a b : Nat) (ha : a < 2 ^ 40) (hb : b < 2 ^ 40) : Go.bits .xor .i64 (a : Int) (b : Int) = ((a ^^^ b : Nat) : Int) := by
  have hx : a ^^^ b < 2 ^ 40 := Nat.xor_lt_two_pow ha hb
  have hp : 2 ^ 40 ≤ 2 ^ IntKind.i64.bits := by decide
  have ha' : a % 2 ^ IntKind.i64.bits = a := Nat.mod_eq_of_lt (by omega)
  have hb' : b % 2 ^ IntKind.i64.bits = b := Nat.mod_eq_of_lt (by omega)
  simp only [Go.bits, BitVec.ofInt_natCast, BitVec.toNat_xor, BitVec.toNat_ofNat, ha', hb']
  rw [IntWalk.i64_left]
  exact w64 (by omega) (by omega)
theorem and_i64 (a b : Nat) (ha : a < 2 ^ 40) (hb : b < 2 ^ 40) : Go.bits .and .i64 (a : Int) (b : Int) = ((a &&& b : Nat) : Int) := by
  have hx : a &&& b < 2 ^ 40 := Nat.and_lt_two_pow a hb
  have hp : 2 ^ 40 ≤ 2 ^ IntKind.i64.bits := by decide
  have ha' : a % 2 ^ IntKind.i64.bits = a := Nat.mod_eq_of_lt (by omega)
  have hb' : b % 2 ^ IntKind.i64.bits = b := Nat.mod_eq_of_lt (by omega)
  simp only [Go.bits, BitVec.ofInt_natCast, BitVec.toNat_and, BitVec.toNat_ofNat, ha', hb']
  rw [IntWalk.i64_left]
  exact w64 (by omega) (by omega)
theorem and1_i64 (a : Nat) (ha : a < 2 ^ 40) : Go.bits .and .i64 (a : Int) 1 = ((a % 2 : Nat) : Int) := by
  have := and_i64 a 1 ha (by decide)
  rw [Nat.and_one_is_mod] at this; exact this
theorem and1_u8 (a : Nat) (ha : a < 256) : Go.bits .and .u8 (a : Int) 1 = ((a % 2 : Nat) : Int) := by
  have := u8_and_nat a 1 ha (by decide)
  rw [Nat.and_one_is_mod] at this; exact this
theorem tb0 (a : Nat) : a.testBit 0 = decide (a % 2 = 1) := by simp [Nat.testBit_zero]
theorem odd_iff (a : Nat) : (((a % 2 : Nat) : Int) = 1) ↔ a.testBit 0 = true := by rw [tb0]; simp; omega
theorem ev_pos {α : Type} {c : Prop} [Decidable c] {f g : Nat → Option α} {r : α} (h : c) (e : Ev f r) : Ev (fun k => if c then f k else g k) r := by
  simp only [if_pos h]; exact e
theorem ev_neg {α : Type} {c : Prop} [Decidable c] {f g : Nat → Option α} {r : α} (h : ¬ c) (e : Ev g r) : Ev (fun k => if c then f k else g k) r := by
  simp only [if_neg h]; exact e
/-- A call without rounds: what it comes to is laid in. (By a lemma, not by 'simp only [Option.bind_some]': the kernel would reckon on both sides.) -/
theorem ev_val {α β : Type} {o : Option α} {a : α} {F : Nat → α → Option β} {r : β} (h : o = some a) (e : Ev (fun k => F k a) r) : Ev (fun k => o.bind (F k)) r := by
  subst h; exact e
theorem ev_eq {α : Type} {g f : Nat → Option α} {r : α} (h : ∀ k, g k = f k) (e : Ev f r) : Ev g r := Ev.congr h e
set_option maxRecDepth 100000 in
theorem alive14_ev : Ev (fun k => fountainlaw14_alive.f k) true := Ev.of (fun k => fountainlaw14_alive.mono k) (k := 40) (by kernel_rfl)

end Go.Proofs.Ytjcfmfdkligmoaa.FRecordLimits
