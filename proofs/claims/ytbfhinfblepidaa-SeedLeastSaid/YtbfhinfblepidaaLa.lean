/- Linear algebra over the field of 256 elements: spans, independence, exchange; how many rows a basis has. No program is in sight; conditions: those that stand in the theorems. -/
import Derived.Test.YtbfhinfblepidaaRw
namespace Go.Proofs.Ytbfhinfblepidaa.La
open Go.Proofs.Ytbfhinfblepidaa.Gf Go.Proofs.Ytbfhinfblepidaa.Rw

abbrev V := Nat → F
def vadd (u v : V) : V := fun i => u i ^^^ v i
def vmul (a : F) (v : V) : V := fun i => fm a (v i)
def vzero : V := fun _ => 0
theorem vadd_comm (u v : V) : vadd u v = vadd v u := funext fun _ => fx_comm _ _
theorem vadd_assoc (u v w : V) : vadd (vadd u v) w = vadd u (vadd v w) := funext fun _ => fx_assoc _ _ _
theorem vadd_zero (u : V) : vadd u vzero = u := funext fun _ => fx_zero _
theorem zero_vadd (u : V) : vadd vzero u = u := funext fun _ => zero_fx _
theorem vadd_self (u : V) : vadd u u = vzero := funext fun _ => fx_self _
theorem vmul_vmul (a b : F) (v : V) : vmul a (vmul b v) = vmul (fm a b) v := funext fun _ => (fm_assoc _ _ _).symm
theorem vmul_add (a : F) (u v : V) : vmul a (vadd u v) = vadd (vmul a u) (vmul a v) := funext fun _ => fm_fx _ _ _
theorem add_vmul (a b : F) (v : V) : vmul (a ^^^ b) v = vadd (vmul a v) (vmul b v) := funext fun _ => fx_fm _ _ _
theorem one_vmul (v : V) : vmul 1 v = v := funext fun _ => one_fm _
theorem zero_vmul (v : V) : vmul 0 v = vzero := funext fun _ => zero_fm _
theorem vmul_zero (a : F) : vmul a vzero = vzero := funext fun _ => fm_zero _
theorem vadd_cancel (u v : V) : vadd u (vadd u v) = v := by rw [← vadd_assoc, vadd_self, zero_vadd]

inductive Span (L : List V) : V → Prop
  | zero : Span L vzero
  | mem {v : V} : v ∈ L → Span L v
  | add {u v : V} : Span L u → Span L v → Span L (vadd u v)
  | smul (a : F) {v : V} : Span L v → Span L (vmul a v)
theorem Span.sub {L M : List V} (h : ∀ v ∈ L, Span M v) {v : V} (hv : Span L v) : Span M v := by
  induction hv with
  | zero => exact .zero
  | mem h' => exact h _ h'
  | add _ _ a b => exact .add a b
  | smul a _ b => exact .smul a b
theorem Span.mono {L M : List V} (h : ∀ v ∈ L, v ∈ M) {v : V} (hv : Span L v) : Span M v := Span.sub (fun v hv => .mem (h v hv)) hv
theorem Span.nil {v : V} (h : Span [] v) : v = vzero := by
  induction h with
  | zero => rfl
  | mem h' => exact absurd h' List.not_mem_nil
  | add _ _ a b => rw [a, b, vadd_zero]
  | smul a _ b => rw [b, vmul_zero]
theorem Span.cons {u : V} {L : List V} {v : V} (h : Span (u :: L) v) : ∃ a w, Span L w ∧ v = vadd (vmul a u) w := by
  induction h with
  | zero => exact ⟨0, vzero, .zero, by rw [zero_vmul, vadd_zero]⟩
  | @mem v h' =>
    rcases List.mem_cons.1 h' with rfl | h'
    · exact ⟨1, vzero, .zero, by rw [one_vmul, vadd_zero]⟩
    · exact ⟨0, v, .mem h', by rw [zero_vmul, zero_vadd]⟩
  | add _ _ h1 h2 =>
    obtain ⟨a, w, hw, rfl⟩ := h1
    obtain ⟨b, x, hx, rfl⟩ := h2
    refine ⟨a ^^^ b, vadd w x, .add hw hx, ?_⟩
    rw [add_vmul, vadd_assoc, vadd_assoc]
    congr 1
    rw [← vadd_assoc, vadd_comm w, vadd_assoc]
  | smul c _ h1 =>
    obtain ⟨a, w, hw, rfl⟩ := h1
    exact ⟨fm c a, vmul c w, .smul c hw, by rw [vmul_add, vmul_vmul]⟩
/-- What holds of all rows, of sums and of multiples, holds of the span. -/
theorem Span.all {L : List V} {P : V → Prop} (h0 : P vzero) (hm : ∀ v ∈ L, P v) (ha : ∀ u v, P u → P v → P (vadd u v)) (hs : ∀ a v, P v → P (vmul a v)) {v : V} (h : Span L v) : P v := by
  induction h with
  | zero => exact h0
  | mem h' => exact hm _ h'
  | add _ _ a b => exact ha _ _ a b
  | smul a _ b => exact hs a _ b

def Indep : List V → Prop
  | [] => True
  | v :: L => ¬ Span L v ∧ Indep L
theorem swap_head {a : F} (ha : a ≠ 0) {u v w : V} (h : v = vadd (vmul a u) w) : u = vadd (vmul (fi a) v) (vmul (fi a) w) := by
  rw [h, vmul_add, vmul_vmul, fm_comm (fi a), fm_fi ha, one_vmul, vadd_assoc, vadd_self, vadd_zero]
/-- One of the further rows goes for one that the former do not span. -/
theorem one_in {B : List V} {v : V} (hv : ¬ Span B v) : ∀ C : List V, Span (C ++ B) v → ∃ D, D.length + 1 = C.length ∧ ∀ x, Span (C ++ B) x → Span (D ++ (v :: B)) x := by
  intro C
  induction C with
  | nil => intro h; exact absurd h hv
  | cons u C ih =>
    intro h
    obtain ⟨a, w, hw, hvw⟩ := Span.cons h
    by_cases ha : a = 0
    · subst ha
      rw [zero_vmul, zero_vadd] at hvw
      subst hvw
      obtain ⟨D, hD, hs⟩ := ih hw
      refine ⟨u :: D, by simp [hD], fun x hx => ?_⟩
      refine Span.sub (fun y hy => ?_) hx
      rcases List.mem_cons.1 hy with rfl | hy
      · exact .mem (by simp)
      · exact Span.mono (fun z hz => by simp only [List.cons_append, List.mem_cons]; exact .inr hz) (hs y (.mem hy))
    · refine ⟨C, by simp, fun x hx => ?_⟩
      refine Span.sub (fun y hy => ?_) hx
      have hB : ∀ z, Span (C ++ B) z → Span (C ++ (v :: B)) z := fun z hz => Span.mono (fun t ht => by simp only [List.mem_append, List.mem_cons] at ht ⊢; rcases ht with h1 | h1; exact .inl h1; exact .inr (.inr h1)) hz
      rcases List.mem_cons.1 hy with rfl | hy
      · rw [swap_head ha hvw]
        exact .add (.smul _ (.mem (by simp))) (.smul _ (hB w hw))
      · exact hB y (.mem hy)
theorem all_in {U : List V} : ∀ B : List V, Indep B → (∀ v ∈ B, Span U v) → ∃ C, C.length + B.length = U.length ∧ ∀ x, Span U x → Span (C ++ B) x := by
  intro B
  induction B with
  | nil => intro _ _; exact ⟨U, by simp, fun x hx => by simpa using hx⟩
  | cons v B ih =>
    intro hI hs
    obtain ⟨C, hC, hx⟩ := ih hI.2 (fun x hx => hs x (by simp [hx]))
    obtain ⟨D, hD, hy⟩ := one_in hI.1 C (hx v (hs v (by simp)))
    exact ⟨D, by simp only [List.length_cons]; omega, fun x h => hy x (hx x h)⟩
/-- Independent rows are no more than those that span them. -/
theorem indep_le {B U : List V} (hI : Indep B) (hs : ∀ v ∈ B, Span U v) : B.length ≤ U.length := by
  obtain ⟨C, hC, _⟩ := all_in B hI hs
  omega
/-- So many rows are a basis of what L spans. -/
def Dim (L : List V) (n : Nat) : Prop := ∃ B, Indep B ∧ B.length = n ∧ (∀ v ∈ B, Span L v) ∧ ∀ v ∈ L, Span B v
theorem dim_unique {L M : List V} {m n : Nat} (h1 : Dim L m) (h2 : Dim M n) (h : ∀ v, Span L v ↔ Span M v) : m = n := by
  obtain ⟨B, b1, b2, b3, b4⟩ := h1
  obtain ⟨C, c1, c2, c3, c4⟩ := h2
  have e1 := indep_le (U := C) b1 (fun v hv => Span.sub c4 ((h v).1 (b3 v hv)))
  have e2 := indep_le (U := B) c1 (fun v hv => Span.sub b4 ((h v).2 (c3 v hv)))
  omega
theorem dim_le {L : List V} {n : Nat} (h : Dim L n) : n ≤ L.length := by
  obtain ⟨B, b1, b2, b3, _⟩ := h
  have := indep_le b1 b3
  omega
theorem dim_mono {L M : List V} {m n : Nat} (h1 : Dim L m) (h2 : Dim M n) (h : ∀ v ∈ L, Span M v) : m ≤ n := by
  obtain ⟨B, b1, b2, b3, b4⟩ := h1
  obtain ⟨C, c1, c2, c3, c4⟩ := h2
  have e1 := indep_le (U := C) b1 (fun v hv => Span.sub c4 (Span.sub h (b3 v hv)))
  omega
/-- A row more raises it by one, or not. -/
theorem dim_snoc {L : List V} {r : V} {a b : Nat} (h1 : Dim L a) (h2 : Dim (L ++ [r]) b) : b = a ∨ b = a + 1 := by
  have hm : ∀ v, Span L v → Span (L ++ [r]) v := fun v hv => Span.mono (fun x hx => by simp [hx]) hv
  by_cases h : Span L r
  · left
    refine (dim_unique h1 h2 fun v => ⟨hm v, fun hv => Span.sub (fun x hx => ?_) hv⟩).symm
    rcases List.mem_append.1 hx with hx | hx
    · exact .mem hx
    · rw [List.mem_singleton.1 hx]; exact h
  · right
    obtain ⟨B, b1, b2, b3, b4⟩ := h1
    have hd : Dim (L ++ [r]) (a + 1) := by
      refine ⟨r :: B, ⟨fun k => h (Span.sub b3 k), b1⟩, by simp [b2], fun v hv => ?_, fun v hv => ?_⟩
      · rcases List.mem_cons.1 hv with rfl | hv
        · exact .mem (by simp)
        · exact hm v (b3 v hv)
      · rcases List.mem_append.1 hv with hv | hv
        · exact Span.mono (fun x hx => by simp [hx]) (b4 v hv)
        · rw [List.mem_singleton.1 hv]; exact .mem (by simp)
    exact dim_unique h2 hd fun v => Iff.rfl
theorem dim_same {L : List V} {r : V} {a b : Nat} (h1 : Dim L a) (h2 : Dim (L ++ [r]) b) (h : Span L r) : b = a := by
  refine (dim_unique h1 h2 fun v => ⟨fun hv => Span.mono (fun x hx => by simp [hx]) hv, fun hv => Span.sub (fun x hx => ?_) hv⟩).symm
  rcases List.mem_append.1 hx with hx | hx
  · exact .mem hx
  · rw [List.mem_singleton.1 hx]; exact h
end Go.Proofs.Ytbfhinfblepidaa.La
