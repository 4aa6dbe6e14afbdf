/- Linear algebra over the field of 256 elements: spans, independence, exchange; how many rows a basis has. No program is in sight; conditions: those that stand in the theorems. -/
import Derived.Test.YtbfhinfblepidaaRw
namespace Go.Proofs.Ytbfhinfblepidaa.La
open Go.Proofs.Ytbfhinfblepidaa.Gf Go.Proofs.Ytbfhinfblepidaa.Rw
abbrev V := Nat → F
def vadd (u v : V) : V := fun i => u i ^^^ v i
def vmul (a : F) (v : V) : V := fun i => fm a (v i)
def vzero : V := fun _ => 0
theorem vadd_comm (u v : V) : vadd u v = vadd v u := funext fun _ => fx_comm _ _
theorem vadd_assoc (u v w : V) : vadd (vadd u v) w = vadd u (vadd v w) := funext fun _ => fx_assoc _ _ _
theorem vadd_zero (u : V) : vadd u vzero = u := funext fun _ => fx_zero _
theorem zero_vadd (u : V) : vadd vzero u = u := funext fun _ => zero_fx _
theorem vadd_self (u : V) : vadd u u = vzero := funext fun _ => fx_self _
theorem vmul_vmul (a b : F) (v : V) : vmul a (vmul b v) = vmul (fm a b) v := funext fun _ => (fm_assoc _ _ _).symm
theorem vmul_add (a : F) (u v : V) : vmul a (vadd u v) = vadd (vmul a u) (vmul a v) := funext fun _ => fm_fx _ _ _
theorem add_vmul (a b : F) (v : V) : vmul (a ^^^ b) v = vadd (vmul a v) (vmul b v) := funext fun _ => fx_fm _ _ _
theorem one_vmul (v : V) : vmul 1 v = v := funext fun _ => one_fm _
theorem zero_vmul (v : V) : vmul 0 v = vzero := funext fun _ => zero_fm _
theorem vmul_zero (a : F) : vmul a vzero = vzero := funext fun _ => fm_zero _
inductive Span (L : List V) : V → Prop
  | zero : Span L vzero
  | mem {v : V} : v ∈ L → Span L v
  | add {u v : V} : Span L u → Span L v → Span L (vadd u v)
  | smul (a : F) {v : V} : Span L v → Span L (vmul a v)
theorem Span.sub {L M : List V} (h : ∀ v ∈ L, Span M v) {v : V} (hv : Span L v) : Span M v := by
  induction hv with
  | zero => exact .zero
  | mem h' => exact h _ h'
  | add _ _ a b => exact .add a b
  | smul a _ b => exact .smul a b
theorem Span.mono {L M : List V} (h : ∀ v ∈ L, v ∈ M) {v : V} (hv : Span L v) : Span M v := Span.sub (fun v hv => .mem (h v hv)) hv
theorem Span.nil {v : V} (h : Span [] v) : v = vzero := by
  induction h with
  | zero => rfl
  | mem h' => exact absurd h' List.not_mem_nil
  | add _ _ a b => rw [a, b, vadd_zero]
  | smul a _ b => rw [b, vmul_zero]
theorem Span.cons {u : V} {L : List V} {v : V} (h : Span (u :: L) v) : ∃ a w, Span L w ∧ v = vadd (vmul a u) w := by
  induction h with
  | zero => exact ⟨0, vzero, .zero, by rw [zero_vmul, vadd_zero]⟩
  | @mem v h' =>
    rcases List.mem_cons.1 h' with rfl | h'
    · exact ⟨1, vzero, .zero, by rw [one_vmul, vadd_zero]⟩
    · exact ⟨0, v, .mem h', by rw [zero_vmul, zero_vadd]⟩
  | add _ _ h1 h2 =>
    obtain ⟨a, w, hw, rfl⟩ := h1
    obtain ⟨b, x, hx, rfl⟩ := h2
    refine ⟨a ^^^ b, vadd w x, .add hw hx, ?_⟩
    rw [add_vmul, vadd_assoc, vadd_assoc]
    congr 1
    rw [← vadd_assoc, vadd_comm w, vadd_assoc]
  | smul c _ h1 =>
    obtain ⟨a, w, hw, rfl⟩ := h1
    exact ⟨fm c a, vmul c w, .smul c hw, by rw [vmul_add, vmul_vmul]⟩
theorem Span.all {L : List V} {P : V → Prop} (h0 : P vzero) (hm : ∀ v ∈ L, P v) (ha : ∀ u v, P u → P v → P (vadd u v)) (hs : ∀ a v, P v → P (vmul a v)) {v : V} (h : Span L v) : P v := by
  induction h with
  | zero => exact h0
  | mem h' => exact hm _ h'
  | add _ _ a b => exact ha _ _ a b
  | smul a _ b => exact hs a _ b
def Indep : List V → Prop
  | [] => True
  | v :: L => ¬ Span L v ∧ Indep L
theorem swap_head {a : F} (ha : a ≠ 0) {u v w : V} (h : v = vadd (vmul a u) w) : u = vadd (vmul (fi a) v) (vmul (fi a) w) := by
  rw [h, vmul_add, vmul_vmul, fm_comm (fi a), fm_fi ha, one_vmul, vadd_assoc, vadd_self, vadd_zero]
theorem one_in {B : List V} {v : V} (hv : ¬ Span B v) : ∀ C : List V, Span (C ++ B) v → ∃ D, D.length + 1 = C.length ∧ ∀ x, Span (C ++ B) x → Span (D ++ (v :: B)) x := by
  intro C
  induction C with
  | nil => intro h; exact absurd h hv
  | cons u C ih =>
    intro h
    obtain ⟨a, w, hw, hvw⟩ := Span.cons h
    by_cases ha : a = 0
    · subst ha
      rw [zero_vmul, zero_vadd] at hvw
      subst hvw
      obtain ⟨D, hD, hs⟩ := ih hw
      refine ⟨u :: D, by simp [hD], fun x hx => ?_⟩
      refine Span.sub (fun y hy => ?_) hx
      rcases List.mem_cons.1 hy with rfl | hy
      · exact .mem (by simp)
      · exact Span.mono (fun z hz => by simp only [List.cons_append, List.mem_cons]; exact .inr hz) (hs y (.mem hy))
    · refine ⟨C, by simp, fun x hx => ?_⟩
      refine Span.sub (fun y hy => ?_) hx
      have hB : ∀ z, Span (C ++ B) z → Span (C ++ (v :: B)) z := fun z hz => Span.mono (fun t ht => by simp only [List.mem_append, List.mem_cons] at ht ⊢; rcases ht with h1 | h1; exact .inl h1; exact .inr (.inr h1)) hz
      rcases List.mem_cons.1 hy with rfl | hy
      · rw [swap_head ha hvw]
        exact .add (.smul _ (.mem (by simp))) (.smul _ (hB w hw))
      · exact hB y (.mem hy)
theorem all_in {U : List V} : ∀ B : List V, Indep B → (∀ v ∈ B, Span U v) → ∃ C, C.length + B.length = U.length ∧ ∀ x, Span U x → Span (C ++ B) x := by
  intro B
  induction B with
  | nil => intro _ _; exact ⟨U, by simp, fun x hx => by simpa using hx⟩
  | cons v B ih =>
    intro hI hs
    obtain ⟨C, hC, hx⟩ := ih hI.2 (fun x hx => hs x (by simp [hx]))
    obtain ⟨D, hD, hy⟩ := one_in hI.1 C (hx v (hs v (by simp)))
    exact ⟨D, by simp only [List.length_cons]; omega, fun x h => hy x (hx x h)⟩
theorem indep_le {B U : List V} (hI : Indep B) (hs : ∀ v ∈ B, Span U v) : B.length ≤ U.length := by
  obtain ⟨C, hC, _⟩ := all_in B hI hs
  omega
def Dim (L : List V) (n : Nat) : Prop := ∃ B, Indep B ∧ B.length = n ∧ (∀ v ∈ B, Span L v) ∧ ∀ v ∈ L, Span B v
theorem dim_mono {L M : List V} {m n : Nat} (h1 : Dim L m) (h2 : Dim M n) (h : ∀ v ∈ L, Span M v) : m ≤ n := by
  obtain ⟨B, b1, b2, b3, b4⟩ := h1
  obtain ⟨C, c1, c2, c3, c4⟩ := h2
  have e1 := indep_le (U := C) b1 (fun v hv => Span.sub c4 (Span.sub h (b3 v hv)))
  omega
end Go.Proofs.Ytbfhinfblepidaa.La
namespace Go.Proofs.Ytbfhinfblepidaa.Sv
open Go.Proofs.Ytbfhinfblepidaa.Gf Go.Proofs.Ytbfhinfblepidaa.Rw Go.Proofs.Ytbfhinfblepidaa.La
def el (r : List F) (c : Nat) : F := r.getD c 0
def row (M : List (List F)) (i : Nat) : List F := M.getD i []
theorem el_nil (c : Nat) : el [] c = 0 := by simp [el]
theorem el_of_le {r : List F} {c : Nat} (h : r.length ≤ c) : el r c = 0 := by unfold el; rw [List.getD_eq_getElem?_getD, List.getElem?_eq_none h]; rfl
theorem el_add {x : List F} : ∀ {y : List F}, x.length = y.length → ∀ c, el (addTo x y) c = el x c ^^^ el y c := by
  induction x with
  | nil => intro y h c; cases y with
    | nil => simp only [addTo, el_nil, fx_self]
    | cons _ _ => simp at h
  | cons a x ih => intro y h c; cases y with
    | nil => simp at h
    | cons b y =>
      cases c with
      | zero => simp [el, addTo]
      | succ c => simpa [el, addTo] using ih (by simpa using h) c
theorem el_scale (a : F) (x : List F) (c : Nat) : el (scaleR a x) c = fm a (el x c) := by
  unfold el scaleR
  rw [List.getD_eq_getElem?_getD, List.getD_eq_getElem?_getD, List.getElem?_map]
  cases x[c]? with
  | none => exact (fm_zero a).symm
  | some _ => rfl
def pivFrom (c : Nat) : List (List F) → Nat → Option Nat
  | [], _ => none
  | r :: L, i => if el r c ≠ 0 then some i else pivFrom c L (i + 1)
def piv (M : List (List F)) (c n : Nat) : Option Nat := pivFrom c (M.drop n) n
theorem row_cons_succ (r : List F) (L : List (List F)) (i : Nat) : row (r :: L) (i + 1) = row L i := rfl
theorem row_drop (M : List (List F)) (n i : Nat) : row (M.drop n) i = row M (n + i) := by unfold row; rw [List.getD_eq_getElem?_getD, List.getD_eq_getElem?_getD, List.getElem?_drop]
theorem pivFrom_some {c : Nat} : ∀ {L : List (List F)} {i p : Nat}, pivFrom c L i = some p → ∃ k, p = i + k ∧ k < L.length ∧ el (row L k) c ≠ 0 := by
  intro L
  induction L with
  | nil => intro i p h; simp [pivFrom] at h
  | cons r L ih =>
    intro i p h
    unfold pivFrom at h
    split at h
    · rename_i h1
      obtain rfl := Option.some.inj h
      exact ⟨0, rfl, by simp, h1⟩
    · obtain ⟨k, h1, h2, h3⟩ := ih h
      exact ⟨k + 1, by omega, by simp; exact h2, h3⟩
theorem pivFrom_none {c : Nat} : ∀ {L : List (List F)} {i : Nat}, pivFrom c L i = none → ∀ k, k < L.length → el (row L k) c = 0 := by
  intro L
  induction L with
  | nil => intro i _ k h; simp at h
  | cons r L ih =>
    intro i h k hk
    unfold pivFrom at h
    split at h
    · cases h
    · rename_i h1
      cases k with
      | zero => exact Decidable.not_not.1 h1
      | succ k => exact ih h k (by simpa using hk)
theorem piv_some {M : List (List F)} {c n p : Nat} (h : piv M c n = some p) : n ≤ p ∧ p < M.length ∧ el (row M p) c ≠ 0 := by
  obtain ⟨k, h1, h2, h3⟩ := pivFrom_some h
  rw [List.length_drop] at h2
  rw [row_drop] at h3
  subst h1
  exact ⟨by omega, by omega, h3⟩
theorem piv_none {M : List (List F)} {c n : Nat} (h : piv M c n = none) (j : Nat) (h1 : n ≤ j) (h2 : j < M.length) : el (row M j) c = 0 := by
  have := pivFrom_none h (j - n) (by rw [List.length_drop]; omega)
  rwa [row_drop, show n + (j - n) = j from by omega] at this
def clr (R : List F) (c n : Nat) : Nat → List (List F) → List (List F)
  | _, [] => []
  | i, x :: L => (if i = n then x else if el x c = 0 then x else addTo x (scaleR (el x c) R)) :: clr R c n (i + 1) L
theorem clr_length (R : List F) (c n : Nat) : ∀ (L : List (List F)) (i : Nat), (clr R c n i L).length = L.length := by
  intro L
  induction L with
  | nil => intro i; rfl
  | cons x L ih => intro i; simp only [clr, List.length_cons, ih]
theorem clr_row (R : List F) (c n : Nat) : ∀ (L : List (List F)) (i j : Nat), j < L.length → row (clr R c n i L) j = if i + j = n then row L j else if el (row L j) c = 0 then row L j else addTo (row L j) (scaleR (el (row L j) c) R) := by
  intro L
  induction L with
  | nil => intro i j h; simp at h
  | cons x L ih =>
    intro i j h
    cases j with
    | zero => rfl
    | succ j =>
      rw [show clr R c n i (x :: L) = (if i = n then x else if el x c = 0 then x else addTo x (scaleR (el x c) R)) :: clr R c n (i + 1) L from rfl, row_cons_succ, row_cons_succ, ih (i + 1) j (by simpa using h)]
      rw [show i + 1 + j = i + (j + 1) from by omega]
def swp (M : List (List F)) (c n p : Nat) : List (List F) := (M.set p (row M n)).set n (scaleR (fi (el (row M p) c)) (row M p))
def pstep (M : List (List F)) (c n p : Nat) : List (List F) := clr (scaleR (fi (el (row M p) c)) (row M p)) c n 0 (swp M c n p)
theorem swp_length (M : List (List F)) (c n p : Nat) : (swp M c n p).length = M.length := by unfold swp; rw [List.length_set, List.length_set]
theorem row_set (M : List (List F)) (i j : Nat) (r : List F) (h : i < M.length) : row (M.set i r) j = if i = j then r else row M j := by
  unfold row
  rw [List.getD_eq_getElem?_getD, List.getElem?_set, List.getD_eq_getElem?_getD]
  split
  · rename_i h1; subst h1; first | (rw [if_pos h]; rfl) | rfl
  · rfl
theorem swp_row (M : List (List F)) (c n p j : Nat) (h1 : n < M.length) (h2 : p < M.length) : row (swp M c n p) j = if n = j then scaleR (fi (el (row M p) c)) (row M p) else if p = j then row M n else row M j := by
  unfold swp
  rw [row_set _ _ _ _ (by rw [List.length_set]; exact h1)]
  split
  · rfl
  · rw [row_set _ _ _ _ h2]
theorem pstep_length (M : List (List F)) (c n p : Nat) : (pstep M c n p).length = M.length := by unfold pstep; rw [clr_length, swp_length]
theorem row_mem {M : List (List F)} {j : Nat} (h : j < M.length) : row M j ∈ M := by
  unfold row; rw [List.getD_eq_getElem?_getD, List.getElem?_eq_getElem h]; exact List.getElem_mem h
theorem of_mem {M : List (List F)} {r : List F} (h : r ∈ M) : ∃ j, j < M.length ∧ row M j = r := by
  obtain ⟨j, hj, e⟩ := List.getElem_of_mem h
  exact ⟨j, hj, by unfold row; rw [List.getD_eq_getElem?_getD, List.getElem?_eq_getElem hj]; exact e⟩
section
variable {W : Nat} {M : List (List F)} {c n p : Nat}
theorem pstep_el (hl : ∀ r ∈ M, r.length = W) (h1 : n < M.length) (h2 : p < M.length) {j : Nat} (hj : j < M.length) (k : Nat) :
    el (row (pstep M c n p) j) k = if n = j then fm (fi (el (row M p) c)) (el (row M p) k) else
      (el (if p = j then row M n else row M j) k ^^^ fm (el (if p = j then row M n else row M j) c) (fm (fi (el (row M p) c)) (el (row M p) k))) := by
  unfold pstep
  rw [clr_row _ _ _ _ _ _ (by rw [swp_length]; exact hj), Nat.zero_add, swp_row M c n p j h1 h2]
  by_cases e : n = j
  · rw [if_pos e.symm, if_pos e, if_pos e, el_scale]
  · rw [if_neg (fun k => e k.symm), if_neg e, if_neg e]
    generalize hx : (if p = j then row M n else row M j) = x
    have hxl : x.length = W := by
      rw [← hx]
      split
      · exact hl _ (row_mem h1)
      · exact hl _ (row_mem hj)
    by_cases z : el x c = 0
    · rw [if_pos z, z, zero_fm, fx_zero]
    · rw [if_neg z, el_add (by rw [scaleR_length, scaleR_length, hxl, hl _ (row_mem h2)]), el_scale, el_scale]
theorem pstep_len (hl : ∀ r ∈ M, r.length = W) (h1 : n < M.length) (h2 : p < M.length) : ∀ r ∈ pstep M c n p, r.length = W := by
  intro r hr
  obtain ⟨j, hj, rfl⟩ := of_mem hr
  rw [pstep_length] at hj
  unfold pstep
  rw [clr_row _ _ _ _ _ _ (by rw [swp_length]; exact hj), Nat.zero_add, swp_row M c n p j h1 h2]
  have hx : (if n = j then scaleR (fi (el (row M p) c)) (row M p) else if p = j then row M n else row M j).length = W := by
    split
    · rw [scaleR_length]; exact hl _ (row_mem h2)
    · split
      · exact hl _ (row_mem h1)
      · exact hl _ (row_mem hj)
  generalize (if n = j then scaleR (fi (el (row M p) c)) (row M p) else if p = j then row M n else row M j) = x at hx ⊢
  by_cases e1 : j = n
  · rw [if_pos e1]; exact hx
  · rw [if_neg e1]
    by_cases e2 : el x c = 0
    · rw [if_pos e2]; exact hx
    · rw [if_neg e2, addTo_length]; exact hx
def vecs (M : List (List F)) : List V := M.map el
theorem vecs_mem {M : List (List F)} {j : Nat} (h : j < M.length) : el (row M j) ∈ vecs M := List.mem_map_of_mem (row_mem h)
theorem of_vecs {M : List (List F)} {v : V} (h : v ∈ vecs M) : ∃ j, j < M.length ∧ v = el (row M j) := by
  obtain ⟨r, hr, rfl⟩ := List.mem_map.1 h
  obtain ⟨j, hj, rfl⟩ := of_mem hr
  exact ⟨j, hj, rfl⟩
theorem pstep_span (hl : ∀ r ∈ M, r.length = W) (h1 : n < M.length) (h2 : p < M.length) (h3 : el (row M p) c ≠ 0) (v : V) : Span (vecs (pstep M c n p)) v ↔ Span (vecs M) v := by
  have hv : ∀ j, j < M.length → el (row (pstep M c n p) j) = if n = j then vmul (fi (el (row M p) c)) (el (row M p)) else
      vadd (el (if p = j then row M n else row M j)) (vmul (el (if p = j then row M n else row M j) c) (vmul (fi (el (row M p) c)) (el (row M p)))) := by
    intro j hj
    funext k
    rw [pstep_el hl h1 h2 hj k]
    split <;> rfl
  have hR : Span (vecs M) (vmul (fi (el (row M p) c)) (el (row M p))) := .smul _ (.mem (vecs_mem h2))
  have hn' : el (row (pstep M c n p) n) = vmul (fi (el (row M p) c)) (el (row M p)) := by rw [hv n h1, if_pos rfl]
  have hR' : Span (vecs (pstep M c n p)) (vmul (fi (el (row M p) c)) (el (row M p))) := by rw [← hn']; exact .mem (vecs_mem (by rw [pstep_length]; exact h1))
  constructor
  · refine Span.sub fun v hv0 => ?_
    obtain ⟨j, hj, rfl⟩ := of_vecs hv0
    rw [pstep_length] at hj
    rw [hv j hj]
    split
    · exact hR
    · refine .add ?_ (.smul _ hR)
      split
      · exact .mem (vecs_mem h1)
      · exact .mem (vecs_mem hj)
  · refine Span.sub fun v hv0 => ?_
    obtain ⟨j, hj, rfl⟩ := of_vecs hv0
    have hp : Span (vecs (pstep M c n p)) (el (row M p)) := by
      have := Span.smul (el (row M p) c) hR'
      rwa [vmul_vmul, fm_fi h3, one_vmul] at this
    have back : ∀ i, i < M.length → n ≠ i → Span (vecs (pstep M c n p)) (el (if p = i then row M n else row M i)) := by
      intro i hi hne
      have h4 : Span (vecs (pstep M c n p)) (el (row (pstep M c n p) i)) := .mem (vecs_mem (by rw [pstep_length]; exact hi))
      rw [hv i hi, if_neg hne] at h4
      have h5 := Span.add h4 (Span.smul (el (if p = i then row M n else row M i) c) hR')
      rwa [vadd_assoc, vadd_self, vadd_zero] at h5
    by_cases e1 : p = j
    · subst e1; exact hp
    · by_cases e2 : n = j
      · subst e2
        have := back p h2 (fun k => e1 k.symm)
        rwa [if_pos rfl] at this
      · have := back j hj e2
        rwa [if_neg e1] at this
end
structure Red (W c n : Nat) (ps : List Nat) (M : List (List F)) : Prop where
  len : ∀ r ∈ M, r.length = W
  pl : ps.length = n
  nl : n ≤ M.length
  one : ∀ (i p : Nat), ps[i]? = some p → p < c ∧ el (row M i) p = 1 ∧ ∀ j, j < M.length → j ≠ i → el (row M j) p = 0
  inc : ∀ (i j p q : Nat), ps[i]? = some p → ps[j]? = some q → i < j → p < q
  low : ∀ j, n ≤ j → j < M.length → ∀ k, k < c → el (row M j) k = 0
theorem Red.start {W : Nat} {M : List (List F)} (h : ∀ r ∈ M, r.length = W) : Red W 0 0 [] M :=
  ⟨h, rfl, Nat.zero_le _, fun i p hp => by simp at hp, fun i j p q hp => by simp at hp, fun j _ _ k hk => absurd hk (Nat.not_lt_zero _)⟩
theorem Red.skip {W c n : Nat} {ps : List Nat} {M : List (List F)} (h : Red W c n ps M) (hp : piv M c n = none) : Red W (c + 1) n ps M := by
  refine ⟨h.len, h.pl, h.nl, fun i p hi => ?_, h.inc, fun j h1 h2 k hk => ?_⟩
  · obtain ⟨a, b⟩ := h.one i p hi
    exact ⟨by omega, b⟩
  · by_cases e : k = c
    · subst e; exact piv_none hp j h1 h2
    · exact h.low j h1 h2 k (by omega)
theorem Red.step {W c n p : Nat} {ps : List Nat} {M : List (List F)} (h : Red W c n ps M) (hp : piv M c n = some p) : Red W (c + 1) (n + 1) (ps ++ [c]) (pstep M c n p) := by
  obtain ⟨g1, g2, g3⟩ := piv_some hp
  have gn : n < M.length := by omega
  have hE : ∀ {j : Nat}, j < M.length → ∀ k, el (row (pstep M c n p) j) k = if n = j then fm (fi (el (row M p) c)) (el (row M p) k) else
      (el (if p = j then row M n else row M j) k ^^^ fm (el (if p = j then row M n else row M j) c) (fm (fi (el (row M p) c)) (el (row M p) k))) := fun hj k => pstep_el h.len gn g2 hj k
  have hcol : ∀ j, j < M.length → j ≠ n → el (row (pstep M c n p) j) c = 0 := by
    intro j hj hne
    rw [hE hj c, if_neg (fun k => hne k.symm), fm_comm (fi _), fm_fi g3, fm_one, fx_self]
  refine ⟨pstep_len h.len gn g2, by rw [List.length_append, h.pl]; rfl, by rw [pstep_length]; omega, ?_, ?_, ?_⟩
  · intro i q hi
    rw [pstep_length]
    by_cases c1 : i < ps.length
    · rw [List.getElem?_append_left c1] at hi
      obtain ⟨a1, a2, a3⟩ := h.one i q hi
      rw [h.pl] at c1
      have z : el (row M p) q = 0 := a3 p g2 (by omega)
      refine ⟨by omega, ?_, fun j hj hne => ?_⟩
      · rw [hE (by omega) q, if_neg (by omega), z, fm_zero, fm_zero, fx_zero, if_neg (by omega)]; exact a2
      · rw [hE hj q, z, fm_zero, fm_zero, fx_zero]
        split
        · rfl
        · split
          · exact a3 n gn (by omega)
          · exact a3 j hj hne
    · rw [List.getElem?_append_right (by omega)] at hi
      have hi0 : i - ps.length = 0 := by
        rcases Nat.eq_zero_or_pos (i - ps.length) with e | e
        · exact e
        · rw [List.getElem?_eq_none (by simp; omega)] at hi; cases hi
      rw [hi0] at hi
      obtain rfl : c = q := by simpa using hi
      have hin : i = n := by have := h.pl; omega
      subst hin
      refine ⟨by omega, ?_, fun j hj hne => hcol j hj hne⟩
      rw [hE gn c, if_pos rfl, fm_comm, fm_fi g3]
  · intro i j q1 q2 hi hj hij
    have hj' : j < ps.length + 1 := by have := (List.getElem?_eq_some_iff.1 hj).1; simpa using this
    rw [List.getElem?_append_left (by omega)] at hi
    by_cases c1 : j < ps.length
    · rw [List.getElem?_append_left c1] at hj
      exact h.inc i j q1 q2 hi hj hij
    · rw [List.getElem?_append_right (by omega), show j - ps.length = 0 from by omega] at hj
      obtain rfl : c = q2 := by simpa using hj
      exact (h.one i q1 hi).1
  · intro j h1 h2 k hk
    rw [pstep_length] at h2
    by_cases e : k = c
    · subst e; exact hcol j h2 (by omega)
    · have z : el (row M p) k = 0 := h.low p g1 g2 k (by omega)
      rw [hE h2 k, if_neg (by omega), z, fm_zero, fm_zero, fx_zero]
      split
      · exact h.low n (Nat.le_refl _) gn k (by omega)
      · exact h.low j (by omega) h2 k (by omega)
def run (all : Bool) : Nat → Nat → Nat → List (List F) → Nat × List (List F)
  | 0, _, n, M => (n, M)
  | f + 1, c, n, M => match piv M c n with
    | none => if all = true then run all f (c + 1) n M else (n, M)
    | some p => run all f (c + 1) (n + 1) (pstep M c n p)
theorem run_red (f : Nat) : ∀ {W c n : Nat} {ps : List Nat} {M : List (List F)}, Red W c n ps M → ∃ qs, Red W (c + f) (run true f c n M).1 qs (run true f c n M).2 ∧ (run true f c n M).2.length = M.length ∧ (run true f c n M).1 ≤ n + f ∧ ∀ v, Span (vecs (run true f c n M).2) v ↔ Span (vecs M) v := by
  induction f with
  | zero => intro W c n ps M h; exact ⟨ps, h, rfl, Nat.le_refl _, fun _ => Iff.rfl⟩
  | succ f ih =>
    intro W c n ps M h
    unfold run
    cases hp : piv M c n with
    | none =>
      simp only [if_true]
      obtain ⟨qs, a, b, d, e⟩ := ih (h.skip hp)
      exact ⟨qs, by rw [show c + (f + 1) = c + 1 + f from by omega]; exact a, b, by omega, e⟩
    | some p =>
      obtain ⟨g1, g2, g3⟩ := piv_some hp
      obtain ⟨qs, a, b, d, e⟩ := ih (h.step hp)
      simp only
      refine ⟨qs, by rw [show c + (f + 1) = c + 1 + f from by omega]; exact a, by rw [b, pstep_length], by omega, fun v => (e v).trans (pstep_span h.len (by omega) g2 g3 v)⟩
theorem run_false (f : Nat) : ∀ {W c n : Nat} {ps : List Nat} {M : List (List F)}, Red W c n ps M → n ≤ c → (run false f c n M = run true f c n M) ∨ ((run false f c n M).1 < c + f ∧ (run true f c n M).1 < c + f) := by
  induction f with
  | zero => intro W c n ps M h hn; left; rfl
  | succ f ih =>
    intro W c n ps M h hn
    unfold run
    cases hp : piv M c n with
    | none =>
      right
      simp only [if_true]
      obtain ⟨_, _, _, d, _⟩ := run_red f (h.skip hp)
      rw [if_neg (by decide)]
      exact ⟨by simp only; omega, by omega⟩
    | some p =>
      simp only
      rcases ih (h.step hp) (by omega) with e | ⟨e1, e2⟩
      · left; exact e
      · right; exact ⟨by omega, by omega⟩
theorem indep_of : ∀ {B : List V}, (∀ (i : Nat) (v : V), B[i]? = some v → ∃ q : Nat, v q = 1 ∧ ∀ (j : Nat) (u : V), i < j → B[j]? = some u → u q = 0) → Indep B := by
  intro B
  induction B with
  | nil => intro _; trivial
  | cons v B ih =>
    intro h
    refine ⟨fun hs => ?_, ih fun i u hu => ?_⟩
    · obtain ⟨q, h1, h2⟩ := h 0 v rfl
      have : v q = 0 := by
        refine Span.all (P := fun u => u q = 0) rfl (fun u hu => ?_) (fun a b ha hb => ?_) (fun a b hb => ?_) hs
        · obtain ⟨j, hj⟩ := List.mem_iff_getElem?.1 hu
          exact h2 (j + 1) u (by omega) (by simpa using hj)
        · show a q ^^^ b q = 0; rw [ha, hb]; rfl
        · show fm a (b q) = 0; rw [hb, fm_zero]
      rw [h1] at this
      exact absurd this (by decide)
    · obtain ⟨q, h1, h2⟩ := h (i + 1) u (by simpa using hu)
      exact ⟨q, h1, fun j x hj hx => h2 (j + 1) x (by omega) (by simpa using hx)⟩
theorem vecs_get {M : List (List F)} {i : Nat} {v : V} (h : (vecs M)[i]? = some v) : i < M.length ∧ v = el (row M i) := by
  unfold vecs at h
  rw [List.getElem?_map] at h
  cases e : M[i]? with
  | none => rw [e] at h; cases h
  | some r =>
    rw [e] at h
    obtain rfl : el r = v := Option.some.inj h
    refine ⟨(List.getElem?_eq_some_iff.1 e).1, ?_⟩
    unfold row; rw [List.getD_eq_getElem?_getD, e]; rfl
def rank (w : Nat) (L : List (List F)) : Nat := (run true w 0 0 L).1
theorem rank_dim {w : Nat} {L : List (List F)} (h : ∀ r ∈ L, r.length = w) : Dim (vecs L) (rank w L) ∧ rank w L ≤ w ∧ rank w L ≤ L.length := by
  obtain ⟨qs, a, b, d, e⟩ := run_red w (Red.start h)
  rw [Nat.zero_add] at a d
  unfold rank
  generalize run true w 0 0 L = R at a b d e ⊢
  have hrow : ∀ i, i < R.1 → row (R.2.take R.1) i = row R.2 i := by
    intro i hi
    unfold row; rw [List.getD_eq_getElem?_getD, List.getD_eq_getElem?_getD, List.getElem?_take, if_pos hi]
  have hlen : (R.2.take R.1).length = R.1 := by rw [List.length_take]; have := a.nl; omega
  refine ⟨⟨vecs (R.2.take R.1), indep_of fun i v hv => ?_, by unfold vecs; rw [List.length_map, hlen], fun v hv => ?_, fun v hv => ?_⟩, d, by have := a.nl; omega⟩
  · obtain ⟨hi, rfl⟩ := vecs_get hv
    rw [hlen] at hi
    rw [hrow i hi]
    obtain ⟨q, hq⟩ : ∃ q, qs[i]? = some q := ⟨_, List.getElem?_eq_getElem (by rw [a.pl]; exact hi)⟩
    obtain ⟨_, a2, a3⟩ := a.one i q hq
    refine ⟨q, a2, fun j u hij hu => ?_⟩
    obtain ⟨hj, rfl⟩ := vecs_get hu
    rw [hlen] at hj
    rw [hrow j hj]
    exact a3 j (by have := a.nl; omega) (by omega)
  · refine (e v).1 (.mem ?_)
    obtain ⟨r, hr, rfl⟩ := List.mem_map.1 hv
    exact List.mem_map_of_mem (List.mem_of_mem_take hr)
  · refine Span.sub (fun u hu => ?_) ((e v).2 (.mem hv))
    obtain ⟨j, hj, rfl⟩ := of_vecs hu
    by_cases hjn : j < R.1
    · rw [← hrow j hjn]; exact .mem (vecs_mem (by rw [hlen]; exact hjn))
    · have : el (row R.2 j) = vzero := by
        funext k
        by_cases hk : k < w
        · exact a.low j (by omega) hj k hk
        · exact el_of_le (by rw [a.len _ (row_mem hj)]; omega)
      rw [this]; exact .zero
def sm : Nat → (Nat → F) → F
  | 0, _ => 0
  | n + 1, f => sm n f ^^^ f n
theorem sm_add (n : Nat) (f g : Nat → F) : sm n (fun k => f k ^^^ g k) = sm n f ^^^ sm n g := by
  induction n with
  | zero => exact (fx_self 0).symm
  | succ n ih =>
    simp only [sm]
    rw [ih, fx_assoc, fx_assoc]
    congr 1
    rw [← fx_assoc, fx_comm (sm n g), fx_assoc]
theorem sm_mul (n : Nat) (a : F) (f : Nat → F) : sm n (fun k => fm a (f k)) = fm a (sm n f) := by
  induction n with
  | zero => exact (fm_zero a).symm
  | succ n ih => simp only [sm]; rw [ih, fm_fx]
theorem sm_zero (n : Nat) {f : Nat → F} (h : ∀ k, k < n → f k = 0) : sm n f = 0 := by
  induction n with
  | zero => rfl
  | succ n ih => simp only [sm]; rw [ih (fun k hk => h k (by omega)), h n (by omega), fx_self]
theorem sm_one (n i : Nat) (hi : i < n) {f : Nat → F} (h : ∀ k, k < n → k ≠ i → f k = 0) : sm n f = f i := by
  induction n with
  | zero => omega
  | succ n ih =>
    simp only [sm]
    by_cases e : i = n
    · subst e; rw [sm_zero i (fun k hk => h k (by omega) (by omega)), zero_fx]
    · rw [ih (by omega) (fun k hk => h k (by omega)), h n (by omega) (fun k => e k.symm), fx_zero]
theorem sm_congr (n : Nat) {f g : Nat → F} (h : ∀ k, k < n → f k = g k) : sm n f = sm n g := by
  induction n with
  | zero => rfl
  | succ n ih => simp only [sm]; rw [ih (fun k hk => h k (by omega)), h n (by omega)]
def Sat (w s : Nat) (X : List (List F)) (v : V) : Prop := ∀ t, t < s → sm w (fun k => fm (v k) (el (row X k) t)) = v (w + t)
theorem Sat.span {w s : Nat} {X : List (List F)} {L : List V} (h : ∀ v ∈ L, Sat w s X v) {v : V} (hv : Span L v) : Sat w s X v := by
  refine Span.all (P := Sat w s X) (fun t _ => ?_) h (fun u v hu hv t ht => ?_) (fun a v hv t ht => ?_) hv
  · exact sm_zero w (fun k _ => zero_fm _)
  · show sm w (fun k => fm (u k ^^^ v k) _) = u (w + t) ^^^ v (w + t)
    rw [← hu t ht, ← hv t ht, ← sm_add]
    exact sm_congr w (fun k _ => fx_fm _ _ _)
  · show sm w (fun k => fm (fm a (v k)) _) = fm a (v (w + t))
    rw [← hv t ht, ← sm_mul]
    exact sm_congr w (fun k _ => fm_assoc _ _ _)
theorem inc_ge {c n : Nat} {ps : List Nat} (hl : ps.length = n) (hb : ∀ (i p : Nat), ps[i]? = some p → p < c) (hi : ∀ (i j p q : Nat), ps[i]? = some p → ps[j]? = some q → i < j → p < q) (hn : n = c) (i : Nat) (h : i < n) : ps[i]? = some i := by
  subst hn
  have hg : ∀ i, i < n → ∃ p, ps[i]? = some p := fun i h => ⟨_, List.getElem?_eq_getElem (by rw [hl]; exact h)⟩
  have h1 : ∀ i, i < n → ∀ p, ps[i]? = some p → i ≤ p := by
    intro i
    induction i with
    | zero => intro _ p _; exact Nat.zero_le _
    | succ i ih =>
      intro h p hp
      obtain ⟨q, hq⟩ := hg i (by omega)
      have := ih (by omega) q hq
      have := hi i (i + 1) q p hq hp (by omega)
      omega
  have h2 : ∀ d i, i + d + 1 = n → ∀ p, ps[i]? = some p → p ≤ i := by
    intro d
    induction d with
    | zero => intro i h p hp; have := hb i p hp; omega
    | succ d ih =>
      intro i h p hp
      obtain ⟨q, hq⟩ := hg (i + 1) (by omega)
      have := ih (i + 1) (by omega) q hq
      have := hi i (i + 1) p q hp hq (by omega)
      omega
  obtain ⟨p, hp⟩ := hg i h
  have a := h1 i h p hp
  have b := h2 (n - i - 1) i (by omega) p hp
  rw [hp, show p = i from by omega]
theorem run_full {w s : Nat} {L : List (List F)} (h : ∀ r ∈ L, r.length = w + s) (hr : (run true w 0 0 L).1 = w) :
    (run true w 0 0 L).2.length = L.length ∧ w ≤ L.length ∧ (∀ r ∈ (run true w 0 0 L).2, r.length = w + s) ∧
    (∀ i, i < L.length → ∀ k, k < w → el (row (run true w 0 0 L).2 i) k = if i = k then 1 else 0) ∧ ∀ v, Span (vecs (run true w 0 0 L).2) v ↔ Span (vecs L) v := by
  obtain ⟨qs, a, b, d, e⟩ := run_red w (Red.start h)
  rw [Nat.zero_add] at a
  generalize run true w 0 0 L = R at a b d e hr ⊢
  obtain ⟨rn, R⟩ := R
  simp only at a b d e hr ⊢
  subst hr
  have hq := inc_ge a.pl (fun i p hp => (a.one i p hp).1) a.inc rfl
  refine ⟨b, by have := a.nl; omega, a.len, fun i hi k hk => ?_, e⟩
  obtain ⟨_, a2, a3⟩ := a.one k k (hq k hk)
  by_cases c : i = k
  · subst c; rw [if_pos rfl]; exact a2
  · rw [if_neg c]; exact a3 i (by omega) c
theorem told_of_sat {w s : Nat} {L X : List (List F)} (h : ∀ r ∈ L, r.length = w + s) (hr : (run true w 0 0 L).1 = w) (hX : ∀ r ∈ L, Sat w s X (el r)) :
    (∀ i, i < w → ∀ t, t < s → el (row (run true w 0 0 L).2 i) (w + t) = el (row X i) t) ∧ ∀ i, w ≤ i → i < L.length → ∀ t, t < s → el (row (run true w 0 0 L).2 i) (w + t) = 0 := by
  obtain ⟨b, nl, len, hd, e⟩ := run_full h hr
  have hs : ∀ i, i < L.length → Sat w s X (el (row (run true w 0 0 L).2 i)) := by
    intro i hi
    refine Sat.span (L := vecs L) (fun v hv => ?_) ((e _).1 (.mem (vecs_mem (by rw [b]; exact hi))))
    obtain ⟨r, hr, rfl⟩ := List.mem_map.1 hv
    exact hX r hr
  constructor
  · intro i hi t ht
    rw [← hs i (by omega) t ht, sm_one w i hi (fun k hk hne => by rw [hd i (by omega) k hk, if_neg (fun q => hne q.symm), zero_fm]), hd i (by omega) i hi, if_pos rfl, one_fm]
  · intro i hi hl t ht
    rw [← hs i hl t ht, sm_zero w (fun k hk => by rw [hd i hl k hk, if_neg (by omega), zero_fm])]
theorem sat_of_told {w s : Nat} {L X : List (List F)} (h : ∀ r ∈ L, r.length = w + s) (hr : (run true w 0 0 L).1 = w)
    (hX : ∀ i, i < w → ∀ t, t < s → el (row X i) t = el (row (run true w 0 0 L).2 i) (w + t)) (h0 : ∀ i, w ≤ i → i < L.length → ∀ t, t < s → el (row (run true w 0 0 L).2 i) (w + t) = 0) : ∀ r ∈ L, Sat w s X (el r) := by
  obtain ⟨b, nl, len, hd, e⟩ := run_full h hr
  intro r hr'
  refine Sat.span (L := vecs (run true w 0 0 L).2) (fun v hv => ?_) ((e _).2 (.mem (List.mem_map_of_mem hr')))
  obtain ⟨i, hi, rfl⟩ := of_vecs hv
  rw [b] at hi
  intro t ht
  by_cases c : i < w
  · rw [sm_one w i c (fun k hk hne => by rw [hd i hi k hk, if_neg (fun q => hne q.symm), zero_fm]), hd i hi i c, if_pos rfl, one_fm]
    exact hX i c t ht
  · rw [sm_zero w (fun k hk => by rw [hd i hi k hk, if_neg (by omega), zero_fm]), h0 i (by omega) hi t ht]
end Go.Proofs.Ytbfhinfblepidaa.Sv
