/- Linear algebra over the field of 256 elements: spans, independence, exchange; how many rows a basis has. No program is in sight; conditions: those that stand in the theorems. -/
import Derived.Test.YtbfhinfblepidaaRw
namespace Go.Proofs.Ytbfhinfblepidaa.La
open Go.Proofs.Ytbfhinfblepidaa.Gf Go.Proofs.Ytbfhinfblepidaa.Rw
abbrev V := Nat → F
def vadd (u v : V) : V := fun i => u i ^^^ v i
def vmul (a : F) (v : V) : V := fun i => fm a (v i)
def vzero : V := fun _ => 0
theorem vadd_comm (u v : V) : vadd u v = vadd v u := funext fun _ => fx_comm _ _
theorem vadd_assoc (u v w : V) : vadd (vadd u v) w = vadd u (vadd v w) := funext fun _ => fx_assoc _ _ _
theorem vadd_zero (u : V) : vadd u vzero = u := funext fun _ => fx_zero _
theorem zero_vadd (u : V) : vadd vzero u = u := funext fun _ => zero_fx _
theorem vadd_self (u : V) : vadd u u = vzero := funext fun _ => fx_self _
theorem vmul_vmul (a b : F) (v : V) : vmul a (vmul b v) = vmul (fm a b) v := funext fun _ => (fm_assoc _ _ _).symm
theorem vmul_add (a : F) (u v : V) : vmul a (vadd u v) = vadd (vmul a u) (vmul a v) := funext fun _ => fm_fx _ _ _
theorem add_vmul (a b : F) (v : V) : vmul (a ^^^ b) v = vadd (vmul a v) (vmul b v) := funext fun _ => fx_fm _ _ _
theorem one_vmul (v : V) : vmul 1 v = v := funext fun _ => one_fm _
theorem zero_vmul (v : V) : vmul 0 v = vzero := funext fun _ => zero_fm _
theorem vmul_zero (a : F) : vmul a vzero = vzero := funext fun _ => fm_zero _
inductive Span (L : List V) : V → Prop
  | zero : Span L vzero
  | mem {v : V} : v ∈ L → Span L v
  | add {u v : V} : Span L u → Span L v → Span L (vadd u v)
  | smul (a : F) {v : V} : Span L v → Span L (vmul a v)
theorem Span.sub {L M : List V} (h : ∀ v ∈ L, Span M v) {v : V} (hv : Span L v) : Span M v := by
  induction hv with
  | zero => exact .zero
  | mem h' => exact h _ h'
  | add _ _ a b => exact .add a b
  | smul a _ b => exact .smul a b
theorem Span.nil {v : V} (h : Span [] v) : v = vzero := by
  induction h with
  | zero => rfl
  | mem h' => exact absurd h' List.not_mem_nil
  | add _ _ a b => rw [a, b, vadd_zero]
  | smul a _ b => rw [b, vmul_zero]
theorem Span.cons {u : V} {L : List V} {v : V} (h : Span (u :: L) v) : ∃ a w, Span L w ∧ v = vadd (vmul a u) w := by
  induction h with
  | zero => exact ⟨0, vzero, .zero, by rw [zero_vmul, vadd_zero]⟩
  | @mem v h' =>
    rcases List.mem_cons.1 h' with rfl | h'
    · exact ⟨1, vzero, .zero, by rw [one_vmul, vadd_zero]⟩
    · exact ⟨0, v, .mem h', by rw [zero_vmul, zero_vadd]⟩
  | add _ _ h1 h2 =>
    obtain ⟨a, w, hw, rfl⟩ := h1
    obtain ⟨b, x, hx, rfl⟩ := h2
    refine ⟨a ^^^ b, vadd w x, .add hw hx, ?_⟩
    rw [add_vmul, vadd_assoc, vadd_assoc]
    congr 1
    rw [← vadd_assoc, vadd_comm w, vadd_assoc]
  | smul c _ h1 =>
    obtain ⟨a, w, hw, rfl⟩ := h1
    exact ⟨fm c a, vmul c w, .smul c hw, by rw [vmul_add, vmul_vmul]⟩
theorem Span.all {L : List V} {P : V → Prop} (h0 : P vzero) (hm : ∀ v ∈ L, P v) (ha : ∀ u v, P u → P v → P (vadd u v)) (hs : ∀ a v, P v → P (vmul a v)) {v : V} (h : Span L v) : P v := by
  induction h with
  | zero => exact h0
  | mem h' => exact hm _ h'
  | add _ _ a b => exact ha _ _ a b
  | smul a _ b => exact hs a _ b
end Go.Proofs.Ytbfhinfblepidaa.La
namespace Go.Proofs.Ytbfhinfblepidaa.Sv
open Go.Proofs.Ytbfhinfblepidaa.Gf Go.Proofs.Ytbfhinfblepidaa.Rw Go.Proofs.Ytbfhinfblepidaa.La
def el (r : List F) (c : Nat) : F := r.getD c 0
def row (M : List (List F)) (i : Nat) : List F := M.getD i []
theorem el_nil (c : Nat) : el [] c = 0 := by simp [el]
theorem el_add {x : List F} : ∀ {y : List F}, x.length = y.length → ∀ c, el (addTo x y) c = el x c ^^^ el y c := by
  induction x with
  | nil => intro y h c; cases y with
    | nil => simp only [addTo, el_nil, fx_self]
    | cons _ _ => simp at h
  | cons a x ih => intro y h c; cases y with
    | nil => simp at h
    | cons b y =>
      cases c with
      | zero => simp [el, addTo]
      | succ c => simpa [el, addTo] using ih (by simpa using h) c
theorem el_scale (a : F) (x : List F) (c : Nat) : el (scaleR a x) c = fm a (el x c) := by
  unfold el scaleR
  rw [List.getD_eq_getElem?_getD, List.getD_eq_getElem?_getD, List.getElem?_map]
  cases x[c]? with
  | none => exact (fm_zero a).symm
  | some _ => rfl
def pivFrom (c : Nat) : List (List F) → Nat → Option Nat
  | [], _ => none
  | r :: L, i => if el r c ≠ 0 then some i else pivFrom c L (i + 1)
def piv (M : List (List F)) (c n : Nat) : Option Nat := pivFrom c (M.drop n) n
theorem row_cons_succ (r : List F) (L : List (List F)) (i : Nat) : row (r :: L) (i + 1) = row L i := rfl
theorem row_drop (M : List (List F)) (n i : Nat) : row (M.drop n) i = row M (n + i) := by unfold row; rw [List.getD_eq_getElem?_getD, List.getD_eq_getElem?_getD, List.getElem?_drop]
theorem pivFrom_some {c : Nat} : ∀ {L : List (List F)} {i p : Nat}, pivFrom c L i = some p → ∃ k, p = i + k ∧ k < L.length ∧ el (row L k) c ≠ 0 := by
  intro L
  induction L with
  | nil => intro i p h; simp [pivFrom] at h
  | cons r L ih =>
    intro i p h
    unfold pivFrom at h
    split at h
    · rename_i h1
      obtain rfl := Option.some.inj h
      exact ⟨0, rfl, by simp, h1⟩
    · obtain ⟨k, h1, h2, h3⟩ := ih h
      exact ⟨k + 1, by omega, by simp; exact h2, h3⟩
theorem pivFrom_none {c : Nat} : ∀ {L : List (List F)} {i : Nat}, pivFrom c L i = none → ∀ k, k < L.length → el (row L k) c = 0 := by
  intro L
  induction L with
  | nil => intro i _ k h; simp at h
  | cons r L ih =>
    intro i h k hk
    unfold pivFrom at h
    split at h
    · cases h
    · rename_i h1
      cases k with
      | zero => exact Decidable.not_not.1 h1
      | succ k => exact ih h k (by simpa using hk)
theorem piv_some {M : List (List F)} {c n p : Nat} (h : piv M c n = some p) : n ≤ p ∧ p < M.length ∧ el (row M p) c ≠ 0 := by
  obtain ⟨k, h1, h2, h3⟩ := pivFrom_some h
  rw [List.length_drop] at h2
  rw [row_drop] at h3
  subst h1
  exact ⟨by omega, by omega, h3⟩
theorem piv_none {M : List (List F)} {c n : Nat} (h : piv M c n = none) (j : Nat) (h1 : n ≤ j) (h2 : j < M.length) : el (row M j) c = 0 := by
  have := pivFrom_none h (j - n) (by rw [List.length_drop]; omega)
  rwa [row_drop, show n + (j - n) = j from by omega] at this
def clr (R : List F) (c n : Nat) : Nat → List (List F) → List (List F)
  | _, [] => []
  | i, x :: L => (if i = n then x else if el x c = 0 then x else addTo x (scaleR (el x c) R)) :: clr R c n (i + 1) L
theorem clr_length (R : List F) (c n : Nat) : ∀ (L : List (List F)) (i : Nat), (clr R c n i L).length = L.length := by
  intro L
  induction L with
  | nil => intro i; rfl
  | cons x L ih => intro i; simp only [clr, List.length_cons, ih]
theorem clr_row (R : List F) (c n : Nat) : ∀ (L : List (List F)) (i j : Nat), j < L.length → row (clr R c n i L) j = if i + j = n then row L j else if el (row L j) c = 0 then row L j else addTo (row L j) (scaleR (el (row L j) c) R) := by
  intro L
  induction L with
  | nil => intro i j h; simp at h
  | cons x L ih =>
    intro i j h
    cases j with
    | zero => rfl
    | succ j =>
      rw [show clr R c n i (x :: L) = (if i = n then x else if el x c = 0 then x else addTo x (scaleR (el x c) R)) :: clr R c n (i + 1) L from rfl, row_cons_succ, row_cons_succ, ih (i + 1) j (by simpa using h)]
      rw [show i + 1 + j = i + (j + 1) from by omega]
def swp (M : List (List F)) (c n p : Nat) : List (List F) := (M.set p (row M n)).set n (scaleR (fi (el (row M p) c)) (row M p))
def pstep (M : List (List F)) (c n p : Nat) : List (List F) := clr (scaleR (fi (el (row M p) c)) (row M p)) c n 0 (swp M c n p)
theorem swp_length (M : List (List F)) (c n p : Nat) : (swp M c n p).length = M.length := by unfold swp; rw [List.length_set, List.length_set]
theorem row_set (M : List (List F)) (i j : Nat) (r : List F) (h : i < M.length) : row (M.set i r) j = if i = j then r else row M j := by
  unfold row
  rw [List.getD_eq_getElem?_getD, List.getElem?_set, List.getD_eq_getElem?_getD]
  split
  · rename_i h1; subst h1; first | (rw [if_pos h]; rfl) | rfl
  · rfl
theorem swp_row (M : List (List F)) (c n p j : Nat) (h1 : n < M.length) (h2 : p < M.length) : row (swp M c n p) j = if n = j then scaleR (fi (el (row M p) c)) (row M p) else if p = j then row M n else row M j := by
  unfold swp
  rw [row_set _ _ _ _ (by rw [List.length_set]; exact h1)]
  split
  · rfl
  · rw [row_set _ _ _ _ h2]
theorem pstep_length (M : List (List F)) (c n p : Nat) : (pstep M c n p).length = M.length := by unfold pstep; rw [clr_length, swp_length]
theorem row_mem {M : List (List F)} {j : Nat} (h : j < M.length) : row M j ∈ M := by
  unfold row; rw [List.getD_eq_getElem?_getD, List.getElem?_eq_getElem h]; exact List.getElem_mem h
theorem of_mem {M : List (List F)} {r : List F} (h : r ∈ M) : ∃ j, j < M.length ∧ row M j = r := by
  obtain ⟨j, hj, e⟩ := List.getElem_of_mem h
  exact ⟨j, hj, by unfold row; rw [List.getD_eq_getElem?_getD, List.getElem?_eq_getElem hj]; exact e⟩
section
variable {W : Nat} {M : List (List F)} {c n p : Nat}
theorem pstep_el (hl : ∀ r ∈ M, r.length = W) (h1 : n < M.length) (h2 : p < M.length) {j : Nat} (hj : j < M.length) (k : Nat) :
    el (row (pstep M c n p) j) k = if n = j then fm (fi (el (row M p) c)) (el (row M p) k) else
      (el (if p = j then row M n else row M j) k ^^^ fm (el (if p = j then row M n else row M j) c) (fm (fi (el (row M p) c)) (el (row M p) k))) := by
  unfold pstep
  rw [clr_row _ _ _ _ _ _ (by rw [swp_length]; exact hj), Nat.zero_add, swp_row M c n p j h1 h2]
  by_cases e : n = j
  · rw [if_pos e.symm, if_pos e, if_pos e, el_scale]
  · rw [if_neg (fun k => e k.symm), if_neg e, if_neg e]
    generalize hx : (if p = j then row M n else row M j) = x
    have hxl : x.length = W := by
      rw [← hx]
      split
      · exact hl _ (row_mem h1)
      · exact hl _ (row_mem hj)
    by_cases z : el x c = 0
    · rw [if_pos z, z, zero_fm, fx_zero]
    · rw [if_neg z, el_add (by rw [scaleR_length, scaleR_length, hxl, hl _ (row_mem h2)]), el_scale, el_scale]
theorem pstep_len (hl : ∀ r ∈ M, r.length = W) (h1 : n < M.length) (h2 : p < M.length) : ∀ r ∈ pstep M c n p, r.length = W := by
  intro r hr
  obtain ⟨j, hj, rfl⟩ := of_mem hr
  rw [pstep_length] at hj
  unfold pstep
  rw [clr_row _ _ _ _ _ _ (by rw [swp_length]; exact hj), Nat.zero_add, swp_row M c n p j h1 h2]
  have hx : (if n = j then scaleR (fi (el (row M p) c)) (row M p) else if p = j then row M n else row M j).length = W := by
    split
    · rw [scaleR_length]; exact hl _ (row_mem h2)
    · split
      · exact hl _ (row_mem h1)
      · exact hl _ (row_mem hj)
  generalize (if n = j then scaleR (fi (el (row M p) c)) (row M p) else if p = j then row M n else row M j) = x at hx ⊢
  by_cases e1 : j = n
  · rw [if_pos e1]; exact hx
  · rw [if_neg e1]
    by_cases e2 : el x c = 0
    · rw [if_pos e2]; exact hx
    · rw [if_neg e2, addTo_length]; exact hx
def vecs (M : List (List F)) : List V := M.map el
theorem vecs_mem {M : List (List F)} {j : Nat} (h : j < M.length) : el (row M j) ∈ vecs M := List.mem_map_of_mem (row_mem h)
theorem of_vecs {M : List (List F)} {v : V} (h : v ∈ vecs M) : ∃ j, j < M.length ∧ v = el (row M j) := by
  obtain ⟨r, hr, rfl⟩ := List.mem_map.1 h
  obtain ⟨j, hj, rfl⟩ := of_mem hr
  exact ⟨j, hj, rfl⟩
theorem pstep_span (hl : ∀ r ∈ M, r.length = W) (h1 : n < M.length) (h2 : p < M.length) (h3 : el (row M p) c ≠ 0) (v : V) : Span (vecs (pstep M c n p)) v ↔ Span (vecs M) v := by
  have hv : ∀ j, j < M.length → el (row (pstep M c n p) j) = if n = j then vmul (fi (el (row M p) c)) (el (row M p)) else
      vadd (el (if p = j then row M n else row M j)) (vmul (el (if p = j then row M n else row M j) c) (vmul (fi (el (row M p) c)) (el (row M p)))) := by
    intro j hj
    funext k
    rw [pstep_el hl h1 h2 hj k]
    split <;> rfl
  have hR : Span (vecs M) (vmul (fi (el (row M p) c)) (el (row M p))) := .smul _ (.mem (vecs_mem h2))
  have hn' : el (row (pstep M c n p) n) = vmul (fi (el (row M p) c)) (el (row M p)) := by rw [hv n h1, if_pos rfl]
  have hR' : Span (vecs (pstep M c n p)) (vmul (fi (el (row M p) c)) (el (row M p))) := by rw [← hn']; exact .mem (vecs_mem (by rw [pstep_length]; exact h1))
  constructor
  · refine Span.sub fun v hv0 => ?_
    obtain ⟨j, hj, rfl⟩ := of_vecs hv0
    rw [pstep_length] at hj
    rw [hv j hj]
    split
    · exact hR
    · refine .add ?_ (.smul _ hR)
      split
      · exact .mem (vecs_mem h1)
      · exact .mem (vecs_mem hj)
  · refine Span.sub fun v hv0 => ?_
    obtain ⟨j, hj, rfl⟩ := of_vecs hv0
    have hp : Span (vecs (pstep M c n p)) (el (row M p)) := by
      have := Span.smul (el (row M p) c) hR'
      rwa [vmul_vmul, fm_fi h3, one_vmul] at this
    have back : ∀ i, i < M.length → n ≠ i → Span (vecs (pstep M c n p)) (el (if p = i then row M n else row M i)) := by
      intro i hi hne
      have h4 : Span (vecs (pstep M c n p)) (el (row (pstep M c n p) i)) := .mem (vecs_mem (by rw [pstep_length]; exact hi))
      rw [hv i hi, if_neg hne] at h4
      have h5 := Span.add h4 (Span.smul (el (if p = i then row M n else row M i) c) hR')
      rwa [vadd_assoc, vadd_self, vadd_zero] at h5
    by_cases e1 : p = j
    · subst e1; exact hp
    · by_cases e2 : n = j
      · subst e2
        have := back p h2 (fun k => e1 k.symm)
        rwa [if_pos rfl] at this
      · have := back j hj e2
        rwa [if_neg e1] at this
end
structure Red (W c n : Nat) (ps : List Nat) (M : List (List F)) : Prop where
  len : ∀ r ∈ M, r.length = W
  pl : ps.length = n
  nl : n ≤ M.length
  one : ∀ (i p : Nat), ps[i]? = some p → p < c ∧ el (row M i) p = 1 ∧ ∀ j, j < M.length → j ≠ i → el (row M j) p = 0
  inc : ∀ (i j p q : Nat), ps[i]? = some p → ps[j]? = some q → i < j → p < q
  low : ∀ j, n ≤ j → j < M.length → ∀ k, k < c → el (row M j) k = 0
theorem Red.start {W : Nat} {M : List (List F)} (h : ∀ r ∈ M, r.length = W) : Red W 0 0 [] M :=
  ⟨h, rfl, Nat.zero_le _, fun i p hp => by simp at hp, fun i j p q hp => by simp at hp, fun j _ _ k hk => absurd hk (Nat.not_lt_zero _)⟩
theorem Red.skip {W c n : Nat} {ps : List Nat} {M : List (List F)} (h : Red W c n ps M) (hp : piv M c n = none) : Red W (c + 1) n ps M := by
  refine ⟨h.len, h.pl, h.nl, fun i p hi => ?_, h.inc, fun j h1 h2 k hk => ?_⟩
  · obtain ⟨a, b⟩ := h.one i p hi
    exact ⟨by omega, b⟩
  · by_cases e : k = c
    · subst e; exact piv_none hp j h1 h2
    · exact h.low j h1 h2 k (by omega)
theorem Red.step {W c n p : Nat} {ps : List Nat} {M : List (List F)} (h : Red W c n ps M) (hp : piv M c n = some p) : Red W (c + 1) (n + 1) (ps ++ [c]) (pstep M c n p) := by
  obtain ⟨g1, g2, g3⟩ := piv_some hp
  have gn : n < M.length := by omega
  have hE : ∀ {j : Nat}, j < M.length → ∀ k, el (row (pstep M c n p) j) k = if n = j then fm (fi (el (row M p) c)) (el (row M p) k) else
      (el (if p = j then row M n else row M j) k ^^^ fm (el (if p = j then row M n else row M j) c) (fm (fi (el (row M p) c)) (el (row M p) k))) := fun hj k => pstep_el h.len gn g2 hj k
  have hcol : ∀ j, j < M.length → j ≠ n → el (row (pstep M c n p) j) c = 0 := by
    intro j hj hne
    rw [hE hj c, if_neg (fun k => hne k.symm), fm_comm (fi _), fm_fi g3, fm_one, fx_self]
  refine ⟨pstep_len h.len gn g2, by rw [List.length_append, h.pl]; rfl, by rw [pstep_length]; omega, ?_, ?_, ?_⟩
  · intro i q hi
    rw [pstep_length]
    by_cases c1 : i < ps.length
    · rw [List.getElem?_append_left c1] at hi
      obtain ⟨a1, a2, a3⟩ := h.one i q hi
      rw [h.pl] at c1
      have z : el (row M p) q = 0 := a3 p g2 (by omega)
      refine ⟨by omega, ?_, fun j hj hne => ?_⟩
      · rw [hE (by omega) q, if_neg (by omega), z, fm_zero, fm_zero, fx_zero, if_neg (by omega)]; exact a2
      · rw [hE hj q, z, fm_zero, fm_zero, fx_zero]
        split
        · rfl
        · split
          · exact a3 n gn (by omega)
          · exact a3 j hj hne
    · rw [List.getElem?_append_right (by omega)] at hi
      have hi0 : i - ps.length = 0 := by
        rcases Nat.eq_zero_or_pos (i - ps.length) with e | e
        · exact e
        · rw [List.getElem?_eq_none (by simp; omega)] at hi; cases hi
      rw [hi0] at hi
      obtain rfl : c = q := by simpa using hi
      have hin : i = n := by have := h.pl; omega
      subst hin
      refine ⟨by omega, ?_, fun j hj hne => hcol j hj hne⟩
      rw [hE gn c, if_pos rfl, fm_comm, fm_fi g3]
  · intro i j q1 q2 hi hj hij
    have hj' : j < ps.length + 1 := by have := (List.getElem?_eq_some_iff.1 hj).1; simpa using this
    rw [List.getElem?_append_left (by omega)] at hi
    by_cases c1 : j < ps.length
    · rw [List.getElem?_append_left c1] at hj
      exact h.inc i j q1 q2 hi hj hij
    · rw [List.getElem?_append_right (by omega), show j - ps.length = 0 from by omega] at hj
      obtain rfl : c = q2 := by simpa using hj
      exact (h.one i q1 hi).1
  · intro j h1 h2 k hk
    rw [pstep_length] at h2
    by_cases e : k = c
    · subst e; exact hcol j h2 (by omega)
    · have z : el (row M p) k = 0 := h.low p g1 g2 k (by omega)
      rw [hE h2 k, if_neg (by omega), z, fm_zero, fm_zero, fx_zero]
      split
      · exact h.low n (Nat.le_refl _) gn k (by omega)
      · exact h.low j (by omega) h2 k (by omega)
def run (all : Bool) : Nat → Nat → Nat → List (List F) → Nat × List (List F)
  | 0, _, n, M => (n, M)
  | f + 1, c, n, M => match piv M c n with
    | none => if all = true then run all f (c + 1) n M else (n, M)
    | some p => run all f (c + 1) (n + 1) (pstep M c n p)
theorem run_red (f : Nat) : ∀ {W c n : Nat} {ps : List Nat} {M : List (List F)}, Red W c n ps M → ∃ qs, Red W (c + f) (run true f c n M).1 qs (run true f c n M).2 ∧ (run true f c n M).2.length = M.length ∧ (run true f c n M).1 ≤ n + f ∧ ∀ v, Span (vecs (run true f c n M).2) v ↔ Span (vecs M) v := by
  induction f with
  | zero => intro W c n ps M h; exact ⟨ps, h, rfl, Nat.le_refl _, fun _ => Iff.rfl⟩
  | succ f ih =>
    intro W c n ps M h
    unfold run
    cases hp : piv M c n with
    | none =>
      simp only [if_true]
      obtain ⟨qs, a, b, d, e⟩ := ih (h.skip hp)
      exact ⟨qs, by rw [show c + (f + 1) = c + 1 + f from by omega]; exact a, b, by omega, e⟩
    | some p =>
      obtain ⟨g1, g2, g3⟩ := piv_some hp
      obtain ⟨qs, a, b, d, e⟩ := ih (h.step hp)
      simp only
      refine ⟨qs, by rw [show c + (f + 1) = c + 1 + f from by omega]; exact a, by rw [b, pstep_length], by omega, fun v => (e v).trans (pstep_span h.len (by omega) g2 g3 v)⟩
theorem run_false (f : Nat) : ∀ {W c n : Nat} {ps : List Nat} {M : List (List F)}, Red W c n ps M → n ≤ c → (run false f c n M = run true f c n M) ∨ ((run false f c n M).1 < c + f ∧ (run true f c n M).1 < c + f) := by
  induction f with
  | zero => intro W c n ps M h hn; left; rfl
  | succ f ih =>
    intro W c n ps M h hn
    unfold run
    cases hp : piv M c n with
    | none =>
      right
      simp only [if_true]
      obtain ⟨_, _, _, d, _⟩ := run_red f (h.skip hp)
      rw [if_neg (by decide)]
      exact ⟨by simp only; omega, by omega⟩
    | some p =>
      simp only
      rcases ih (h.step hp) (by omega) with e | ⟨e1, e2⟩
      · left; exact e
      · right; exact ⟨by omega, by omega⟩
def rank (w : Nat) (L : List (List F)) : Nat := (run true w 0 0 L).1
end Go.Proofs.Ytbfhinfblepidaa.Sv
