/- Arguments that came in, read: what a value that can be read as data holds, as the printed functions' contracts want it (slices of slices of numbers). No program is in sight; conditions: the value can be read, and takes no more memory than may be read. -/
import Derived.Test.YtjcfmfdkligmoaaYtjcfmfdkligmoaaWWords
import Derived.Deep.Slices
import Derived.SizedLaws
namespace Go.Proofs.Ytjcfmfdkligmoaa.Op
open Go.RowKit Go.Proofs.YtjcfmfdkligmoaaW.PrintWords Go.Proofs.YtjcfmfdkligmoaaW.PrintLast Go.Proofs.YtjcfmfdkligmoaaW.PrintMore
open Go.ChangeShapes Go.WideShapes Go.Deep
theorem mapM_get {α β : Type} {f : α → Option β} : ∀ {l : List α} {r : List β}, l.mapM f = some r → r.length = l.length ∧ ∀ (j : Nat) (a : α), l[j]? = some a → f a = r[j]?
 | [], r, h => by
  simp at h; subst h
  exact ⟨rfl, fun j a h => by simp at h⟩
 | x :: l, r, h => by
  rw [List.mapM_cons] at h
  cases hx : f x with
  | none => rw [hx] at h; simp at h
  | some y =>
   rw [hx] at h
   cases hl : l.mapM f with
   | none => rw [hl] at h; simp at h
   | some ys =>
    rw [hl] at h
    simp at h
    subst h
    obtain ⟨h1, h2⟩ := mapM_get hl
    refine ⟨by simp [h1], fun j a hj => ?_⟩
    cases j with
    | zero => simp at hj; subst hj; simpa using hx
    | succ j => simp at hj ⊢; exact h2 j a hj
theorem cells_get {w : World} {base n : Nat} {a : Addr} {cs : List Value} (h : w.cells? base a n = some cs) : cs.length = n ∧ ∀ j u, cs[j]? = some u → w.cell? (a.add j) = some u := by
 unfold World.cells? at h
 split at h
 ·obtain ⟨h1, h2⟩ := mapM_get h
  rw [List.length_range] at h1
  refine ⟨h1, fun j u hj => ?_⟩
  have hlt : j < n := by
   have := (List.getElem?_eq_some_iff.1 hj).1
   omega
  have := h2 j j (by rw [List.getElem?_range hlt])
  rw [this, hj]
 ·simp at h
theorem add_add (a : Addr) (i j : Nat) : (a.add i).add j = a.add (i + j) := by
 by_cases hj : 0 < j
 ·rw [add_field a i j hj]
  unfold Addr.add
  split
  ·omega
  ·rfl
 ·obtain rfl : j = 0 := by omega
  unfold Addr.add
  simp
theorem list_of {α : Type} {Q : Nat → α → Prop} : ∀ n, (∀ i, i < n → ∃ p, Q i p) → ∃ l : List α, l.length = n ∧ ∀ i p, l[i]? = some p → Q i p
 | 0, _ => ⟨[], rfl, fun i p h => by simp at h⟩
 | n + 1, h => by
  obtain ⟨l, h1, h2⟩ := list_of n (fun i hi => h i (by omega))
  obtain ⟨p, hp⟩ := h n (by omega)
  refine ⟨l ++ [p], by simp [h1], fun i q hq => ?_⟩
  by_cases c : i < n
  ·rw [List.getElem?_append_left (by omega)] at hq
   exact h2 i q hq
  ·have hi : i < (l ++ [p]).length := (List.getElem?_eq_some_iff.1 hq).1
   rw [List.length_append, List.length_singleton] at hi
   obtain rfl : i = n := by omega
   rw [List.getElem?_append_right (by omega), h1, Nat.sub_self] at hq
   simp at hq
   subst hq
   exact hp
section
variable {H : Type} {enc : TypeId × Value → H} {P : Program} {w : World} {base : Nat} {spare : Nat → Bool} {held : Bool}
def Opens {α : Type} (P : Program) (kd : Kd α) (t : TypeId) (good : α → Prop) : Prop :=
 ∀ (H : Type) (enc : TypeId × Value → H) (w : World) (base : Nat) (spare : Nat → Bool) (held : Bool) (fuel : Nat) (cs : List Value) (x : DataW H × List MemPlace),
  DataW.trod enc P w base spare held fuel t cs = some x → (∀ n ∈ x.1.weights P t, n ≤ reachBytes) → ∃ a, kd.K w a cs ∧ good a
theorem opens_int {k : IntKind} {t : TypeId} (ht : P.underlying t = some (.int k)) : Opens P (Kd.int k) t (fun n => (Lit.int k n).wf = true) := by
 intro H enc w base spare held fuel cs x h _
 obtain ⟨n, rfl, _, hw⟩ := DataW.trod_int ht h
 exact ⟨n, rfl, hw⟩
theorem weightsAll_mem {e : TypeId} : ∀ {l : List (DataW H)} {d : DataW H}, d ∈ l → ∀ n ∈ d.weights P e, n ∈ DataW.weightsAll P e l
 | d0 :: l, d, hd, n, hn => by
  simp only [DataW.weightsAll, List.mem_append]
  rcases List.mem_cons.1 hd with rfl | hd
  ·exact .inl hn
  ·exact .inr (weightsAll_mem hd n hn)
theorem opens_slice {α : Type} {kd : Kd α} {t e : TypeId} {good : α → Prop} (ht : P.underlying t = some (.slice e)) (hsz : P.cellsOf e = kd.sz) (he : Opens P kd e good) :
 Opens P (Kd.slice e kd) t (fun xs => xs.length * P.bytesOf e ≤ reachBytes ∧ ∀ x ∈ xs, good x) := by
 intro H enc w base spare held fuel cs x h hw
 rcases open_slice ht h with ⟨rfl, rfl⟩ | ⟨a, len, cap, m, n, D, Pl, rfl, hb, hl, hm, hmm, rfl, hx⟩
 ·refine ⟨[], ⟨none, 0, rfl, Nat.le_refl _, Kd.C_nil _ _⟩, by simp, fun x hx => by simp at hx⟩
 ·have hlm : len ≤ m := by rw [hmm]; split <;> omega
  have hw1 : (((List.range len).map D).length + ((List.range (m - len)).map fun j => D (len + j)).length) * P.bytesOf e ≤ reachBytes := hw _ (by simp [DataW.weights, ht])
  have hel : ∀ i, i < len → ∃ (cs' : List Value) (p : α), w.cells? base (a.add (i * P.cellsOf e)) (P.cellsOf e) = some cs' ∧ kd.K w p cs' ∧ good p := by
   intro i hi
   obtain ⟨cs', h1, h2⟩ := hx i (by omega)
   have hwi : ∀ n ∈ (D i).weights P e, n ≤ reachBytes := by
    intro n hn
    refine hw n ?_
    simp only [DataW.weights, ht, List.mem_cons, List.mem_append]
    exact .inr (.inl (weightsAll_mem (List.mem_map.2 ⟨i, List.mem_range.2 hi, rfl⟩) n hn))
   obtain ⟨p, hp, hg⟩ := he H enc w base spare held n cs' (D i, Pl i) h2 hwi
   exact ⟨cs', p, h1, hp, hg⟩
  obtain ⟨xs, hxl, hxs⟩ := list_of (Q := fun i p => ∃ cs', w.cells? base (a.add (i * P.cellsOf e)) (P.cellsOf e) = some cs' ∧ kd.K w p cs' ∧ good p) len
   (fun i hi => by obtain ⟨cs', p, h1, h2, h3⟩ := hel i hi; exact ⟨p, cs', h1, h2, h3⟩)
  refine ⟨xs, ⟨some a, cap, by rw [hxl], by omega, ?_⟩, ?_, ?_⟩
  ·rw [hxl]
   refine ⟨hxl, by unfold maxLen at hm; omega, fun _ => ⟨a, rfl, fun j p hj => ?_⟩⟩
   obtain ⟨cs', h1, h2, _⟩ := hxs j p hj
   obtain ⟨g1, g2⟩ := cells_get h1
   refine ⟨cs', g1.trans hsz, h2, fun i u hu => ?_⟩
   have := g2 i u hu
   rw [add_add, hsz] at this
   exact this
  ·rw [List.length_map, List.length_map, List.length_range, List.length_range] at hw1
   rw [hxl]
   exact Nat.le_trans (Nat.mul_le_mul_right _ (by omega)) hw1
  ·intro x hx2
   obtain ⟨j, hj⟩ := List.mem_iff_getElem?.1 hx2
   obtain ⟨_, _, _, hg⟩ := hxs j x hj
   exact hg
theorem slice_arg {α : Type} {kd : Kd α} {t e : TypeId} {good : α → Prop} (ht : P.underlying t = some (.slice e)) (hsz : P.cellsOf e = kd.sz) (he : Opens P kd e good)
 {ts : List TypeId} {ds : List (DataW H)} {j : Nat} {d : DataW H} {ps : List MemPlace} {a : Option Addr} {len cap : Nat}
 (hS : (DataW.weightsEach P ts ds).all (· ≤ reachBytes) = true) (h1 : ts[j]? = some t) (h2 : ds[j]? = some d)
 (h : DataW.Trod enc P w base spare held t (.slice a len cap) d ps) :
 ∃ xs, len = xs.length ∧ kd.C w a xs.length xs ∧ xs.length ≤ cap ∧ xs.length * P.bytesOf e ≤ reachBytes ∧ ∀ x ∈ xs, good x := by
 obtain ⟨fuel, hf⟩ := h
 have hw : ∀ n ∈ d.weights P t, n ≤ reachBytes := fun n hn => by
  have := List.all_eq_true.1 hS n (DataW.weights_mem_each h1 h2 n hn)
  simpa using this
 obtain ⟨xs, ⟨A, c, hv, hl, hC⟩, hg1, hg2⟩ := opens_slice ht hsz he H enc w base spare held fuel _ (d, ps) (by simpa [Value.cells] using hf) hw
 simp at hv
 obtain ⟨rfl, rfl, rfl⟩ := hv
 exact ⟨xs, rfl, hC, hl, hg1, hg2⟩
end
theorem wf_u8 {n : Int} (h : (Lit.int .u8 n).wf = true) : 0 ≤ n ∧ n ≤ 255 := by
 simp [Lit.wf, IntKind.min, IntKind.max, IntKind.signed, IntKind.bits] at h; omega
end Go.Proofs.Ytjcfmfdkligmoaa.Op
