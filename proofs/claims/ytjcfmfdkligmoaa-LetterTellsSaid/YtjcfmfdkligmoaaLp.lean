/- What any bytes are read as, when they are read as a letter; and that what stands behind is left. No program is in sight but for the printed functions. Conditions: those that stand in the theorems. -/
import Derived.Test.YtjcfmfdkligmoaaLg
import Derived.Test.YtjcfmfdkligmoaaFRecordTells
namespace Go.Proofs.Ytjcfmfdkligmoaa.Lp
open Go.RowKit Go.Proofs.Ytjcfmfdkligmoaa.PRecordTells Go.Proofs.Ytjcfmfdkligmoaa.PLetterLimits Go.Proofs.YtjcfmfdkligmoaaW.PrintWords Go.Proofs.YtjcfmfdkligmoaaW.PrintLast Go.Proofs.Ytjcfmfdkligmoaa.Lt Go.Proofs.Ytjcfmfdkligmoaa.Lr Go.Proofs.Ytjcfmfdkligmoaa.Lq Go.Proofs.Ytjcfmfdkligmoaa.Lg Go.Proofs.Ytjcfmfdkligmoaa.FRecordTells
set_option linter.unusedVariables false
abbrev State := List Int × Bool
def Byts (l : List Int) : Prop := ∀ x ∈ l, 0 ≤ x ∧ x ≤ 255
def okB (s : State) : Prop := Byts s.1 ∧ s.1.length < 2 ^ 18
theorem tk_ok {n : Nat} {s : State} (h : okB s) : okB (tk n s).2 ∧ Byts (tk n s).1 ∧ (tk n s).1.length ≤ n ∧ (tk n s).1.length < 2 ^ 18 := by
  obtain ⟨h1, h2⟩ := h
  unfold tk
  split
  · exact ⟨⟨fun x hx => absurd hx (by simp), by simp⟩, fun x hx => absurd hx (by simp), by simp, by simp⟩
  · refine ⟨⟨fun x hx => h1 x (List.mem_of_mem_drop hx), ?_⟩, fun x hx => h1 x (List.mem_of_mem_take hx), ?_, ?_⟩
    · show (s.1.drop n).length < _; rw [List.length_drop]; omega
    · show (s.1.take n).length ≤ _; rw [List.length_take]; omega
    · show (s.1.take n).length < _; rw [List.length_take]; omega
theorem wh_le1 {l : List Int} (h : Byts l) (hl : l.length ≤ 1) : 0 ≤ wh l ∧ wh l ≤ 255 := by
  match l, hl with
  | [], _ => exact ⟨by decide, by decide⟩
  | [x], _ => rw [wh_one x (h x (by simp))]; exact h x (by simp)
theorem wh_le2 {l : List Int} (h : Byts l) (hl : l.length ≤ 2) : 0 ≤ wh l ∧ wh l ≤ 65535 := by
  match l, hl with
  | [], _ => exact ⟨by decide, by decide⟩
  | [x], _ => rw [wh_one x (h x (by simp))]; have := h x (by simp); omega
  | [x, y], _ =>
    have hx := h x (by simp)
    have hy := h y (by simp)
    obtain ⟨a, rfl⟩ := nat_of hx.1
    obtain ⟨b, rfl⟩ := nat_of hy.1
    have := wh_app (l := [(a : Int)]) (x := a) (wh_one _ hx) b (by omega) (by omega)
    rw [show [(a : Int), (b : Int)] = [(a : Int)] ++ [(b : Int)] from rfl, this]
    omega
noncomputable def rv (q : List Int) : Ans := @dite _ (Byts q ∧ q.length < 2 ^ 19) (Classical.propDecidable _) (fun h => Classical.choose (both q h.1 h.2)) (fun _ => wrong)
theorem rv_ev {q : List Int} (h1 : Byts q) (h2 : q.length < 2 ^ 19) : Ev (fun k => record_Read.f k q) (rv q) := by
  have h : Byts q ∧ q.length < 2 ^ 19 := ⟨h1, h2⟩
  unfold rv
  rw [dif_pos h]
  exact (Classical.choose_spec (both q h.1 h.2)).1
def nOf (s : State) : Nat := (wh (tk 2 s).1).toNat
def tOf (s : State) : List Int × State := tk (nOf s) (tk 2 s).2
noncomputable def recOf (s : State) : S28 :=
  let r := rv (tOf s).1
  ⟨⟨r.1, r.2.1⟩, ⟨r.2.2.1, r.2.2.2.1, r.2.2.2.2.1⟩, r.2.2.2.2.2.1, r.2.2.2.2.2.2.1, r.2.2.2.2.2.2.2.1, r.2.2.2.2.2.2.2.2.1, r.2.2.2.2.2.2.2.2.2.1⟩
noncomputable def errOf (s : State) : Int := (rv (tOf s).1).2.2.2.2.2.2.2.2.2.2
noncomputable def nxt (s : State) : State := ((tOf s).2.1, (tOf s).2.2 || decide (errOf s ≠ 0))
noncomputable def sr (s : State) : Nat → State
  | 0 => s
  | i + 1 => nxt (sr s i)
theorem nxt_ok {s : State} (h : okB s) : okB (nxt s) := (tk_ok (n := nOf s) (tk_ok (n := 2) h).1).1
theorem sr_ok {s : State} (h : okB s) : ∀ i, okB (sr s i)
  | 0 => h
  | i + 1 => nxt_ok (sr_ok h i)
theorem ps_ok {s : State} (h : okB s) : ∀ i, okB (ps s i)
  | 0 => h
  | i + 1 => (tk_ok (ps_ok h i)).1
theorem st_ok {bs : List Int} (h : okB (bs, false)) : ∀ i, okB (st bs i)
  | 0 => h
  | i + 1 => (tk_ok (st_ok h i)).1
theorem step_ev {s : State} (h : okB s) : ∃ k0, ∀ k, k0 ≤ k → RecStep k s (nxt s) (recOf s) := by
  have h2 := tk_ok (n := 2) h
  have h3 := tk_ok (n := nOf s) h2.1
  obtain ⟨w1, w2⟩ := wh_le2 h2.2.1 h2.2.2.1
  obtain ⟨a, ha⟩ := whole_ev (tk 2 s).1 (by omega)
  obtain ⟨b, hb⟩ := rv_ev h3.2.1 (by omega)
  refine ⟨a + b, fun k hk => ⟨nOf s, errOf s, by unfold nOf; omega, ?_, hb k (by omega), rfl⟩⟩
  have h5 : record_Whole.f k (tk 2 s).1 = some (wh (tk 2 s).1) := ha k (by omega)
  rw [h5]
  unfold nOf
  congr 1
  omega
def vs (bs : List Int) (i : Nat) : Int := wh (tk (wd i) (st bs i)).1
def np (bs : List Int) : Nat := (vs bs 6).toNat
def peersOf (bs : List Int) : List Int := (List.range (np bs)).map fun i => wh (tk 4 (ps (st bs 7) i)).1
def s8 (bs : List Int) : State := (tk 1 (ps (st bs 7) (np bs))).2
def nr (bs : List Int) : Nat := (wh (tk 1 (ps (st bs 7) (np bs))).1).toNat
noncomputable def recsOf (bs : List Int) : List S28 := (List.range (nr bs)).map fun i => recOf (sr (s8 bs) i)
noncomputable def endOf (bs : List Int) : State := sr (s8 bs) (nr bs)
theorem peersOf_len (bs : List Int) : (peersOf bs).length = np bs := by unfold peersOf; rw [List.length_map, List.length_range]
theorem recsOf_len (bs : List Int) : (recsOf bs).length = nr bs := by unfold recsOf; rw [List.length_map, List.length_range]
theorem peersOf_at {bs : List Int} {i : Nat} (h : i < np bs) : (peersOf bs).getD i 0 = wh (tk 4 (ps (st bs 7) i)).1 := by
  unfold peersOf; rw [List.getD_eq_getElem?_getD, List.getElem?_map, List.getElem?_range h]; rfl
theorem recsOf_at {bs : List Int} {i : Nat} (h : i < nr bs) : (recsOf bs).getD i z28 = recOf (sr (s8 bs) i) := by
  unfold recsOf; rw [List.getD_eq_getElem?_getD, List.getElem?_map, List.getElem?_range h]; rfl
theorem np_le {bs : List Int} (h : okB (bs, false)) : vs bs 6 = ((np bs : Nat) : Int) ∧ np bs ≤ 255 := by
  have h2 := tk_ok (n := wd 6) (st_ok h 6)
  obtain ⟨a, b⟩ := wh_le1 h2.2.1 h2.2.2.1
  unfold np vs
  constructor <;> omega
theorem nr_le {bs : List Int} (h : okB (bs, false)) : wh (tk 1 (ps (st bs 7) (np bs))).1 = ((nr bs : Nat) : Int) ∧ nr bs ≤ 255 := by
  have h2 := tk_ok (n := 1) (ps_ok (st_ok h 7) (np bs))
  obtain ⟨a, b⟩ := wh_le1 h2.2.1 h2.2.2.1
  unfold nr
  constructor <;> omega
theorem upto {p : Nat → Nat → Prop} (n : Nat) (h : ∀ i, i < n → ∃ k0, ∀ k, k0 ≤ k → p i k) : ∃ k0, ∀ k, k0 ≤ k → ∀ i, i < n → p i k := by
  induction n with
  | zero => exact ⟨0, fun k _ i hi => absurd hi (Nat.not_lt_zero _)⟩
  | succ n ih =>
    obtain ⟨a, ha⟩ := ih (fun i hi => h i (by omega))
    obtain ⟨b, hb⟩ := h n (by omega)
    exact ⟨a + b, fun k hk i hi => by
      by_cases e : i = n
      · subst e; exact hb k (by omega)
      · exact ha k (by omega) i (by omega)⟩
structure Parsed (k : Nat) (bs : List Int) : Prop where
  nums : ∀ i, i < 7 → vw k bs i = some (vs bs i)
  peers : ∀ i : Nat, i < (peersOf bs).length → record_Whole.f k (tk 4 (ps (st bs 7) i)).1 = some ((peersOf bs).getD i 0)
  count : record_Whole.f k (tk 1 (ps (st bs 7) (peersOf bs).length)).1 = some ((recsOf bs).length : Int)
  recs : ∀ i : Nat, i < (recsOf bs).length → RecStep k (sr (s8 bs) i) (sr (s8 bs) (i + 1)) ((recsOf bs).getD i z28)
theorem parsed {bs : List Int} (h : okB (bs, false)) : ∃ k0, ∀ k, k0 ≤ k → Parsed k bs := by
  obtain ⟨a, ha⟩ := upto (p := fun i k => vw k bs i = some (vs bs i)) 7 (fun i _ => by
    have h2 := tk_ok (n := wd i) (st_ok h i)
    exact whole_ev (tk (wd i) (st bs i)).1 (by omega))
  obtain ⟨b, hb⟩ := upto (p := fun i k => record_Whole.f k (tk 4 (ps (st bs 7) i)).1 = some ((peersOf bs).getD i 0)) (np bs) (fun i hi => by
    have h2 := tk_ok (n := 4) (ps_ok (st_ok h 7) i)
    rw [peersOf_at hi]
    exact whole_ev (tk 4 (ps (st bs 7) i)).1 (by omega))
  obtain ⟨c, hc⟩ := whole_ev (tk 1 (ps (st bs 7) (np bs))).1 (by have h2 := tk_ok (n := 1) (ps_ok (st_ok h 7) (np bs)); omega)
  have ok8 : okB (s8 bs) := (tk_ok (n := 1) (ps_ok (st_ok h 7) (np bs))).1
  obtain ⟨d, hd⟩ := upto (p := fun i k => RecStep k (sr (s8 bs) i) (sr (s8 bs) (i + 1)) ((recsOf bs).getD i z28)) (nr bs) (fun i hi => by
    rw [recsOf_at hi]
    exact step_ev (sr_ok ok8 i))
  refine ⟨a + b + c + d, fun k hk => ⟨ha k (by omega), fun i hi => hb k (by omega) i (by rwa [peersOf_len] at hi), ?_, fun i hi => hd k (by omega) i (by rwa [recsOf_len] at hi)⟩⟩
  have h5 : record_Whole.f k (tk 1 (ps (st bs 7) (np bs))).1 = some (wh (tk 1 (ps (st bs 7) (np bs))).1) := hc k (by omega)
  rw [peersOf_len, recsOf_len, h5, (nr_le h).1]
theorem tk_was {n : Nat} {s : State} (h : (tk n s).2.2 = false) : s.2 = false := by
  unfold tk at h
  split at h
  · cases h
  · exact h
theorem st_succ (bs : List Int) (i : Nat) : st bs (i + 1) = (tk (wd i) (st bs i)).2 := rfl
theorem ps_was {s : State} : ∀ {i : Nat}, (ps s i).2 = false → s.2 = false
  | 0, h => h
  | i + 1, h => ps_was (tk_was h)
theorem nxt_was {s : State} (h : (nxt s).2 = false) : (tOf s).2.2 = false ∧ errOf s = 0 := by
  unfold nxt at h
  rw [Bool.or_eq_false_iff] at h
  exact ⟨h.1, by have := of_decide_eq_false h.2; exact Decidable.not_not.1 this⟩
theorem sr_was {s : State} : ∀ {i : Nat}, (sr s i).2 = false → s.2 = false
  | 0, h => h
  | i + 1, h => sr_was (tk_was (tk_was (nxt_was h).1))
end Go.Proofs.Ytjcfmfdkligmoaa.Lp
