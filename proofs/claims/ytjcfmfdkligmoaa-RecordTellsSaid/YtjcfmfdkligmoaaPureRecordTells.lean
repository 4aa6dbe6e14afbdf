/- Proved: RecordTells answers true: which records may be, which bytes each is, and which record any bytes are. Conditions: the arguments are of their kinds. -/
import Derived.Test.YtjcfmfdkligmoaaFRecordTells
namespace Go.Proofs.Ytjcfmfdkligmoaa.Pure
open Go.RowKit Go.Proofs.Ytjcfmfdkligmoaa.PRecordTells Go.Proofs.YtjcfmfdkligmoaaW.PrintWords Go.Proofs.YtjcfmfdkligmoaaW.PrintLast Go.Proofs.Ytjcfmfdkligmoaa.Rw Go.Proofs.Ytjcfmfdkligmoaa.Sp Go.Proofs.Ytjcfmfdkligmoaa.FRecordTells
set_option linter.unusedVariables false
theorem tells_j1 (v : Bool) (x : List Int) (p n b s m bl e : Int) (g : Bool) (u : Int) (D : List Int) (hy : v = true → okR p n b s m bl e g u D ∧ x = enc p n b s m bl e g u D) (hn : v = false → x = []) :
    Ev (fun q => fountainlaw14_RecordTells.j1 q v x false p n b s m bl e g u D) true := by
  refine Ev.step (fun q => by simp only [fountainlaw14_RecordTells.j1]; rfl) ?_
  refine ev_neg (by decide) ?_
  cases v with
  | true =>
    obtain ⟨h1, rfl⟩ := hy rfl
    refine Ev.bind (Read_enc h1) (ev_pos rfl ?_)
    refine ev_val (o := fountainlaw14_num.f 0) rfl (ev_pos rfl ?_)
    exact ev_val (same_rec p n b s m bl e g u D) (Ev.now _)
  | false =>
    obtain rfl := hn rfl
    obtain ⟨r, hr, _⟩ := both [] (by simp) (by simp)
    exact Ev.bind hr (ev_neg (by decide) (ev_pos rfl (Ev.now _)))
theorem tells_j0 (q : List Int) (hq : ∀ x ∈ q, 0 ≤ x ∧ x ≤ 255) (hl : q.length ≤ 300) (p n b s m bl e : Int) (g : Bool) (u : Int) (D : List Int) (hDl : D.length ≤ 200) :
    Ev (fun k => fountainlaw14_RecordTells.j0 k q true false p n b s m bl e g u D) true := by
  refine Ev.step (fun q => by simp only [fountainlaw14_RecordTells.j0]; rfl) ?_
  refine ev_neg (by decide) ?_
  obtain ⟨v, hv, hv2⟩ := rRight_ev p n b s m bl e g u D
  obtain ⟨r, hr1, hr2⟩ := both q hq (by omega)
  obtain ⟨x, hx1, hx2, hx3, hx4⟩ : ∃ x, Ev (fun k => record_Bytes.f k p n b s m bl e g u D) x ∧ Ev (fun k => fountainref14_RecordBytes.f k p n b s m bl e g u D) x ∧ (v = true → okR p n b s m bl e g u D ∧ x = enc p n b s m bl e g u D) ∧ (v = false → x = []) := by
    by_cases h : okR p n b s m bl e g u D
    · exact ⟨_, Bytes_ev h (by omega), RBytes_ev h (by omega), fun _ => ⟨h, rfl⟩, fun k => by rw [hv2.2 h] at k; cases k⟩
    · exact ⟨_, Bytes_no h, RBytes_no h, fun k => absurd (hv2.1 k) h, fun _ => rfl⟩
  have hR : Ev (fun k => record_Right.f k p n b s m bl e g u D) v := by
    by_cases h : okR p n b s m bl e g u D
    · rw [hv2.2 h]; exact Right_true h
    · have : v = false := by
        cases v with
        | true => exact absurd (hv2.1 rfl) h
        | false => rfl
      rw [this]; exact Right_false h
  refine Ev.bind hv (Ev.bind hx1 (ev_pos (by simp; omega) ?_))
  rw [List.nil_append]
  refine Ev.bind hr1 (Ev.bind hr2 (Ev.bind hR (ev_neg (by simp) (Ev.bind hx2 (ev_pos rfl ?_)))))
  refine ev_val (same_rec _ _ _ _ _ _ _ _ _ _) (ev_pos rfl ?_)
  refine ev_val (o := fountainlaw14_num.f r.2.2.2.2.2.2.2.2.2.2) rfl ?_
  rw [show (r.2.2.2.2.2.2.2.2.2.2 != r.2.2.2.2.2.2.2.2.2.2) = false from by simp]
  exact tells_j1 v x p n b s m bl e g u D hx3 hx4
theorem RecordTells (p n b s m bl e : Int) (g : Bool) (u : Int) (D : List Int) (q : List Int) (hq : q.length < 2 ^ 48 ∧ ∀ x ∈ q, 0 ≤ x ∧ x ≤ 255) : Ev (fun k => fountainlaw14_RecordTells.f k p n b s m bl e g u D q) true := by
  unfold fountainlaw14_RecordTells.f
  refine Ev.bind alive14_ev (ev_pos rfl ?_)
  have fin : Ev (fun k => fountainlaw14_RecordTells.j0 k q true true p n b s m bl e g u D) true := by
    refine Ev.step (fun q => by simp only [fountainlaw14_RecordTells.j0]; rfl) ?_
    first | exact ev_pos rfl (Ev.now _) | exact ev_pos trivial (Ev.now _)
  by_cases c1 : (D.length : Int) > 200
  · exact ev_pos c1 fin
  refine ev_neg c1 ?_
  by_cases c2 : (q.length : Int) > 300
  · rw [decide_eq_true c2]; exact fin
  · rw [decide_eq_false c2]
    exact tells_j0 q hq.2 (by omega) p n b s m bl e g u D (by omega)
end Go.Proofs.Ytjcfmfdkligmoaa.Pure
