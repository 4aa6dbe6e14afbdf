/- Proved: RecordTorn answers true: no beginning of a record is one, and none with more behind. Conditions: the arguments are of their kinds. -/
import Derived.Test.YtjcfmfdkligmoaaFRecordTorn
namespace Go.Proofs.Ytjcfmfdkligmoaa.Pure
open Go.RowKit Go.Proofs.Ytjcfmfdkligmoaa.PRecordTorn Go.Proofs.YtjcfmfdkligmoaaW.PrintWords Go.Proofs.YtjcfmfdkligmoaaW.PrintLast Go.Proofs.Ytjcfmfdkligmoaa.Rw Go.Proofs.Ytjcfmfdkligmoaa.Sp Go.Proofs.Ytjcfmfdkligmoaa.FRecordTorn
theorem RecordTorn (p n b s m bl e : Int) (g : Bool) (u : Int) (D : List Int) (i : Int) : Ev (fun q => fountainlaw14_RecordTorn.f q p n b s m bl e g u D i) true := by
  unfold fountainlaw14_RecordTorn.f
  refine Ev.bind alive14_ev (ev_pos rfl ?_)
  have fin : ∀ b' : Bool, b' = true → Ev (fun q => fountainlaw14_RecordTorn.j0 q i true b' p n b s m bl e g u D) true := by
    intro b' hb
    refine Ev.step (fun q => by simp only [fountainlaw14_RecordTorn.j0]; rfl) ?_
    exact ev_pos hb (Ev.now _)
  obtain ⟨v, hv, hv2⟩ := rRight_ev p n b s m bl e g u D
  refine Ev.bind hv ?_
  by_cases c : v = true
  · refine ev_pos c ?_
    have h := hv2.1 c
    by_cases ci : i < 0
    · exact fin _ (decide_eq_true ci)
    rw [decide_eq_false ci]
    have hD : D.length ≤ 64 := by
      cases g with
      | true => have := (h.2.2.2.1 rfl).2.2.2.2.2; omega
      | false => have h1 := (h.2.2.2.2 rfl).1.2.1; have h2 := (h.2.2.2.2 rfl).2.2.2; omega
    have hb := Bytes_ev h (by omega)
    obtain ⟨t1, t2⟩ := torn h (by omega)
    have hlen : 13 ≤ (enc p n b s m bl e g u D).length ∧ (enc p n b s m bl e g u D).length ≤ 100 := by
      cases g with
      | true => rw [enc_length_gone]; omega
      | false => rw [enc_length]; omega
    obtain ⟨E, hE⟩ : ∃ E, enc p n b s m bl e g u D = E := ⟨_, rfl⟩
    rw [hE] at hb t1 t2 hlen
    obtain ⟨j, rfl⟩ : ∃ j : Nat, i = (j : Int) := ⟨i.toNat, by omega⟩
    have hm : Int.tmod (j : Int) (E.length : Int) = ((j % E.length : Nat) : Int) := (Int.ofNat_tmod _ _).symm
    have hml : j % E.length < E.length := Nat.mod_lt _ (by omega)
    refine Ev.step (fun q => by simp only [fountainlaw14_RecordTorn.j0]; rfl) ?_
    refine ev_neg (by decide) (Ev.bind hb (ev_neg (by omega) ?_))
    rw [hm]
    refine ev_pos (by omega) (ev_pos (by omega) ?_)
    rw [Int.toNat_natCast]
    refine Ev.bind (t1 _ hml) (ev_pos (by rw [List.length_nil]; omega) ?_)
    rw [List.nil_append]
    refine ev_val (o := some E) rfl (ev_pos (by omega) (Ev.bind t2 ?_))
    refine ev_val (o := fountainlaw14_num.f 2) rfl (ev_pos rfl ?_)
    refine ev_val (o := fountainlaw14_num.f 2) rfl ?_
    exact Ev.now _
  · exact ev_neg c (fin _ rfl)
end Go.Proofs.Ytjcfmfdkligmoaa.Pure
