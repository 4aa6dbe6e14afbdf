/- What letter.Bytes, letter.Read, and the document's ReadLetter and SameLetter come to: any bytes are one letter or none, for both. No program is in sight but for the printed functions. Conditions: those that stand in the theorems. -/
import Derived.Test.YtjcfmfdkligmoaaLy
import Derived.Test.YtjcfmfdkligmoaaRm
import Derived.Test.YtjcfmfdkligmoaaPLetterTellsx16
namespace Go.Proofs.Ytjcfmfdkligmoaa.Lu
open Go.RowKit Go.Proofs.Ytjcfmfdkligmoaa.PRecordTells Go.Proofs.Ytjcfmfdkligmoaa.PLetterLimits Go.Proofs.Ytjcfmfdkligmoaa.PLetterTorn Go.Proofs.Ytjcfmfdkligmoaa.PLetterTells Go.Proofs.YtjcfmfdkligmoaaW.PrintWords Go.Proofs.YtjcfmfdkligmoaaW.PrintLast Go.Proofs.Ytjcfmfdkligmoaa.Lt Go.Proofs.Ytjcfmfdkligmoaa.Lr Go.Proofs.Ytjcfmfdkligmoaa.Lq Go.Proofs.Ytjcfmfdkligmoaa.Lg Go.Proofs.Ytjcfmfdkligmoaa.FRecordTells Go.Proofs.Ytjcfmfdkligmoaa.Lp Go.Proofs.Ytjcfmfdkligmoaa.Lv Go.Proofs.Ytjcfmfdkligmoaa.Lw Go.Proofs.Ytjcfmfdkligmoaa.Lj Go.Proofs.Ytjcfmfdkligmoaa.Lx Go.Proofs.Ytjcfmfdkligmoaa.Ly Go.Proofs.Ytjcfmfdkligmoaa.Rm
set_option linter.unusedVariables false
section
variable (k a b c d e : Int) (P : List Int) (R : List S28)
theorem by_l2 (hR : R.length ≤ 255) (t : List S28) : ∀ (i : Nat) (acc : List Int), R.drop i = t → acc.length + 90 * t.length < 2 ^ 29 → (∀ x ∈ t, okW x) → Ev (fun n => letter_Bytes.l2 n acc R (R.length : Int) (i : Int)) (acc ++ encR t) := by
  induction t with
  | nil =>
    intro i acc h1 h2 _
    have h3 : R.length ≤ i := List.drop_eq_nil_iff.1 h1
    refine Ev.step (fun n => by simp only [letter_Bytes.l2]; rfl) ?_
    rw [show acc ++ encR [] = acc from by unfold encR; simp]
    exact ev_neg (by omega) (Ev.now _)
  | cons x t ih =>
    intro i acc h1 h2 h
    obtain ⟨g1, g2, g3⟩ := rdT_drop h1
    rw [List.length_cons] at h2
    have hx := h x (by simp)
    have hn := encX_len hx
    have hX := ih (i + 1) (acc ++ N2 ((encX x).length : Int) ++ encX x) g3 (by rw [List.length_append, List.length_append, N2_length]; omega) (fun y hy => h y (by simp [hy]))
    refine Ev.step (fun n => by simp only [letter_Bytes.l2]; rfl) ?_
    refine ev_pos (by omega) (ev_pos (by omega) (ev_pos (by omega) ?_))
    rw [g1]
    refine Ev.bind (a := encX x) (Bytes_ev hx (by have := okW_len hx; omega)) ?_
    refine Ev.bind (num2_ev _) ?_
    refine ev_pos (by rw [N2_length]; omega) ?_
    refine ev_val rfl ?_
    refine ev_pos (by rw [List.length_append, N2_length]; omega) ?_
    rw [w64 (i := (i : Int) + 1) (by omega) (by omega), show (i : Int) + 1 = ((i + 1 : Nat) : Int) from by omega, encR_cons, ← List.append_assoc, ← List.append_assoc]
    exact hX
theorem by_l1 (hP : P.length ≤ 255) (hR : R.length ≤ 255) (hW : ∀ x ∈ R, okW x) (t : List Int) : ∀ (i : Nat) (acc : List Int), P.drop i = t → acc.length + 4 * t.length < 2000 → Ev (fun n => letter_Bytes.l1 n acc P (P.length : Int) (i : Int) k a b c d e P R) (acc ++ (encP t ++ ([(R.length : Int)] ++ encR R))) := by
  induction t with
  | nil =>
    intro i acc h1 h2
    have h3 : P.length ≤ i := List.drop_eq_nil_iff.1 h1
    simp only [List.length_nil] at h2
    have hl : (acc ++ [(R.length : Int)]).length + 90 * R.length < 2 ^ 29 := by rw [List.length_append, List.length_singleton]; omega
    refine Ev.step (fun n => by simp only [letter_Bytes.l1]; rfl) ?_
    refine ev_neg (by omega) (ev_pos (by omega) ?_)
    rw [show (R.length : Int) % 256 = (R.length : Int) from by omega]
    have := by_l2 R hR R 0 (acc ++ [(R.length : Int)]) rfl hl hW
    rw [List.append_assoc] at this
    exact this
  | cons p t ih =>
    intro i acc h1 h2
    obtain ⟨g1, g2, g3⟩ := rd_drop h1
    rw [List.length_cons] at h2
    have hX := ih (i + 1) (acc ++ N4 p) g3 (by rw [List.length_append, N4_length]; omega)
    refine Ev.step (fun n => by simp only [letter_Bytes.l1]; rfl) ?_
    refine ev_pos (by omega) (ev_pos (by omega) (ev_pos (by omega) ?_))
    rw [g1]
    refine Ev.bind (num4_ev p) ?_
    refine ev_pos (by rw [N4_length]; omega) ?_
    rw [w64 (i := (i : Int) + 1) (by omega) (by omega), show (i : Int) + 1 = ((i + 1 : Nat) : Int) from by omega, encP_cons, List.append_assoc, ← List.append_assoc]
    exact hX
theorem by_l0 (hP : P.length ≤ 255) (hR : R.length ≤ 255) (hW : ∀ x ∈ R, okW x) (L : List Int) (hL : L.length ≤ 5) (t : List Int) : ∀ (i : Nat) (acc : List Int), L.drop i = t → acc.length + 4 * t.length < 100 → Ev (fun n => letter_Bytes.l0 n acc L (L.length : Int) (i : Int) k a b c d e P R) (acc ++ (encP t ++ ([(P.length : Int)] ++ (encP P ++ ([(R.length : Int)] ++ encR R))))) := by
  induction t with
  | nil =>
    intro i acc h1 h2
    have h3 : L.length ≤ i := List.drop_eq_nil_iff.1 h1
    simp only [List.length_nil] at h2
    have hl : (acc ++ [(P.length : Int)]).length + 4 * P.length < 2000 := by rw [List.length_append, List.length_singleton]; omega
    refine Ev.step (fun n => by simp only [letter_Bytes.l0]; rfl) ?_
    refine ev_neg (by omega) (ev_pos (by omega) ?_)
    rw [show (P.length : Int) % 256 = (P.length : Int) from by omega]
    have := by_l1 k a b c d e P R hP hR hW P 0 (acc ++ [(P.length : Int)]) rfl hl
    rw [List.append_assoc] at this
    exact this
  | cons p t ih =>
    intro i acc h1 h2
    obtain ⟨g1, g2, g3⟩ := rd_drop h1
    rw [List.length_cons] at h2
    have hX := ih (i + 1) (acc ++ N4 p) g3 (by rw [List.length_append, N4_length]; omega)
    refine Ev.step (fun n => by simp only [letter_Bytes.l0]; rfl) ?_
    refine ev_pos (by omega) (ev_pos (by omega) (ev_pos (by omega) ?_))
    rw [g1]
    refine Ev.bind (num4_ev p) ?_
    refine ev_pos (by rw [N4_length]; omega) ?_
    rw [w64 (i := (i : Int) + 1) (by omega) (by omega), show (i : Int) + 1 = ((i + 1 : Nat) : Int) from by omega, encP_cons, List.append_assoc, ← List.append_assoc]
    exact hX
theorem Bytes_law : ∃ X, Ev (fun n => letter_Bytes.f n k a b c d e P R) X ∧ (okL k a b c d e P R → X = encL k a b c d e P R) ∧ (¬ okL k a b c d e P R → X = []) := by
  obtain ⟨q, hq, hq2⟩ := right_some k a b c d e P R
  by_cases h : okL k a b c d e P R
  · have hqt := hq2.2 h
    subst hqt
    refine ⟨encL k a b c d e P R, ?_, fun _ => rfl, fun hn => absurd h hn⟩
    unfold letter_Bytes.f
    refine ev_val hq (ev_pos rfl (ev_val (o := letter_numbers.f k a b c d e P R) rfl ?_))
    rw [show k % 256 = k from by have := h.kind; omega]
    have := by_l0 k a b c d e P R h.lp h.lr h.rs [a, b, c, d, e] (Nat.le_refl _) [a, b, c, d, e] 0 [k] rfl (by show 1 + 4 * 5 < 100; omega)
    rw [show [k] ++ (encP [a, b, c, d, e] ++ ([(P.length : Int)] ++ (encP P ++ ([(R.length : Int)] ++ encR R)))) = encL k a b c d e P R from rfl] at this
    exact this
  · refine ⟨[], ?_, fun hh => absurd hh h, fun _ => rfl⟩
    unfold letter_Bytes.f
    exact ev_val hq (ev_neg (fun hh => h (hq2.1 hh)) (Ev.now _))
end
theorem recQ_enc {q : List Int} (h1 : Byts q) (h2 : q.length < 2 ^ 18) (h0 : errQ q = 0) : okW (recQ q) ∧ encX (recQ q) = q := by
  obtain ⟨K, hK⟩ := rvD_ev h1 (by omega)
  have h := hK K (Nat.le_refl _)
  have key : ∀ (p n b s m bl e : Int) (g : Bool) (u : Int) (D : List Int) (bad : Bool) (r : Rq.Ans), Byts D → D.length < 2 ^ 20 → Rq.fin K q p n b s m bl e g u D bad = some r → r.2.2.2.2.2.2.2.2.2.2 = 0 →
      r = (p, n, b, s, m, bl, e, g, u, D, 0) ∧ okR p n b s m bl e g u D ∧ enc p n b s m bl e g u D = q := by
    intro p n b s m bl e g u D bad r hD hD2 hr hr0
    unfold Rq.fin at hr
    obtain ⟨y, hy, hr⟩ := Option.bind_eq_some_iff.1 hr
    split at hr
    · rw [← Option.some.inj hr] at hr0; exact absurd hr0 (by decide)
    · split at hr
      · rw [← Option.some.inj hr] at hr0; exact absurd hr0 (by decide)
      · split at hr
        · rename_i hyl hst
          have hok : okR p n b s m bl e g u D := by
            refine Classical.byContradiction fun hn => ?_
            obtain ⟨j, hj⟩ := RBytes_no hn
            have e1 := at_rounds (g := fun k => zq_RecordBytes.f k p n b s m bl e g u D) (fun k => zq_RecordBytes.mono _ _ _ _ _ _ _ _ _ _ k) (Nat.le_add_right K j) hy
            have e2 := hj (K + j) (Nat.le_add_left _ _)
            have e3 : y = [] := Option.some.inj (e1.symm.trans e2)
            exact hyl (by rw [e3]; rfl)
          obtain ⟨j, hj⟩ := RBytes_ev hok hD2
          have e1 := at_rounds (g := fun k => zq_RecordBytes.f k p n b s m bl e g u D) (fun k => zq_RecordBytes.mono _ _ _ _ _ _ _ _ _ _ k) (Nat.le_add_right K j) hy
          have e2 := hj (K + j) (Nat.le_add_left _ _)
          have e3 : y = enc p n b s m bl e g u D := Option.some.inj (e1.symm.trans e2)
          refine ⟨(Option.some.inj hr).symm, hok, ?_⟩
          rw [e3] at hst
          exact St.str_inj (enc_range _ _ _ _ _ _ _ _ _ _ hD) h1 hst
        · rw [← Option.some.inj hr] at hr0; exact absurd hr0 (by decide)
  have okS9 : okB (Rq.S9 q) := nx_ok (nx_ok (nx_ok (nx_ok (nx_ok (nx_ok (nx_ok (nx_ok (nx_ok (s := (q, false)) ⟨h1, h2⟩ 1) 4) 4) 4) 2) 2) 2) 2) 3
  unfold errQ at h0
  unfold Rq.read.f at h
  split at h
  · obtain ⟨e1, e2, e3⟩ := key _ _ _ _ _ _ _ _ _ _ _ _ (fun x hx => absurd hx (by simp)) (by decide) h h0
    unfold okW encX recQ
    rw [e1]
    exact ⟨e2, e3⟩
  · split at h
    · obtain ⟨e1, e2, e3⟩ := key _ _ _ _ _ _ _ _ _ _ _ _ okS9.1 (by have := okS9.2; omega) h h0
      unfold okW encX recQ
      rw [e1]
      exact ⟨e2, e3⟩
    · cases h
theorem recQ_data {q : List Int} (h1 : Byts q) (h2 : q.length < 2 ^ 18) (h0 : errQ q = 0) : ∀ y ∈ (recQ q).f6, 0 ≤ y ∧ y ≤ 255 := by
  obtain ⟨a, b⟩ := recQ_enc h1 h2 h0
  intro y hy
  have hg : (recQ q).f4 = false := by
    cases hg : (recQ q).f4 with
    | false => rfl
    | true => have := (a.2.2.2.1 hg).2.2.2.2.2; rw [List.eq_nil_of_length_eq_zero this] at hy; simp at hy
  refine h1 y ?_
  rw [← b]
  unfold encX enc
  rw [hg, if_neg (by decide)]
  exact List.mem_append_right _ hy
theorem recQ_of {x : S28} (h : okX x) : recQ (encX x) = x ∧ errQ (encX x) = 0 := by
  have hl := encX_len h.1
  have e4 : rv (encX x) = (x.f0.f0, x.f0.f1, x.f1.f0, x.f1.f1, x.f1.f2, x.f2, x.f3, x.f4, x.f5, x.f6, 0) := ev_one (rv_ev (enc_range _ _ _ _ _ _ _ _ _ _ h.2) (by show (encX x).length < _; omega)) (Read_enc h.1)
  unfold recQ errQ
  rw [e4]
  exact ⟨rfl, rfl⟩
theorem nx_cut {n : Nat} (a b : List Int) (h : a.length = n) : Rq.nx (a ++ b, false) n = (b, false) := by
  have hb : Rr.gbad (a ++ b) false n = false := by
    unfold Rr.gbad
    rw [Bool.false_or, decide_eq_false_iff_not, List.length_append]; omega
  unfold Rq.nx Rr.grest
  dsimp only
  rw [hb, if_neg (by decide), List.drop_left' h]
theorem vl_cut {n : Nat} (a b : List Int) (h : a.length = n) : Rq.vl (a ++ b, false) n = wh a := by
  have hb : Rr.gbad (a ++ b) false n = false := by
    unfold Rr.gbad
    rw [Bool.false_or, decide_eq_false_iff_not, List.length_append]; omega
  unfold Rq.vl Rr.gval
  dsimp only
  rw [hb, if_neg (by decide), List.take_left' h]
  rfl
theorem wh_numb {p : Int} (h : numb p) : wh (N4 p) = p := by
  obtain ⟨h1, h2⟩ := h
  obtain ⟨m, rfl⟩ := nat_of h1
  exact wh_N4 m (by omega)
theorem pD_enc (rest : List Int) : ∀ (P : List Int) (acc : List Int), (∀ p ∈ P, numb p) → pD P.length (encP P ++ rest, false) acc = (acc ++ P, (rest, false))
  | [], acc, _ => by unfold encP pD; simp
  | p :: P, acc, h => by
    rw [List.length_cons, encP_cons, List.append_assoc, pD_go (nx_cut _ _ (N4_length p)) (vl_cut _ _ (N4_length p)), wh_numb (h p (by simp)), pD_enc rest P (acc ++ [p]) (fun q hq => h q (by simp [hq])), List.append_assoc]; rfl
theorem rD_enc : ∀ (R : List S28) (acc : List S28), (∀ x ∈ R, okX x) → rD R.length (encR R, false) acc = some (acc ++ R, ([], false))
  | [], acc, _ => by unfold encR rD; simp
  | x :: R, acc, h => by
    have hx := h x (by simp)
    have hl := encX_len hx.1
    obtain ⟨g1, g2⟩ := recQ_of hx
    have e1 : (encX x ++ encR R).take (encX x).length = encX x := List.take_left' rfl
    have e2 : (encX x ++ encR R).drop (encX x).length = encR R := List.drop_left' rfl
    rw [List.length_cons, encR_cons, List.append_assoc, rD_go (kk := (encX x).length) (nx_cut _ _ (N2_length _)) ((vl_cut _ _ (N2_length _)).trans (wh_N2 _ (by omega))) (by rw [List.length_append]; omega) (by rw [e1]; exact g2), e1, e2, g1, rD_enc R (acc ++ [x]) (fun y hy => h y (by simp [hy])), List.append_assoc]; rfl
def dS (bs : List Int) : Nat → State
  | 0 => (bs, false)
  | i + 1 => Rq.nx (dS bs i) (wd i)
def dV (bs : List Int) (i : Nat) : Int := Rq.vl (dS bs i) (wd i)
noncomputable def dres (bs : List Int) : Option L8 := fin7 bs (dV bs 0) (dV bs 1) (dV bs 2) (dV bs 3) (dV bs 4) (dV bs 5) (dV bs 6).toNat (dS bs 7)
theorem dS_cut {bs a b : List Int} {i n : Nat} (h : dS bs i = (a ++ b, false)) (hw : wd i = n) (hn : a.length = n) : dS bs (i + 1) = (b, false) := by
  show Rq.nx (dS bs i) (wd i) = _
  rw [h, hw]; exact nx_cut a b hn
theorem dV_cut {bs a b : List Int} {i n : Nat} (h : dS bs i = (a ++ b, false)) (hw : wd i = n) (hn : a.length = n) : dV bs i = wh a := by
  show Rq.vl (dS bs i) (wd i) = _
  rw [h, hw]; exact vl_cut a b hn
theorem dres_eq (bs : List Int) : dres bs = fin7 bs (dV bs 0) (dV bs 1) (dV bs 2) (dV bs 3) (dV bs 4) (dV bs 5) (dV bs 6).toNat (dS bs 7) := rfl
theorem dres_enc {k a b c d e : Int} {P : List Int} {R : List S28} (h : okL k a b c d e P R) (hd : ∀ x ∈ R, ∀ y ∈ x.f6, 0 ≤ y ∧ y ≤ 255) : dres (encL k a b c d e P R) = some ⟨k, a, b, c, d, e, P, R⟩ := by
  obtain ⟨bs, hbs⟩ : ∃ bs, bs = encL k a b c d e P R := ⟨_, rfl⟩
  have s0 : dS bs 0 = ([k] ++ (N4 a ++ (N4 b ++ (N4 c ++ (N4 d ++ (N4 e ++ ([(P.length : Int)] ++ (encP P ++ ([(R.length : Int)] ++ encR R)))))))), false) := by rw [hbs]; rfl
  have s1 := dS_cut s0 (n := 1) rfl rfl
  have s2 := dS_cut s1 (n := 4) rfl (N4_length a)
  have s3 := dS_cut s2 (n := 4) rfl (N4_length b)
  have s4 := dS_cut s3 (n := 4) rfl (N4_length c)
  have s5 := dS_cut s4 (n := 4) rfl (N4_length d)
  have s6 := dS_cut s5 (n := 4) rfl (N4_length e)
  have s7 := dS_cut s6 (n := 1) rfl rfl
  have w0 := (dV_cut s0 (n := 1) rfl rfl).trans (wh_one k (by have := h.kind; omega))
  have w1 := (dV_cut s1 (n := 4) rfl (N4_length a)).trans (wh_numb h.n1)
  have w2 := (dV_cut s2 (n := 4) rfl (N4_length b)).trans (wh_numb h.n2)
  have w3 := (dV_cut s3 (n := 4) rfl (N4_length c)).trans (wh_numb h.n3)
  have w4 := (dV_cut s4 (n := 4) rfl (N4_length d)).trans (wh_numb h.n4)
  have w5 := (dV_cut s5 (n := 4) rfl (N4_length e)).trans (wh_numb h.n5)
  have w6 := (dV_cut s6 (n := 1) rfl rfl).trans (wh_one (P.length : Int) (by have := h.lp; omega))
  rw [← hbs, dres_eq, w0, w1, w2, w3, w4, w5, w6, s7, Int.toNat_natCast]
  unfold fin7
  rw [pD_enc _ P [] h.ps]
  dsimp only
  have hR := h.lr
  rw [vl_cut (n := 1) [(R.length : Int)] (encR R) rfl, nx_cut (n := 1) [(R.length : Int)] (encR R) rfl, wh_one (R.length : Int) (by omega), Int.toNat_natCast, rD_enc R [] (fun x hx => ⟨h.rs x hx, hd x hx⟩), List.nil_append, List.nil_append]
  unfold fin9
  exact @if_neg _ (Classical.propDecidable _) (by rintro (g | g | g); exact absurd g (show ¬ (false = true) by decide); exact g h; exact g (by rw [hbs])) _ _ _
theorem rD_data : ∀ (m : Nat) (s : State) (acc : List S28) (R : List S28) (t : State), okB s → (∀ x ∈ acc, ∀ y ∈ x.f6, 0 ≤ y ∧ y ≤ 255) → rD m s acc = some (R, t) → ∀ x ∈ R, ∀ y ∈ x.f6, 0 ≤ y ∧ y ≤ 255 := by
  intro m
  induction m with
  | zero =>
    intro s acc R t _ ha h
    unfold rD at h
    have := Option.some.inj h
    injection this with h1 _
    rw [← h1]; exact ha
  | succ m ih =>
    intro s acc R t hs ha h
    have hn := nx_ok hs 2
    unfold rD at h
    split at h
    · have := Option.some.inj h
      injection this with h1 _
      rw [← h1]; exact ha
    · split at h
      · cases h
      · split at h
        · cases h
        · split at h
          · cases h
          · rename_i he
            refine ih _ _ R t ⟨fun z hz => hn.1 z (List.mem_of_mem_drop hz), by show (List.drop _ _).length < _; rw [List.length_drop]; have := hn.2; omega⟩ ?_ h
            intro x hx
            rcases List.mem_append.1 hx with hx | hx
            · exact ha x hx
            · rw [List.mem_singleton.1 hx]
              exact recQ_data (fun z hz => hn.1 z (List.mem_of_mem_take hz)) (by rw [List.length_take]; have := hn.2; omega) (Decidable.not_not.1 he)
theorem dS_ok {bs : List Int} (h : okB (bs, false)) : ∀ i, okB (dS bs i)
  | 0 => h
  | i + 1 => nx_ok (dS_ok h i) _
theorem dres_some {bs : List Int} (hb : okB (bs, false)) {l : L8} (h : dres bs = some l) : okL l.a0 l.a1 l.a2 l.a3 l.a4 l.a5 l.P l.R ∧ encL l.a0 l.a1 l.a2 l.a3 l.a4 l.a5 l.P l.R = bs ∧ ∀ x ∈ l.R, ∀ y ∈ x.f6, 0 ≤ y ∧ y ≤ 255 := by
  rw [dres_eq] at h
  unfold fin7 at h
  have hp := pD_ok (dV bs 6).toNat (dS bs 7) [] (dS_ok hb 7)
  have hr := rD_data (Rq.vl (pD (dV bs 6).toNat (dS bs 7) []).2 1).toNat (Rq.nx (pD (dV bs 6).toNat (dS bs 7) []).2 1) []
  generalize rD (Rq.vl (pD (dV bs 6).toNat (dS bs 7) []).2 1).toNat (Rq.nx (pD (dV bs 6).toNat (dS bs 7) []).2 1) [] = T at h hr
  match T, h with
  | none, h => cases h
  | some (R, s), h =>
    unfold fin9 at h
    have hdat := hr R s (nx_ok hp 1) (fun x hx => absurd hx (by simp)) rfl
    by_cases hc : (s.2 = true ∨ ¬ okL (dV bs 0) (dV bs 1) (dV bs 2) (dV bs 3) (dV bs 4) (dV bs 5) (pD (dV bs 6).toNat (dS bs 7) []).1 R ∨ (strOfNums (encL (dV bs 0) (dV bs 1) (dV bs 2) (dV bs 3) (dV bs 4) (dV bs 5) (pD (dV bs 6).toNat (dS bs 7) []).1 R)).toList ≠ (strOfNums bs).toList)
    · exact absurd ((@if_pos _ (Classical.propDecidable _) hc _ _ _).symm.trans h) (by simp)
    · have := Option.some.inj ((@if_neg _ (Classical.propDecidable _) hc _ _ _).symm.trans h)
      subst this
      have hok := Classical.byContradiction fun g => hc (.inr (.inl g))
      have hst := Classical.byContradiction fun g => hc (.inr (.inr g))
      exact ⟨hok, St.str_inj (encL_byts hok hdat) hb.1 hst, hdat⟩
theorem tk_inv {n : Nat} {s : State} (h : (tk n s).2.2 = false) : s.2 = false ∧ (tk n s).1.length = n ∧ s.1 = (tk n s).1 ++ (tk n s).2.1 := by
  unfold tk at h ⊢
  by_cases c : s.1.length < n
  · rw [if_pos c] at h; cases h
  · rw [if_neg c] at h
    rw [if_neg c]
    exact ⟨h, by show (s.1.take n).length = n; rw [List.length_take]; omega, (List.take_append_drop n s.1).symm⟩
theorem one_inv {a : List Int} (h : Byts a) (hl : a.length = 1) : [wh a] = a := by
  match a, hl with
  | [x], _ => rw [wh_one x (h x (by simp))]
theorem wh_two_eq (x y : Nat) (hx : x < 256) (hy : y < 256) : wh [(x : Int), (y : Int)] = ((x * 256 + y : Nat) : Int) := by
  have h1 := wh_app (l := []) wh_nil x (by omega) hx
  have h2 := wh_app (l := [] ++ [(x : Int)]) h1 y (by omega) hy
  rw [show ([(x : Int), (y : Int)] : List Int) = [] ++ [(x : Int)] ++ [(y : Int)] from rfl, h2, Nat.zero_mul, Nat.zero_add]
theorem N2_inv {a : List Int} (h : Byts a) (hl : a.length = 2) : N2 (wh a) = a := by
  match a, hl with
  | [x, y], _ =>
    have hx := h x (by simp)
    have hy := h y (by simp)
    obtain ⟨x, rfl⟩ := nat_of hx.1
    obtain ⟨y, rfl⟩ := nat_of hy.1
    rw [wh_two_eq x y (by omega) (by omega)]
    unfold N2
    rw [FRecordTells.B8, B0]
    simp only [List.cons.injEq, and_true]
    constructor <;> omega
theorem N4_inv {a : List Int} (h : Byts a) (hl : a.length = 4) : N4 (wh a) = a := by
  match a, hl with
  | [x, y, z, u], _ =>
    have hx := h x (by simp)
    have hy := h y (by simp)
    have hz := h z (by simp)
    have hu := h u (by simp)
    obtain ⟨x, rfl⟩ := nat_of hx.1
    obtain ⟨y, rfl⟩ := nat_of hy.1
    obtain ⟨z, rfl⟩ := nat_of hz.1
    obtain ⟨u, rfl⟩ := nat_of hu.1
    have h3 := wh_app (l := [(x : Int), (y : Int)]) (wh_two_eq x y (by omega) (by omega)) z (by omega) (by omega)
    have h4 := wh_app (l := [(x : Int), (y : Int)] ++ [(z : Int)]) h3 u (by omega) (by omega)
    rw [show ([(x : Int), (y : Int), (z : Int), (u : Int)] : List Int) = [(x : Int), (y : Int)] ++ [(z : Int)] ++ [(u : Int)] from rfl, h4]
    unfold N4
    rw [B24, B16, FRecordTells.B8, B0]
    simp only [List.cons_append, List.nil_append, List.cons.injEq, and_true]
    refine ⟨?_, ?_, ?_, ?_⟩ <;> omega
theorem encP_app (A B : List Int) : encP (A ++ B) = encP A ++ encP B := by unfold encP; rw [List.flatMap_append]
theorem encR_app (A B : List S28) : encR (A ++ B) = encR A ++ encR B := by unfold encR; rw [List.flatMap_append]
theorem peers_inv {s : State} (hs : okB s) : ∀ n, (ps s n).2 = false → s.1 = encP ((List.range n).map fun i => wh (tk 4 (ps s i)).1) ++ (ps s n).1 := by
  intro n
  induction n with
  | zero => intro _; unfold encP ps; simp
  | succ n ih =>
    intro h
    obtain ⟨i1, i2, i3⟩ := tk_inv (n := 4) (s := ps s n) h
    have hb := (tk_ok (n := 4) (ps_ok hs n)).2.1
    have h0 := ih i1
    rw [List.range_succ, List.map_append, encP_app, List.append_assoc]
    have e1 : encP ([n].map fun i => wh (tk 4 (ps s i)).1) = (tk 4 (ps s n)).1 := by
      unfold encP
      simp only [List.map_cons, List.map_nil, List.flatMap_cons, List.flatMap_nil, List.append_nil]
      exact N4_inv hb i2
    rw [e1]
    refine h0.trans ?_
    congr 1
theorem recs_inv {s : State} (hs : okB s) : ∀ n, (sr s n).2 = false → s.1 = encR ((List.range n).map fun i => recOf (sr s i)) ++ (sr s n).1 ∧ ∀ x ∈ (List.range n).map fun i => recOf (sr s i), ∀ y ∈ x.f6, 0 ≤ y ∧ y ≤ 255 := by
  intro n
  induction n with
  | zero => intro _; refine ⟨by unfold encR sr; simp, fun x hx => absurd hx (by simp)⟩
  | succ n ih =>
    intro h
    obtain ⟨u, hu⟩ : ∃ u, sr s n = u := ⟨_, rfl⟩
    have hn : sr s (n + 1) = nxt u := by rw [← hu]; rfl
    rw [hn] at h ⊢
    have ok := sr_ok hs n
    rw [hu] at ok
    obtain ⟨n1, n2⟩ := nxt_was h
    have n3 : (tk 2 u).2.2 = false := tk_was n1
    obtain ⟨i1, i2, i3⟩ := tk_inv (n := 2) n3
    obtain ⟨j1, j2, j3⟩ := tk_inv (n := nOf u) (s := (tk 2 u).2) n1
    have ok2 := tk_ok (n := 2) ok
    have ok3 := tk_ok (n := nOf u) ok2.1
    have g := recQ_enc (q := (tOf u).1) ok3.2.1 ok3.2.2.2 n2
    have g2 := recQ_data (q := (tOf u).1) ok3.2.1 ok3.2.2.2 n2
    have e0 : recOf u = recQ (tOf u).1 := rfl
    obtain ⟨h0, h1⟩ := ih (by rw [hu]; exact i1)
    rw [List.range_succ, List.map_append, encR_app, List.append_assoc]
    constructor
    · have e1 : encR ([n].map fun i => recOf (sr s i)) = (tk 2 u).1 ++ (tOf u).1 := by
        unfold encR
        simp only [List.map_cons, List.map_nil, List.flatMap_cons, List.flatMap_nil, List.append_nil]
        rw [hu, e0, g.2]
        have e2 : ((tOf u).1.length : Int) = wh (tk 2 u).1 := by
          have := (wh_le2 ok2.2.1 (by omega)).1
          have j2' : (tOf u).1.length = nOf u := j2
          rw [j2']; unfold nOf; omega
        rw [e2, N2_inv ok2.2.1 i2]
      rw [e1, List.append_assoc]
      have e3 : (nxt u).1 = (tOf u).2.1 := rfl
      rw [e3]
      refine h0.trans ?_
      congr 1
      rw [hu, i3]
      congr 1
    · intro x hx
      rcases List.mem_append.1 hx with hx | hx
      · exact h1 x hx
      · simp only [List.map_cons, List.map_nil, List.mem_singleton] at hx
        rw [hx, hu, e0]; exact g2
noncomputable def pres (bs : List Int) : Option L8 := @ite _ ((endOf bs).2 = true ∨ (endOf bs).1 ≠ [] ∨ ¬ okL (vs bs 0) (vs bs 1) (vs bs 2) (vs bs 3) (vs bs 4) (vs bs 5) (peersOf bs) (recsOf bs)) (Classical.propDecidable _) none (some ⟨vs bs 0, vs bs 1, vs bs 2, vs bs 3, vs bs 4, vs bs 5, peersOf bs, recsOf bs⟩)
theorem pres_some {bs : List Int} (hb : okB (bs, false)) (h1 : endOf bs = ([], false)) (h2 : okL (vs bs 0) (vs bs 1) (vs bs 2) (vs bs 3) (vs bs 4) (vs bs 5) (peersOf bs) (recsOf bs)) :
    encL (vs bs 0) (vs bs 1) (vs bs 2) (vs bs 3) (vs bs 4) (vs bs 5) (peersOf bs) (recsOf bs) = bs ∧ ∀ x ∈ recsOf bs, ∀ y ∈ x.f6, 0 ≤ y ∧ y ≤ 255 := by
  rw [end_eq] at h1
  have o7 := st_ok hb 7
  have op := ps_ok o7 (np bs)
  have o8 : okB (s8 bs) := by rw [s8_eq]; exact (tk_ok op).1
  have r1 : (sr (s8 bs) (nr bs)).2 = false := by rw [h1]
  obtain ⟨r2, r3⟩ := recs_inv o8 (nr bs) r1
  rw [h1, List.append_nil] at r2
  have r4 : (s8 bs).2 = false := sr_was r1
  rw [s8_eq] at r4
  obtain ⟨p1, p2, p3⟩ := tk_inv r4
  have p4 := peers_inv o7 (np bs) p1
  have c1 := one_inv (tk_ok (n := 1) op).2.1 p2
  rw [(nr_le hb).1] at c1
  have q7 : (st bs 7).2 = false := ps_was p1
  have step : ∀ i, (st bs (i + 1)).2 = false → (st bs i).2 = false ∧ (tk (wd i) (st bs i)).1.length = wd i ∧ (st bs i).1 = (tk (wd i) (st bs i)).1 ++ (st bs (i + 1)).1 := fun i h => by rw [st_succ] at h ⊢; exact tk_inv h
  obtain ⟨q6, l6, e6⟩ := step 6 q7
  obtain ⟨q5, l5, e5⟩ := step 5 q6
  obtain ⟨q4, l4, e4⟩ := step 4 q5
  obtain ⟨q3, l3, e3⟩ := step 3 q4
  obtain ⟨q2, l2, e2⟩ := step 2 q3
  obtain ⟨q1, l1, e1⟩ := step 1 q2
  obtain ⟨q0, l0, e0⟩ := step 0 q1
  have by_ : ∀ i, Byts (tk (wd i) (st bs i)).1 := fun i => (tk_ok (st_ok hb i)).2.1
  have v0 : [vs bs 0] = (tk (wd 0) (st bs 0)).1 := one_inv (by_ 0) l0
  have v1 : N4 (vs bs 1) = (tk (wd 1) (st bs 1)).1 := N4_inv (by_ 1) l1
  have v2 : N4 (vs bs 2) = (tk (wd 2) (st bs 2)).1 := N4_inv (by_ 2) l2
  have v3 : N4 (vs bs 3) = (tk (wd 3) (st bs 3)).1 := N4_inv (by_ 3) l3
  have v4 : N4 (vs bs 4) = (tk (wd 4) (st bs 4)).1 := N4_inv (by_ 4) l4
  have v5 : N4 (vs bs 5) = (tk (wd 5) (st bs 5)).1 := N4_inv (by_ 5) l5
  have v6 : [vs bs 6] = (tk (wd 6) (st bs 6)).1 := one_inv (by_ 6) l6
  rw [(np_le hb).1] at v6
  refine ⟨?_, r3⟩
  have f8 : encR (recsOf bs) = (s8 bs).1 := r2.symm
  have f7 : encP (peersOf bs) ++ (ps (st bs 7) (np bs)).1 = (st bs 7).1 := p4.symm
  have g8 : [((nr bs : Nat) : Int)] ++ (s8 bs).1 = (ps (st bs 7) (np bs)).1 := by rw [c1, s8_eq]; exact p3.symm
  unfold encL
  rw [peersOf_len, recsOf_len, f8, g8, f7, v6, ← e6, v5, ← e5, v4, ← e4, v3, ← e3, v2, ← e2, v1, ← e1, v0, ← e0]
  rfl
theorem peers_vals (rest : List Int) : ∀ (P : List Int), (∀ p ∈ P, numb p) → ((List.range P.length).map fun i => wh (tk 4 (ps (encP P ++ rest, false) i)).1) = P
  | [], _ => rfl
  | p :: P, h => by
    have e : encP (p :: P) ++ rest = N4 p ++ (encP P ++ rest) := by rw [encP_cons, List.append_assoc]
    have e2 : tk 4 (encP (p :: P) ++ rest, false) = (N4 p, (encP P ++ rest, false)) := by rw [e]; exact tk_cut _ _ (N4_length p) _
    rw [List.length_cons, List.range_succ_eq_map, List.map_cons, List.map_map]
    have h1 : wh (tk 4 (ps (encP (p :: P) ++ rest, false) 0)).1 = p := by
      show wh (tk 4 (encP (p :: P) ++ rest, false)).1 = p
      rw [e2]; exact wh_numb (h p (by simp))
    have h2 := peers_vals rest P (fun q hq => h q (by simp [hq]))
    rw [h1]
    congr 1
    refine Eq.trans ?_ h2
    refine List.map_congr_left fun i _ => ?_
    show wh (tk 4 (ps (encP (p :: P) ++ rest, false) (i + 1))).1 = _
    rw [ps_shift, e2]
theorem recs_vals (rest : List Int) : ∀ (R : List S28), (∀ x ∈ R, okX x) → ((List.range R.length).map fun i => recOf (sr (encR R ++ rest, false) i)) = R
  | [], _ => rfl
  | x :: R, h => by
    have hx := h x (by simp)
    have hl := encX_len hx.1
    obtain ⟨g1, g2⟩ := recQ_of hx
    have e : encR (x :: R) ++ rest = N2 ((encX x).length : Int) ++ encX x ++ (encR R ++ rest) := by rw [encR_cons, List.append_assoc]
    have e2 : nxt (encR (x :: R) ++ rest, false) = (encR R ++ rest, false) := by rw [e]; exact step_read x hx (by omega) _
    have e3 : recOf (encR (x :: R) ++ rest, false) = x := by
      have a1 : tk 2 (encR (x :: R) ++ rest, false) = (N2 ((encX x).length : Int), (encX x ++ (encR R ++ rest), false)) := by rw [e, List.append_assoc]; exact tk_cut _ _ (N2_length _) _
      have a2 : tOf (encR (x :: R) ++ rest, false) = (encX x, (encR R ++ rest, false)) := by
        unfold tOf nOf
        rw [a1, wh_N2 _ (by omega), Int.toNat_natCast]
        exact tk_cut _ _ rfl _
      show recQ (tOf (encR (x :: R) ++ rest, false)).1 = x
      rw [a2]; exact g1
    rw [List.length_cons, List.range_succ_eq_map, List.map_cons, List.map_map]
    have h2 := recs_vals rest R (fun y hy => h y (by simp [hy]))
    have h1 : recOf (sr (encR (x :: R) ++ rest, false) 0) = x := e3
    rw [h1]
    congr 1
    refine Eq.trans ?_ h2
    refine List.map_congr_left fun i _ => ?_
    show recOf (sr (encR (x :: R) ++ rest, false) (i + 1)) = _
    rw [sr_shift, e2]
theorem vs_cut {bs a b : List Int} {i n : Nat} (h : st bs i = (a ++ b, false)) (hw : wd i = n) (hn : a.length = n) : vs bs i = wh a := by
  unfold vs
  rw [h, hw, tk_cut a b hn]
theorem pres_enc {k a b c d e : Int} {P : List Int} {R : List S28} (h : okL k a b c d e P R) (hd : ∀ x ∈ R, ∀ y ∈ x.f6, 0 ≤ y ∧ y ≤ 255) : pres (encL k a b c d e P R) = some ⟨k, a, b, c, d, e, P, R⟩ := by
  have hX : ∀ x ∈ R, okX x := fun x hx => ⟨h.rs x hx, hd x hx⟩
  have he := letter_read k a b c d e P R h.lp h.lr fun x hx => ⟨hX x hx, by have := encX_len (h.rs x hx); omega⟩
  obtain ⟨bs, hbs⟩ : ∃ bs, bs = encL k a b c d e P R := ⟨_, rfl⟩
  rw [← hbs] at he ⊢
  have s0 : st bs 0 = ([k] ++ (N4 a ++ (N4 b ++ (N4 c ++ (N4 d ++ (N4 e ++ ([(P.length : Int)] ++ (encP P ++ ([(R.length : Int)] ++ encR R)))))))), false) := by rw [hbs]; rfl
  have s1 := st_cut s0 (n := 1) rfl rfl
  have s2 := st_cut s1 (n := 4) rfl (N4_length a)
  have s3 := st_cut s2 (n := 4) rfl (N4_length b)
  have s4 := st_cut s3 (n := 4) rfl (N4_length c)
  have s5 := st_cut s4 (n := 4) rfl (N4_length d)
  have s6 := st_cut s5 (n := 4) rfl (N4_length e)
  have s7 := st_cut s6 (n := 1) rfl rfl
  have w0 := (vs_cut s0 (n := 1) rfl rfl).trans (wh_one k (by have := h.kind; omega))
  have w1 := (vs_cut s1 (n := 4) rfl (N4_length a)).trans (wh_numb h.n1)
  have w2 := (vs_cut s2 (n := 4) rfl (N4_length b)).trans (wh_numb h.n2)
  have w3 := (vs_cut s3 (n := 4) rfl (N4_length c)).trans (wh_numb h.n3)
  have w4 := (vs_cut s4 (n := 4) rfl (N4_length d)).trans (wh_numb h.n4)
  have w5 := (vs_cut s5 (n := 4) rfl (N4_length e)).trans (wh_numb h.n5)
  have w6 := (vs_cut s6 (n := 1) rfl rfl).trans (wh_one (P.length : Int) (by have := h.lp; omega))
  have n7 : np bs = P.length := by rw [np_eq, show (wh (tk (wd 6) (st bs 6)).1) = vs bs 6 from rfl, w6, Int.toNat_natCast]
  have p7 : peersOf bs = P := by
    unfold peersOf
    rw [n7, s7]
    exact peers_vals _ P h.ps
  have e7 : ps (st bs 7) (np bs) = ([(R.length : Int)] ++ encR R, false) := by rw [n7, s7]; exact peers_read _ P
  have t8 : tk 1 (ps (st bs 7) (np bs)) = ([(R.length : Int)], (encR R, false)) := by rw [e7]; exact tk_cut (n := 1) _ _ rfl false
  have n8 : nr bs = R.length := by rw [nr_eq, t8, wh_one _ (by have := h.lr; omega), Int.toNat_natCast]
  have r8 : recsOf bs = R := by
    unfold recsOf
    rw [n8, s8_eq, t8]
    have := recs_vals [] R hX
    rw [List.append_nil] at this
    exact this
  unfold pres
  rw [he, w0, w1, w2, w3, w4, w5, p7, r8]
  exact @if_neg _ (Classical.propDecidable _) (by rintro (g | g | g); exact absurd g (show ¬ (false = true) by decide); exact g rfl; exact g h) _ _ _
theorem both_read {bs : List Int} (hb : okB (bs, false)) : pres bs = dres bs := by
  by_cases c : ((endOf bs).2 = true ∨ (endOf bs).1 ≠ [] ∨ ¬ okL (vs bs 0) (vs bs 1) (vs bs 2) (vs bs 3) (vs bs 4) (vs bs 5) (peersOf bs) (recsOf bs))
  · have hp : pres bs = none := @if_pos _ (Classical.propDecidable _) c _ _ _
    cases hd : dres bs with
    | none => exact hp
    | some l =>
      obtain ⟨g1, g2, g3⟩ := dres_some hb hd
      have := pres_enc g1 g3
      rw [g2, hp] at this
      cases this
  · have hp : pres bs = some ⟨vs bs 0, vs bs 1, vs bs 2, vs bs 3, vs bs 4, vs bs 5, peersOf bs, recsOf bs⟩ := @if_neg _ (Classical.propDecidable _) c _ _ _
    have c1 := Classical.byContradiction fun g => c (.inr (.inr g))
    have c2 : (endOf bs).2 = false := by cases hh : (endOf bs).2 with
      | false => rfl
      | true => exact absurd (.inl hh) c
    have c3 : (endOf bs).1 = [] := Decidable.byContradiction fun g => c (.inr (.inl g))
    obtain ⟨g1, g2⟩ := pres_some hb (Prod.ext c3 c2) c1
    have := dres_enc c1 g2
    rw [g1] at this
    rw [hp, this]
theorem read_law {bs : List Int} (hb : okB (bs, false)) {l : L8} (h : pres bs = some l) : okL l.a0 l.a1 l.a2 l.a3 l.a4 l.a5 l.P l.R := by
  rw [both_read hb] at h; exact (dres_some hb h).1
theorem same_ints (P : List Int) (hP : P.length < 2 ^ 40) : Ev (fun k => zp_SameInts.f k P P) true := by
  have key : ∀ (t : List Int) (i : Nat), P.drop i = t → Ev (fun k => zp_SameInts.l0 k P P (i : Int)) true := by
    intro t
    induction t with
    | nil =>
      intro i h1
      have h3 : P.length ≤ i := List.drop_eq_nil_iff.1 h1
      exact Ev.step (fun n => by simp only [zp_SameInts.l0]; rfl) (ev_neg (by omega) (Ev.now _))
    | cons x t ih =>
      intro i h1
      obtain ⟨g1, g2, g3⟩ := rd_drop h1
      refine Ev.step (fun n => by simp only [zp_SameInts.l0]; rfl) (ev_pos (by omega) (ev_pos (by omega) (ev_pos (by omega) (ev_pos (c := rd P (i : Int) = rd P (i : Int)) rfl ?_))))
      rw [w64 (i := (i : Int) + 1) (by omega) (by omega), show (i : Int) + 1 = ((i + 1 : Nat) : Int) from by omega]
      exact ih (i + 1) g3
  unfold zp_SameInts.f
  exact ev_pos rfl (key P 0 rfl)
theorem same_recs (R : List S28) (hR : R.length < 2 ^ 40) : Ev (fun k => zq_SameRecords.f k R R) true := by
  have key : ∀ (t : List S28) (i : Nat), R.drop i = t → Ev (fun k => zq_SameRecords.l0 k R R (i : Int)) true := by
    intro t
    induction t with
    | nil =>
      intro i h1
      have h3 : R.length ≤ i := List.drop_eq_nil_iff.1 h1
      exact Ev.step (fun n => by simp only [zq_SameRecords.l0]; rfl) (ev_neg (by omega) (Ev.now _))
    | cons x t ih =>
      intro i h1
      obtain ⟨g1, g2, g3⟩ := rdT_drop h1
      refine Ev.step (fun n => by simp only [zq_SameRecords.l0]; rfl) (ev_pos (by omega) (ev_pos (by omega) (ev_pos (by omega) ?_)))
      refine ev_val (same_rec _ _ _ _ _ _ _ _ _ _) (ev_pos rfl ?_)
      rw [w64 (i := (i : Int) + 1) (by omega) (by omega), show (i : Int) + 1 = ((i + 1 : Nat) : Int) from by omega]
      exact ih (i + 1) g3
  unfold zq_SameRecords.f
  exact ev_pos rfl (key R 0 rfl)
theorem same_letter (k a b c d e : Int) (P : List Int) (R : List S28) (hP : P.length < 2 ^ 40) (hR : R.length < 2 ^ 40) : Ev (fun n => zq_SameLetter.f n k a b c d e P R k a b c d e P R) true := by
  unfold zq_SameLetter.f
  refine Ev.congr (f := fun n => (zp_SameInts.f n P P).bind fun t => if t = true then ((zq_SameRecords.f n R R).bind fun t => some t) else some false) (fun n => by rw [if_pos rfl, if_pos rfl, if_pos rfl, if_pos rfl, if_pos (by simp)]) ?_
  exact Ev.bind (same_ints P hP) (ev_pos rfl (Ev.bind (same_recs R hR) (Ev.now _)))
end Go.Proofs.Ytjcfmfdkligmoaa.Lu
