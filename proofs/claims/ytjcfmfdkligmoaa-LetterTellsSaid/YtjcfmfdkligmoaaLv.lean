/- The bytes of a letter are read to their end. No program is in sight but for the printed functions. Conditions: those that stand in the theorems. -/
import Derived.Test.YtjcfmfdkligmoaaLp
namespace Go.Proofs.Ytjcfmfdkligmoaa.Lv
open Go.RowKit Go.Proofs.Ytjcfmfdkligmoaa.PRecordTells Go.Proofs.Ytjcfmfdkligmoaa.PLetterLimits Go.Proofs.YtjcfmfdkligmoaaW.PrintWords Go.Proofs.YtjcfmfdkligmoaaW.PrintLast Go.Proofs.Ytjcfmfdkligmoaa.Lt Go.Proofs.Ytjcfmfdkligmoaa.Lr Go.Proofs.Ytjcfmfdkligmoaa.Lq Go.Proofs.Ytjcfmfdkligmoaa.Lg Go.Proofs.Ytjcfmfdkligmoaa.FRecordTells Go.Proofs.Ytjcfmfdkligmoaa.Lp
set_option linter.unusedVariables false
theorem tk_cut {n : Nat} (a b : List Int) (h : a.length = n) (f : Bool) : tk n (a ++ b, f) = (a, (b, f)) := by
  unfold tk
  rw [if_neg (by show ¬ (a ++ b).length < n; rw [List.length_append]; omega)]
  show ((a ++ b).take n, (a ++ b).drop n, f) = _
  rw [List.take_left' h, List.drop_left' h]
theorem ev_one {α : Type} {f : Nat → Option α} {a b : α} (h1 : Ev f a) (h2 : Ev f b) : a = b := by
  obtain ⟨x, hx⟩ := h1
  obtain ⟨y, hy⟩ := h2
  exact Option.some.inj ((hx (x + y) (by omega)).symm.trans (hy (x + y) (by omega)))
def okX (x : S28) : Prop := okR x.f0.f0 x.f0.f1 x.f1.f0 x.f1.f1 x.f1.f2 x.f2 x.f3 x.f4 x.f5 x.f6 ∧ ∀ y ∈ x.f6, 0 ≤ y ∧ y ≤ 255
def encX (x : S28) : List Int := enc x.f0.f0 x.f0.f1 x.f1.f0 x.f1.f1 x.f1.f2 x.f2 x.f3 x.f4 x.f5 x.f6
def encP (P : List Int) : List Int := P.flatMap N4
def encR (R : List S28) : List Int := R.flatMap fun x => N2 ((encX x).length : Int) ++ encX x
theorem N4_length (n : Int) : (N4 n).length = 4 := rfl
theorem N2_length (n : Int) : (N2 n).length = 2 := rfl
theorem ps_shift (s : State) : ∀ i, ps s (i + 1) = ps (tk 4 s).2 i
  | 0 => rfl
  | i + 1 => by
    show (tk 4 (ps s (i + 1))).2 = (tk 4 (ps (tk 4 s).2 i)).2
    rw [ps_shift s i]
theorem sr_shift (s : State) : ∀ i, sr s (i + 1) = sr (nxt s) i
  | 0 => rfl
  | i + 1 => by
    show nxt (sr s (i + 1)) = nxt (sr (nxt s) i)
    rw [sr_shift s i]
theorem peers_read (R : List Int) : ∀ (P : List Int), ps (encP P ++ R, false) P.length = (R, false)
  | [] => rfl
  | p :: P => by
    rw [List.length_cons, ps_shift]
    have e : encP (p :: P) ++ R = N4 p ++ (encP P ++ R) := by unfold encP; rw [List.flatMap_cons, List.append_assoc]
    rw [e, tk_cut _ _ (N4_length p)]
    exact peers_read R P
theorem step_read (x : S28) (hx : okX x) (hl : (encX x).length < 65536) (rest : List Int) : nxt (N2 ((encX x).length : Int) ++ encX x ++ rest, false) = (rest, false) := by
  have e1 : tk 2 (N2 ((encX x).length : Int) ++ encX x ++ rest, false) = (N2 ((encX x).length : Int), (encX x ++ rest, false)) := by
    rw [List.append_assoc]; exact tk_cut _ _ (N2_length _) _
  have e2 : nOf (N2 ((encX x).length : Int) ++ encX x ++ rest, false) = (encX x).length := by
    unfold nOf
    rw [e1, wh_N2 _ hl, Int.toNat_natCast]
  have e3 : tOf (N2 ((encX x).length : Int) ++ encX x ++ rest, false) = (encX x, (rest, false)) := by
    unfold tOf
    rw [e2, e1]
    exact tk_cut _ _ rfl _
  have hb : Byts (encX x) := enc_range _ _ _ _ _ _ _ _ _ _ hx.2
  have e4 : rv (encX x) = (x.f0.f0, x.f0.f1, x.f1.f0, x.f1.f1, x.f1.f2, x.f2, x.f3, x.f4, x.f5, x.f6, 0) := ev_one (rv_ev hb (by omega)) (Read_enc hx.1)
  have e5 : errOf (N2 ((encX x).length : Int) ++ encX x ++ rest, false) = 0 := by
    unfold errOf
    rw [e3]
    dsimp only
    rw [e4]
  unfold nxt
  rw [e3, e5]
  rfl
theorem recs_read (rest : List Int) : ∀ (R : List S28), (∀ x ∈ R, okX x ∧ (encX x).length < 65536) → sr (encR R ++ rest, false) R.length = (rest, false)
  | [], _ => rfl
  | x :: R, h => by
    rw [List.length_cons, sr_shift]
    have e : encR (x :: R) ++ rest = N2 ((encX x).length : Int) ++ encX x ++ (encR R ++ rest) := by unfold encR; rw [List.flatMap_cons, List.append_assoc]
    obtain ⟨h1, h2⟩ := h x (by simp)
    rw [e, step_read x h1 h2]
    exact recs_read rest R fun y hy => h y (by simp [hy])
def encL (k : Int) (a b c d e : Int) (P : List Int) (R : List S28) : List Int :=
  [k] ++ (N4 a ++ (N4 b ++ (N4 c ++ (N4 d ++ (N4 e ++ ([(P.length : Int)] ++ (encP P ++ ([(R.length : Int)] ++ encR R))))))))
theorem s8_eq (bs : List Int) : s8 bs = (tk 1 (ps (st bs 7) (np bs))).2 := rfl
theorem nr_eq (bs : List Int) : nr bs = (wh (tk 1 (ps (st bs 7) (np bs))).1).toNat := rfl
theorem np_eq (bs : List Int) : np bs = (wh (tk (wd 6) (st bs 6)).1).toNat := rfl
theorem end_eq (bs : List Int) : endOf bs = sr (s8 bs) (nr bs) := rfl
theorem st_cut {bs a b : List Int} {i n : Nat} (h : st bs i = (a ++ b, false)) (hw : wd i = n) (hn : a.length = n) : st bs (i + 1) = (b, false) := by
  rw [st_succ, h, hw, tk_cut a b hn]
theorem letter_read (k a b c d e : Int) (P : List Int) (R : List S28) (hP : P.length ≤ 255) (hR : R.length ≤ 255) (h : ∀ x ∈ R, okX x ∧ (encX x).length < 65536) : endOf (encL k a b c d e P R) = ([], false) := by
  have s1 := st_cut (bs := (encL k a b c d e P R)) (i := 0) (n := 1) (a := [k]) (b := (N4 a ++ (N4 b ++ (N4 c ++ (N4 d ++ (N4 e ++ ([(P.length : Int)] ++ (encP P ++ ([(R.length : Int)] ++ encR R))))))))) rfl rfl rfl
  have s2 := st_cut (bs := (encL k a b c d e P R)) (i := 1) (n := 4) (a := N4 a) (b := (N4 b ++ (N4 c ++ (N4 d ++ (N4 e ++ ([(P.length : Int)] ++ (encP P ++ ([(R.length : Int)] ++ encR R)))))))) s1 rfl rfl
  have s3 := st_cut (bs := (encL k a b c d e P R)) (i := 2) (n := 4) (a := N4 b) (b := (N4 c ++ (N4 d ++ (N4 e ++ ([(P.length : Int)] ++ (encP P ++ ([(R.length : Int)] ++ encR R))))))) s2 rfl rfl
  have s4 := st_cut (bs := (encL k a b c d e P R)) (i := 3) (n := 4) (a := N4 c) (b := (N4 d ++ (N4 e ++ ([(P.length : Int)] ++ (encP P ++ ([(R.length : Int)] ++ encR R)))))) s3 rfl rfl
  have s5 := st_cut (bs := (encL k a b c d e P R)) (i := 4) (n := 4) (a := N4 d) (b := (N4 e ++ ([(P.length : Int)] ++ (encP P ++ ([(R.length : Int)] ++ encR R))))) s4 rfl rfl
  have s6 := st_cut (bs := (encL k a b c d e P R)) (i := 5) (n := 4) (a := N4 e) (b := ([(P.length : Int)] ++ (encP P ++ ([(R.length : Int)] ++ encR R)))) s5 rfl rfl
  have t6 : tk (wd 6) (st (encL k a b c d e P R) 6) = ([(P.length : Int)], (encP P ++ ([(R.length : Int)] ++ encR R), false)) := by rw [s6, show wd 6 = 1 from rfl]; exact tk_cut (n := 1) _ _ rfl false
  have s7 : st (encL k a b c d e P R) 7 = (encP P ++ ([(R.length : Int)] ++ encR R), false) := by rw [st_succ, t6]
  have n7 : np (encL k a b c d e P R) = P.length := by rw [np_eq, t6, wh_one _ (by omega), Int.toNat_natCast]
  have p7 : ps (st (encL k a b c d e P R) 7) (np (encL k a b c d e P R)) = ([(R.length : Int)] ++ encR R, false) := by
    rw [n7, s7]
    exact peers_read ([(R.length : Int)] ++ encR R) P
  have t8 : tk 1 (ps (st (encL k a b c d e P R) 7) (np (encL k a b c d e P R))) = ([(R.length : Int)], (encR R, false)) := by rw [p7]; exact tk_cut (n := 1) _ _ rfl false
  have e8 : s8 (encL k a b c d e P R) = (encR R, false) := by rw [s8_eq, t8]
  have n8 : nr (encL k a b c d e P R) = R.length := by rw [nr_eq, t8, wh_one _ (by omega), Int.toNat_natCast]
  rw [end_eq, e8, n8]
  have := recs_read [] R h
  rw [List.append_nil] at this
  exact this
end Go.Proofs.Ytjcfmfdkligmoaa.Lv
