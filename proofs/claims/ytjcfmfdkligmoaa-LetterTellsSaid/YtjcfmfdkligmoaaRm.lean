/- The document's ReadLetter (fountainref14), of any bytes. Conditions: those that stand in the theorems. Written by mkrm.py. -/
import Derived.Test.YtjcfmfdkligmoaaLw
import Derived.Test.YtjcfmfdkligmoaaRq
namespace Go.Proofs.Ytjcfmfdkligmoaa.Rm
open Go.RowKit Go.Lib Go.Proofs.Ytjcfmfdkligmoaa.PRecordTells Go.Proofs.Ytjcfmfdkligmoaa.FRecordTells Go.Proofs.Ytjcfmfdkligmoaa.PLetterLimits Go.Proofs.Ytjcfmfdkligmoaa.PLetterTorn Go.Proofs.Ytjcfmfdkligmoaa.Lt Go.Proofs.Ytjcfmfdkligmoaa.Lr Go.Proofs.Ytjcfmfdkligmoaa.Lq Go.Proofs.Ytjcfmfdkligmoaa.Lg Go.Proofs.Ytjcfmfdkligmoaa.Lp Go.Proofs.Ytjcfmfdkligmoaa.Lv Go.Proofs.Ytjcfmfdkligmoaa.Lw Go.Proofs.YtjcfmfdkligmoaaW.PrintWords Go.Proofs.YtjcfmfdkligmoaaW.PrintLast Go.Proofs.YtjcfmfdkligmoaaW.PrintMore
set_option linter.unusedVariables false
set_option linter.unusedSimpArgs false
set_option maxHeartbeats 8000000
set_option maxRecDepth 100000
structure DS (w0 w : World) (g : Nat) (s : List Int × Bool) : Prop where
  box : ∃ A c, w.heap[g]? = some (.cells #[.slice A s.1.length c, .bool s.2] 65 (0, 0)) ∧ (Kd.int .u8).C w0 A s.1.length s.1 ∧ s.1.length ≤ c
  bel : Below w0.heap.size w0 w
  old : w0.heap.size ≤ g
theorem DS.keep {w0 w w1 : World} {g : Nat} {s : List Int × Bool} (h : DS w0 w g s) (hb : w1.heap[g]? = w.heap[g]?) (hB : Below w0.heap.size w0 w1) : DS w0 w1 g s := by
  obtain ⟨A, c, a, b, d⟩ := h.box
  exact ⟨⟨A, c, hb.trans a, b, d⟩, hB, h.old⟩
theorem get.calls (n : Nat) (hn : n < 2 ^ 30) (w0 : World) (g : Nat) (s s' : List Int × Bool) (v : Int) (w : World) (hS : DS w0 w g s) (hs : Rq.nx s n = s') (hv : Rq.vl s n = v) :
    Calls Try.prog 34 #[.pointer (some ⟨g, 0, none⟩), .int .i64 (n : Int)] w fun e w' => e = .returned (.int .i64 v) ∧ DS w0 w' g s' ∧ KeepBut w w' g none := by
  subst hs hv
  obtain ⟨L, b⟩ := s
  obtain ⟨A, c, hx, hC, hl⟩ := hS.box
  refine (Rr.get.calls w0 g A c L b n w hS.old hS.bel hx hC hl hn).mono ?_
  rintro e w' ⟨A', c', rfl, q1, q2, q3, q4, q5, q6⟩
  exact ⟨rfl, ⟨⟨A', c', q1, q2, q3⟩, q4, hS.old⟩, ⟨Nat.le_of_eq q5.symm, fun i _ h _ => q6 i h⟩⟩
theorem get1 (w0 : World) (g : Nat) (s s' : List Int × Bool) (v : Int) (w : World) (hS : DS w0 w g s) (hs : Rq.nx s 1 = s') (hv : Rq.vl s 1 = v) :
    Calls Try.prog 34 #[.pointer (some ⟨g, 0, none⟩), .int .i64 1] w fun e w' => e = .returned (.int .i64 v) ∧ DS w0 w' g s' ∧ KeepBut w w' g none := get.calls 1 (by decide) w0 g s s' v w hS hs hv
theorem get2 (w0 : World) (g : Nat) (s s' : List Int × Bool) (v : Int) (w : World) (hS : DS w0 w g s) (hs : Rq.nx s 2 = s') (hv : Rq.vl s 2 = v) :
    Calls Try.prog 34 #[.pointer (some ⟨g, 0, none⟩), .int .i64 2] w fun e w' => e = .returned (.int .i64 v) ∧ DS w0 w' g s' ∧ KeepBut w w' g none := get.calls 2 (by decide) w0 g s s' v w hS hs hv
theorem get4 (w0 : World) (g : Nat) (s s' : List Int × Bool) (v : Int) (w : World) (hS : DS w0 w g s) (hs : Rq.nx s 4 = s') (hv : Rq.vl s 4 = v) :
    Calls Try.prog 34 #[.pointer (some ⟨g, 0, none⟩), .int .i64 4] w fun e w' => e = .returned (.int .i64 v) ∧ DS w0 w' g s' ∧ KeepBut w w' g none := get.calls 4 (by decide) w0 g s s' v w hS hs hv
theorem nx_ok {s : State} (h : okB s) (n : Nat) : okB (Rq.nx s n) := by
  obtain ⟨h1, h2⟩ := h
  unfold Rq.nx Rr.grest
  split
  · exact ⟨h1, h2⟩
  · exact ⟨fun x hx => h1 x (List.mem_of_mem_drop hx), by show (s.1.drop n).length < _; rw [List.length_drop]; omega⟩
theorem vl_le1 {s : State} (h : okB s) : ∃ n : Nat, Rq.vl s 1 = (n : Int) ∧ n ≤ 255 := by
  unfold Rq.vl Rr.gval
  split
  · exact ⟨0, rfl, by decide⟩
  · obtain ⟨a, b⟩ := wh_le1 (l := s.1.take 1) (fun x hx => h.1 x (List.mem_of_mem_take hx)) (by rw [List.length_take]; omega)
    exact ⟨(wh (s.1.take 1)).toNat, by show FRecordTells.wh (s.1.take 1) = _; omega, by omega⟩
theorem vl_le2 {s : State} (h : okB s) : ∃ n : Nat, Rq.vl s 2 = (n : Int) ∧ n ≤ 65535 := by
  unfold Rq.vl Rr.gval
  split
  · exact ⟨0, rfl, by decide⟩
  · obtain ⟨a, b⟩ := wh_le2 (l := s.1.take 2) (fun x hx => h.1 x (List.mem_of_mem_take hx)) (by rw [List.length_take]; omega)
    exact ⟨(wh (s.1.take 2)).toNat, by show FRecordTells.wh (s.1.take 2) = _; omega, by omega⟩
noncomputable def recQ (q : List Int) : S28 :=
  let r := rv q
  ⟨⟨r.1, r.2.1⟩, ⟨r.2.2.1, r.2.2.2.1, r.2.2.2.2.1⟩, r.2.2.2.2.2.1, r.2.2.2.2.2.2.1, r.2.2.2.2.2.2.2.1, r.2.2.2.2.2.2.2.2.1, r.2.2.2.2.2.2.2.2.2.1⟩
noncomputable def errQ (q : List Int) : Int := (rv q).2.2.2.2.2.2.2.2.2.2
theorem rvD_ev {q : List Int} (h1 : Byts q) (h2 : q.length < 2 ^ 19) : Ev (fun k => Rq.read.f k q) (rv q) := by
  have h : Byts q ∧ q.length < 2 ^ 19 := ⟨h1, h2⟩
  unfold rv
  rw [dif_pos h]
  exact (Classical.choose_spec (FRecordTells.both q h.1 h.2)).2
theorem readrec.calls (A : Option Addr) (c : Nat) (q : List Int) (nq : Nat) (hnq : q.length = nq) (w : World) (hr : (Kd.int .u8).C w A q.length q) (hc : q.length ≤ c) (h1 : Byts q) (h2 : q.length < 2 ^ 19) (x : S28) (hx : recQ q = x) (er : Int) (he : errQ q = er) :
    Calls Try.prog 13 #[.slice A nq c] w fun e w' => ∃ v9 : Value, e = .returned (.tuple #[.agg #[.int .i64 x.f0.f0, .int .i64 x.f0.f1, .int .i64 x.f1.f0, .int .i64 x.f1.f1, .int .i64 x.f1.f2, .int .i64 x.f2, .int .i64 x.f3, .bool x.f4, .int .i64 x.f5, v9], .int .i64 er]) ∧ Kd.R (Kd.int .u8) 5 w' w.heap.size (fun _ => True) v9 x.f6 ∧ Below w.heap.size w w' := by
  obtain ⟨K, hK⟩ := rvD_ev h1 h2
  subst hx he hnq
  exact Rq.read.calls K A c q _ _ _ _ _ _ _ _ _ _ _ w hr hc (hK K (Nat.le_refl _))
structure L8 where
  a0 : Int
  a1 : Int
  a2 : Int
  a3 : Int
  a4 : Int
  a5 : Int
  P : List Int
  R : List S28
def pD : Nat → State → List Int → List Int × State
  | 0, s, acc => (acc, s)
  | m + 1, s, acc => if s.2 = true then (acc, s) else pD m (Rq.nx s 4) (acc ++ [Rq.vl s 4])
noncomputable def rD : Nat → State → List S28 → Option (List S28 × State)
  | 0, s, acc => some (acc, s)
  | m + 1, s, acc => if s.2 = true then some (acc, s) else
      if (Rq.nx s 2).2 = true then none else
      if (Rq.nx s 2).1.length < (Rq.vl s 2).toNat then none else
      if errQ ((Rq.nx s 2).1.take (Rq.vl s 2).toNat) ≠ 0 then none else
      rD m ((Rq.nx s 2).1.drop (Rq.vl s 2).toNat, false) (acc ++ [recQ ((Rq.nx s 2).1.take (Rq.vl s 2).toNat)])
theorem pD_bad {d : Nat} {l : List Int} {acc : List Int} : pD (d + 1) (l, true) acc = (acc, (l, true)) := if_pos rfl
theorem pD_go {d : Nat} {l : List Int} {acc : List Int} {s : State} {v : Int} (h1 : Rq.nx (l, false) 4 = s) (h2 : Rq.vl (l, false) 4 = v) : pD (d + 1) (l, false) acc = pD d s (acc ++ [v]) := by
  subst h1 h2; exact if_neg (show ¬ (false = true) by decide)
section
variable {d kk : Nat} {l l1 : List Int} {acc : List S28}
theorem rD_bad : rD (d + 1) (l, true) acc = some (acc, (l, true)) := if_pos rfl
theorem rD_no1 (h1 : Rq.nx (l, false) 2 = (l1, true)) : rD (d + 1) (l, false) acc = none := by
  unfold rD; rw [if_neg (show ¬ (false = true) by decide), h1]; exact if_pos rfl
theorem rD_no2 (h1 : Rq.nx (l, false) 2 = (l1, false)) (h2 : Rq.vl (l, false) 2 = (kk : Int)) (h3 : l1.length < kk) : rD (d + 1) (l, false) acc = none := by
  unfold rD; rw [if_neg (show ¬ (false = true) by decide), h1, h2, if_neg (show ¬ (false = true) by decide), Int.toNat_natCast]; exact if_pos h3
theorem rD_no3 (h1 : Rq.nx (l, false) 2 = (l1, false)) (h2 : Rq.vl (l, false) 2 = (kk : Int)) (h3 : ¬ l1.length < kk) (h4 : errQ (l1.take kk) ≠ 0) : rD (d + 1) (l, false) acc = none := by
  unfold rD; rw [if_neg (show ¬ (false = true) by decide), h1, h2, if_neg (show ¬ (false = true) by decide), Int.toNat_natCast]; exact (if_neg h3).trans (if_pos h4)
theorem rD_go (h1 : Rq.nx (l, false) 2 = (l1, false)) (h2 : Rq.vl (l, false) 2 = (kk : Int)) (h3 : ¬ l1.length < kk) (h4 : errQ (l1.take kk) = 0) : rD (d + 1) (l, false) acc = rD d (l1.drop kk, false) (acc ++ [recQ (l1.take kk)]) := by
  rw [rD]; rw [if_neg (show ¬ (false = true) by decide), h1, h2, if_neg (show ¬ (false = true) by decide), Int.toNat_natCast]; exact (if_neg h3).trans (if_neg (fun h => h h4))
end
noncomputable def fin9 (bs : List Int) (a0 a1 a2 a3 a4 a5 : Int) (P : List Int) : Option (List S28 × State) → Option L8
  | none => none
  | some (R, s) => @ite _ (s.2 = true ∨ ¬ okL a0 a1 a2 a3 a4 a5 P R ∨ (strOfNums (encL a0 a1 a2 a3 a4 a5 P R)).toList ≠ (strOfNums bs).toList) (Classical.propDecidable _) none (some ⟨a0, a1, a2, a3, a4, a5, P, R⟩)
noncomputable def fin7 (bs : List Int) (a0 a1 a2 a3 a4 a5 : Int) (n : Nat) (s : State) : Option L8 :=
  fin9 bs a0 a1 a2 a3 a4 a5 (pD n s []).1 (rD (Rq.vl (pD n s []).2 1).toNat (Rq.nx (pD n s []).2 1) [])
def Out (T : Option L8) (w : World) (e : Ending) (w' : World) : Prop := Below w.heap.size w w' ∧ match T with
  | none => e = .returned (.tuple #[.agg #[.int .i64 0, .int .i64 0, .int .i64 0, .int .i64 0, .int .i64 0, .int .i64 0, .slice none 0 0, .slice none 0 0], .int .i64 2])
  | some l => ∃ up ur : Value, e = .returned (.tuple #[.agg #[.int .i64 l.a0, .int .i64 l.a1, .int .i64 l.a2, .int .i64 l.a3, .int .i64 l.a4, .int .i64 l.a5, up, ur], .int .i64 0]) ∧ Kd.R (Kd.int .i64) 3 w' w.heap.size (fun _ => True) up l.P ∧ Kd.S k28 28 w' w.heap.size (fun _ => True) ur l.R
theorem pD_ok (n : Nat) : ∀ (s : State) (acc : List Int), okB s → okB (pD n s acc).2 := by
  induction n with
  | zero => exact fun s acc h => h
  | succ n ih =>
    intro s acc h
    unfold pD
    split
    · exact h
    · exact ih _ _ (nx_ok h 4)
def T8 : Bool × List (List Nat × List Nat) := (true, [([], []), ([0], [0]), ([], []), ([2], [2]), ([3], [3]), ([1, 4, 3], [1, 4]), ([0, 1, 2, 3, 4, 5], []), ([6, 5, 5, 0, 1, 2, 3, 4, 5], [5, 6])])
def B8 : List Nat := [0, 1, 0, 4, 12, 31, 63, 127]
theorem tab8 : rtab .any (opsOf Try.f22 8) = T8 := by kernel_rfl
theorem bits8 : waitsOk T8.2 B8 = true := by kernel_rfl
theorem errQ_or {q : List Int} (h1 : Byts q) (h2 : q.length < 2 ^ 19) : errQ q = 0 ∨ errQ q = 2 := by
  obtain ⟨K, hK⟩ := rvD_ev h1 h2
  have h := hK K (Nat.le_refl _)
  have key : ∀ (p n b s m bl e : Int) (g : Bool) (u : Int) (D : List Int) (bad : Bool) (r : Rq.Ans), Rq.fin K q p n b s m bl e g u D bad = some r → r.2.2.2.2.2.2.2.2.2.2 = 0 ∨ r.2.2.2.2.2.2.2.2.2.2 = 2 := by
    intro p n b s m bl e g u D bad r hr
    unfold Rq.fin at hr
    obtain ⟨y, _, hr⟩ := Option.bind_eq_some_iff.1 hr
    split at hr
    · exact .inr (by rw [← Option.some.inj hr]; rfl)
    · split at hr
      · exact .inr (by rw [← Option.some.inj hr]; rfl)
      · split at hr
        · exact .inl (by rw [← Option.some.inj hr])
        · exact .inr (by rw [← Option.some.inj hr]; rfl)
  unfold Rq.read.f at h
  unfold errQ
  split at h
  · exact key _ _ _ _ _ _ _ _ _ _ _ _ h
  · split at h
    · exact key _ _ _ _ _ _ _ _ _ _ _ _ h
    · cases h
theorem readletter.calls (A : Option Addr) (c : Nat) (bs : List Int) (w : World) (n : Nat) (v0 v1 v2 v3 v4 v5 : Int) (s1 s2 s3 s4 s5 s6 s7 : State) (T : Option L8) (hC : (Kd.int .u8).C w A bs.length bs) (hl : bs.length ≤ c) (hb : okB (bs, false))
    (e1 : Rq.nx (bs, false) 1 = s1) (f0 : Rq.vl (bs, false) 1 = v0) (e2 : Rq.nx s1 4 = s2) (f1 : Rq.vl s1 4 = v1) (e3 : Rq.nx s2 4 = s3) (f2 : Rq.vl s2 4 = v2) (e4 : Rq.nx s3 4 = s4) (f3 : Rq.vl s3 4 = v3) (e5 : Rq.nx s4 4 = s5) (f4 : Rq.vl s4 4 = v4) (e6 : Rq.nx s5 4 = s6) (f5 : Rq.vl s5 4 = v5) (e7 : Rq.nx s6 1 = s7) (f6 : Rq.vl s6 1 = (n : Int)) (hn : n ≤ 255) (hT : fin7 bs v0 v1 v2 v3 v4 v5 n s7 = T) :
    Calls Try.prog 22 #[.slice A bs.length c] w fun e w' => Out T w e w' := by
  have hu28 := Try.underlying28
  have hu45 := Try.underlying45
  have ok7 : okB s7 := by subst e1 e2 e3 e4 e5 e6 e7; exact nx_ok (nx_ok (nx_ok (nx_ok (nx_ok (nx_ok (nx_ok hb 1) 4) 4) 4) 4) 4) 1
  obtain ⟨⟨P, t⟩, hPT⟩ : ∃ x, pD n s7 [] = x := ⟨_, rfl⟩
  have okt : okB t := by have := pD_ok n s7 [] ok7; rw [hPT] at this; exact this
  obtain ⟨m, hm, hm2⟩ := vl_le1 okt
  obtain ⟨t1, ht1⟩ : ∃ x, Rq.nx t 1 = x := ⟨_, rfl⟩
  have okt1 : okB t1 := by rw [← ht1]; exact nx_ok okt 1
  obtain ⟨TR, hTR⟩ : ∃ x, rD m t1 [] = x := ⟨_, rfl⟩
  unfold fin7 at hT
  rw [hPT] at hT
  dsimp only at hT
  rw [hm, Int.toNat_natCast, ht1, hTR] at hT
  have HC := Aside0.mk hC
  have HL := Aside0.mk hl
  have OK1 := Aside0.mk okt1
  have E1 := Aside0.mk e1
  have E2 := Aside0.mk e2
  have E3 := Aside0.mk e3
  have E4 := Aside0.mk e4
  have E5 := Aside0.mk e5
  have E6 := Aside0.mk e6
  have E7 := Aside0.mk e7
  have F0 := Aside0.mk f0
  have F1 := Aside0.mk f1
  have F2 := Aside0.mk f2
  have F3 := Aside0.mk f3
  have F4 := Aside0.mk f4
  have F5 := Aside0.mk f5
  have F6 := Aside0.mk f6
  have NL := Aside0.mk hn
  have HT := Aside0.mk hT
  have PT := Aside0.mk hPT
  have MT := Aside0.mk hm
  have ML := Aside0.mk hm2
  have T1 := Aside0.mk ht1
  have RT := Aside0.mk hTR
  have HB := Aside0.mk (Below.refl w.heap.size w)
  clear hC hl hb e1 e2 e3 e4 e5 e6 e7 f0 f1 f2 f3 f4 f5 f6 hn hT hPT hm hm2 ht1 hTR ok7 okt okt1
  go_enter Try.func22, Try.ntmps22
  go_upto_region 3 with (first | ((with_reducible refine gate_dst (N := 2) rfl ?_); refine box_event ?hg (N := 2) ?hd (cs := #[.int .i64 0, .int .i64 0, .int .i64 0, .int .i64 0, .int .i64 0, .int .i64 0, .slice none 0 0, .slice none 0 0]) (t := 45) ?hr ?_; (case hd => rfl); (case hg => rfl); (case hr => first | (go_simp; done) | (go_simp; rfl)); intro g2 hg w2 hbox hb; have BR := Aside0.mk hbox; have G2 := Aside0.mk (by rw [hg]; exact bels : w.heap.size ≤ g2); replace HB := Aside0.mk (belt hb); clear hbox hb hg) | ((with_reducible refine gate_dst (N := 16) rfl ?_); refine box_event ?hg (N := 16) ?hd (cs := #[.slice A bs.length c, .bool false]) (t := 65) ?hr ?_; (case hd => rfl); (case hg => rfl); (case hr => first | (go_simp; done) | (go_simp; rfl)); intro gr hg w3 hbox hb; have NE1 := Aside0.mk (by have := blk_lt BR.out; rw [hg]; omega : g2 ≠ gr); replace BR := Aside0.mk (blk_below BR.out hb); have GR := Aside0.mk (by rw [hg]; exact bels : w.heap.size ≤ gr); replace HB := Aside0.mk (belt hb); have HS := Aside0.mk (⟨⟨A, c, hbox, HC.out, HL.out⟩, HB.out, GR.out⟩ : DS w _ gr (bs, false)); clear hbox hb hg) | (go_at_call 34; (with_reducible refine (get1 w gr (bs, false) s1 v0 _ ?sS E1.out F0.out).mono ?_); (case sS => with_reducible exact HS.out); rintro e w4 ⟨rfl, hS_, hk_⟩; replace BR := Aside0.mk (hk_.blk BR.out NE1.out (by simp)); replace HS := Aside0.mk hS_; replace HB := Aside0.mk hS_.bel; clear hS_ hk_) | (go_at_call 34; (with_reducible refine (get4 w gr s1 s2 v1 _ ?sS E2.out F1.out).mono ?_); (case sS => with_reducible exact HS.out); rintro e w41 ⟨rfl, hS_, hk_⟩; replace BR := Aside0.mk (hk_.blk BR.out NE1.out (by simp)); replace HS := Aside0.mk hS_; replace HB := Aside0.mk hS_.bel; clear hS_ hk_) | (go_at_call 34; (with_reducible refine (get4 w gr s2 s3 v2 _ ?sS E3.out F2.out).mono ?_); (case sS => with_reducible exact HS.out); rintro e w42 ⟨rfl, hS_, hk_⟩; replace BR := Aside0.mk (hk_.blk BR.out NE1.out (by simp)); replace HS := Aside0.mk hS_; replace HB := Aside0.mk hS_.bel; clear hS_ hk_) | (go_at_call 34; (with_reducible refine (get4 w gr s3 s4 v3 _ ?sS E4.out F3.out).mono ?_); (case sS => with_reducible exact HS.out); rintro e w43 ⟨rfl, hS_, hk_⟩; replace BR := Aside0.mk (hk_.blk BR.out NE1.out (by simp)); replace HS := Aside0.mk hS_; replace HB := Aside0.mk hS_.bel; clear hS_ hk_) | ((with_reducible refine gate_dst (N := 5) rfl ?_); refine box_event ?hg (N := 5) ?hd (cs := #[.int .i64 0, .int .i64 0, .int .i64 0, .int .i64 0, .int .i64 0, .int .i64 0, .slice none 0 0, .slice none 0 0]) (t := 45) ?hr ?_; (case hd => rfl); (case hg => rfl); (case hr => first | (go_simp; done) | (go_simp; rfl)); intro gl hg w5 hbox hb; have NE2 := Aside0.mk (by have := blk_lt BR.out; rw [hg]; omega : g2 ≠ gl); have NE3 := Aside0.mk (by obtain ⟨_, _, hx_, _⟩ := HS.out.box; have := blk_lt hx_; rw [hg]; omega : gr ≠ gl); replace BR := Aside0.mk (blk_below BR.out hb); have GL := Aside0.mk (by rw [hg]; exact bels : w.heap.size ≤ gl); replace HS := Aside0.mk (HS.out.keep (by obtain ⟨_, _, hx_, _⟩ := HS.out.box; exact hb.block _ (blk_lt hx_)) (belt hb)); replace HB := Aside0.mk HS.out.bel; have BL := Aside0.mk hbox; obtain ⟨hz0, hz1, hz2, hz3, hz4, hz5, hz6, hz7⟩ := box8 BL.out; obtain ⟨hf0, hf1, hf2, hf3, hf4, hf5, hf6, hf7⟩ := frz8 BL.out; clear hbox hb hg))
  have BL_ := Aside0.mk (show (((((((((w5.setCell ⟨gl, 0, none⟩ (.int .i64 v0)).setCell ⟨gl, 1, none⟩ (.int .i64 v1)).setCell ⟨gl, 2, none⟩ (.int .i64 v2)).setCell ⟨gl, 3, none⟩ (.int .i64 v3)).setCell ⟨gl, 4, none⟩ (.int .i64 0)).setCell ⟨gl, 5, none⟩ (.int .i64 0)).setCell ⟨gl, 6, none⟩ (.slice none 0 0)).setCell ⟨gl, 7, none⟩ (.slice none 0 0))).heap[gl]? = some (.cells #[.int .i64 v0, .int .i64 v1, .int .i64 v2, .int .i64 v3, .int .i64 0, .int .i64 0, .slice none 0 0, .slice none 0 0] 45 (0, 0)) from set8 BL.out)
  have HS_ := Aside0.mk (show DS w (((((((((w5.setCell ⟨gl, 0, none⟩ (.int .i64 v0)).setCell ⟨gl, 1, none⟩ (.int .i64 v1)).setCell ⟨gl, 2, none⟩ (.int .i64 v2)).setCell ⟨gl, 3, none⟩ (.int .i64 v3)).setCell ⟨gl, 4, none⟩ (.int .i64 0)).setCell ⟨gl, 5, none⟩ (.int .i64 0)).setCell ⟨gl, 6, none⟩ (.slice none 0 0)).setCell ⟨gl, 7, none⟩ (.slice none 0 0))) gr s4 from HS.out.keep (oth8 NE3.out) (bel8 HB.out GL.out))
  have BR_ := Aside0.mk (show (((((((((w5.setCell ⟨gl, 0, none⟩ (.int .i64 v0)).setCell ⟨gl, 1, none⟩ (.int .i64 v1)).setCell ⟨gl, 2, none⟩ (.int .i64 v2)).setCell ⟨gl, 3, none⟩ (.int .i64 v3)).setCell ⟨gl, 4, none⟩ (.int .i64 0)).setCell ⟨gl, 5, none⟩ (.int .i64 0)).setCell ⟨gl, 6, none⟩ (.slice none 0 0)).setCell ⟨gl, 7, none⟩ (.slice none 0 0))).heap[g2]? = some (.cells #[.int .i64 0, .int .i64 0, .int .i64 0, .int .i64 0, .int .i64 0, .int .i64 0, .slice none 0 0, .slice none 0 0] 45 (0, 0)) from (oth8 NE2.out).trans BR.out)
  clear BL HS BR HB hz0 hz1 hz2 hz3 hz4 hz5 hz6 hz7 hf0 hf1 hf2 hf3 hf4 hf5 hf6 hf7
  generalize ((((((((w5.setCell ⟨gl, 0, none⟩ (.int .i64 v0)).setCell ⟨gl, 1, none⟩ (.int .i64 v1)).setCell ⟨gl, 2, none⟩ (.int .i64 v2)).setCell ⟨gl, 3, none⟩ (.int .i64 v3)).setCell ⟨gl, 4, none⟩ (.int .i64 0)).setCell ⟨gl, 5, none⟩ (.int .i64 0)).setCell ⟨gl, 6, none⟩ (.slice none 0 0)).setCell ⟨gl, 7, none⟩ (.slice none 0 0)) = w6 at BL_ HS_ BR_ ⊢
  have BL := BL_
  have HS := HS_
  have BR := BR_
  clear BL_ HS_ BR_ E1 E2 E3 E4 F0 F1 F2 F3
  obtain ⟨hz0, hz1, hz2, hz3, hz4, hz5, hz6, hz7⟩ := box8 BL.out; obtain ⟨hf0, hf1, hf2, hf3, hf4, hf5, hf6, hf7⟩ := frz8 BL.out
  go_upto_region 4 with (first | (go_at_call 34; (with_reducible refine (get4 w gr s4 s5 v4 _ ?sS E5.out F4.out).mono ?_); (case sS => with_reducible exact HS.out); rintro e w7 ⟨rfl, hS_, hk_⟩; replace BL := Aside0.mk (hk_.blk BL.out NE3.out.symm (by simp)); replace BR := Aside0.mk (hk_.blk BR.out NE1.out (by simp)); replace HS := Aside0.mk hS_; clear hz0 hz1 hz2 hz3 hz4 hz5 hz6 hz7 hf0 hf1 hf2 hf3 hf4 hf5 hf6 hf7; obtain ⟨hz0, hz1, hz2, hz3, hz4, hz5, hz6, hz7⟩ := box8 BL.out; obtain ⟨hf0, hf1, hf2, hf3, hf4, hf5, hf6, hf7⟩ := frz8 BL.out; clear hS_ hk_) | (go_at_call 34; (with_reducible refine (get4 w gr s5 s6 v5 _ ?sS E6.out F5.out).mono ?_); (case sS => with_reducible exact HS.out); rintro e w8 ⟨rfl, hS_, hk_⟩; replace BL := Aside0.mk (hk_.blk BL.out NE3.out.symm (by simp)); replace BR := Aside0.mk (hk_.blk BR.out NE1.out (by simp)); replace HS := Aside0.mk hS_; clear hz0 hz1 hz2 hz3 hz4 hz5 hz6 hz7 hf0 hf1 hf2 hf3 hf4 hf5 hf6 hf7; obtain ⟨hz0, hz1, hz2, hz3, hz4, hz5, hz6, hz7⟩ := box8 BL.out; obtain ⟨hf0, hf1, hf2, hf3, hf4, hf5, hf6, hf7⟩ := frz8 BL.out; clear hS_ hk_))
  have BL_ := Aside0.mk (show (((w8.setCell ⟨gl, 4, none⟩ (.int .i64 v4)).setCell ⟨gl, 5, none⟩ (.int .i64 v5))).heap[gl]? = some (.cells #[.int .i64 v0, .int .i64 v1, .int .i64 v2, .int .i64 v3, .int .i64 v4, .int .i64 v5, .slice none 0 0, .slice none 0 0] 45 (0, 0)) from blk_put (blk_put (cs' := #[.int .i64 v0, .int .i64 v1, .int .i64 v2, .int .i64 v3, .int .i64 v4, .int .i64 0, .slice none 0 0, .slice none 0 0]) BL.out 4 _ rfl) 5 _ rfl)
  have HS_ := Aside0.mk (show DS w (((w8.setCell ⟨gl, 4, none⟩ (.int .i64 v4)).setCell ⟨gl, 5, none⟩ (.int .i64 v5))) gr s6 from HS.out.keep ((Below.heap_setCell _ _ _ _ NE3.out).trans (Below.heap_setCell _ _ _ _ NE3.out)) (below_set (below_set HS.out.bel GL.out) GL.out))
  have BR_ := Aside0.mk (show (((w8.setCell ⟨gl, 4, none⟩ (.int .i64 v4)).setCell ⟨gl, 5, none⟩ (.int .i64 v5))).heap[g2]? = some (.cells #[.int .i64 0, .int .i64 0, .int .i64 0, .int .i64 0, .int .i64 0, .int .i64 0, .slice none 0 0, .slice none 0 0] 45 (0, 0)) from (Below.heap_setCell _ _ _ _ NE2.out).trans ((Below.heap_setCell _ _ _ _ NE2.out).trans BR.out))
  clear BL HS BR hz0 hz1 hz2 hz3 hz4 hz5 hz6 hz7 hf0 hf1 hf2 hf3 hf4 hf5 hf6 hf7
  generalize ((w8.setCell ⟨gl, 4, none⟩ (.int .i64 v4)).setCell ⟨gl, 5, none⟩ (.int .i64 v5)) = w9 at BL_ HS_ BR_ ⊢
  have BL := BL_
  have HS := HS_
  have BR := BR_
  clear BL_ HS_ BR_ E5 E6 F4 F5
  go_upto_block 0 with ((go_at_call 34; (with_reducible refine (get1 w gr s6 s7 (n : Int) _ ?sS E7.out F6.out).mono ?_); (case sS => with_reducible exact HS.out); rintro e w10 ⟨rfl, hS_, hk_⟩; replace BL := Aside0.mk (hk_.blk BL.out NE3.out.symm (by simp)); replace BR := Aside0.mk (hk_.blk BR.out NE1.out (by simp)); replace HS := Aside0.mk hS_; clear hS_ hk_))
  go_cut [7] (fun v7 wc => ∃ u : Value, Aside0 (DS w wc gr t) ∧ Aside0 (wc.heap[gl]? = some (.cells #[.int .i64 v0, .int .i64 v1, .int .i64 v2, .int .i64 v3, .int .i64 v4, .int .i64 v5, u, .slice none 0 0] 45 (0, 0))) ∧ Aside0 (wc.heap[g2]? = some (.cells #[.int .i64 0, .int .i64 0, .int .i64 0, .int .i64 0, .int .i64 0, .int .i64 0, .slice none 0 0, .slice none 0 0] 45 (0, 0))) ∧ Aside0 (Kd.R (Kd.int .i64) 3 wc w.heap.size (fun k_ => k_ ≠ gr) u P))
  case first =>
    clear HT RT T1 MT ML OK1 HC HL
    go_wp2
    go_loopg [7] n (fun gg v7 wr_ => ∃ (i : Nat) (u : Value) (s : State) (acc : List Int), v7 = .int .i64 (i : Int) ∧ Aside0 (i + gg = n) ∧ Aside0 (acc.length = i) ∧ Aside0 (pD gg s acc = (P, t)) ∧ Aside0 (DS w wr_ gr s) ∧ Aside0 (wr_.heap[gl]? = some (.cells #[.int .i64 v0, .int .i64 v1, .int .i64 v2, .int .i64 v3, .int .i64 v4, .int .i64 v5, u, .slice none 0 0] 45 (0, 0))) ∧ Aside0 (wr_.heap[g2]? = some (.cells #[.int .i64 0, .int .i64 0, .int .i64 0, .int .i64 0, .int .i64 0, .int .i64 0, .slice none 0 0, .slice none 0 0] 45 (0, 0))) ∧ Aside0 (Kd.R (Kd.int .i64) 3 wr_ w.heap.size (fun k_ => k_ ≠ gr) u acc))
    case atStart => exact ⟨0, _, s7, [], by simp, ⟨Nat.zero_add _⟩, ⟨rfl⟩, ⟨PT.out⟩, ⟨HS.out⟩, ⟨BL.out⟩, ⟨BR.out⟩, ⟨Kd.R_nil _ _ _ _ _⟩⟩
    case round =>
      clear HS BL BR PT
      obtain ⟨i, u, ⟨l, b⟩, acc, rfl, E1, AL, PD, HS, BL, BR, HI⟩ := hrel
      obtain ⟨Ar, cr, rb_, _, _⟩ := HS.out.box
      obtain ⟨s0, s1_, _, _⟩ := box2 rb_
      clear rb_
      dsimp only at s0 s1_
      cases gk with
      | zero =>
        obtain rfl : i = n := by have := E1.out; omega
        obtain ⟨rfl, rfl⟩ : acc = P ∧ (l, b) = t := by have := PD.out; unfold pD at this; injection this with h1 h2; exact ⟨h1, h2⟩
        clear E1 PD AL
        go_wp2
        go_meet
        case rel => exact ⟨u, ⟨HS.out⟩, ⟨BL.out⟩, ⟨BR.out⟩, ⟨HI.out⟩⟩
      | succ d =>
        have hlt : (i : Int) < (n : Int) := by have := E1.out; omega
        cases b with
        | true =>
          obtain ⟨rfl, rfl⟩ : acc = P ∧ (l, true) = t := by have := PD.out; rw [pD_bad] at this; injection this with h1 h2; exact ⟨h1, h2⟩
          clear E1 PD AL
          go_wp2
          go_meet
          case rel => exact ⟨u, ⟨HS.out⟩, ⟨BL.out⟩, ⟨BR.out⟩, ⟨HI.out⟩⟩
        | false =>
          obtain ⟨s', hs'⟩ : ∃ x, Rq.nx (l, false) 4 = x := ⟨_, rfl⟩
          obtain ⟨p, hp⟩ : ∃ x, Rq.vl (l, false) 4 = x := ⟨_, rfl⟩
          have DN := Aside0.mk hs'
          have DV := Aside0.mk hp
          replace PD := Aside0.mk ((pD_go hs' hp).symm.trans PD.out)
          clear hs' hp
          obtain ⟨Q, hQ⟩ : ∃ Q, acc ++ [p] = Q := ⟨_, rfl⟩
          have QE := Aside0.mk hQ
          rw [hQ] at PD
          clear hQ
          have hpl := NL.out
          have hz6 : wr.cell? ⟨gl, 6, none⟩ = some u := (blk_cell BL.out 6).trans rfl
          go_wp2
          refine start_ (n := 8) (S := fun w' => w'.cell? ⟨gl, 6, none⟩ = some u) (ds := [7]) (ms 8 0) (by kernel_rfl) rfl rfl hz6 (fun hHeld => ?_); refine with_tabW tab8 bits8 (fun HT_ HW_ => ?_)
          have HS_ := Aside0.mk (show DS w wr.drew gr (l, false) from HS.out.keep rfl HS.out.bel.drew)
          have BL_ := Aside0.mk (show wr.drew.heap[gl]? = _ from BL.out)
          have BR_ := Aside0.mk (show wr.drew.heap[g2]? = _ from BR.out)
          have HI_ := Aside0.mk (Kd.R_drew HI.out)
          clear HS BL BR HI hz6 s0 s1_
          generalize wr.drew = wd at hHeld HS_ BL_ BR_ HI_ ⊢
          have HS := HS_
          have BL := BL_
          have BR := BR_
          have HI := HI_
          clear HS_ BL_ BR_ HI_
          refine run_ [(0, false, some 46), (1, true, some 47), (2, false, some 48)] (n := 3) (ms 8 7) rfl HT_.out HW_.out (by kernel_rfl) (fun _ _ _ _ h => h) hHeld ?_
          repeat (first | (refine Run.p (v := ?_) (a' := ?_) rfl rfl (Or.inl ⟨by rfl, ?_⟩) ?_ ?_; rotate_left; (focus intro w'; go_simp; with_reducible rfl); rotate_left; (focus simp only [Act.put, List.setIfInBounds_toArray, List.set_cons_zero, List.set_cons_succ, i64_w, i32_w]; rfl)) | (refine Run.t (v := ?_) (a' := ?_) rfl rfl (Or.inl ⟨by rfl, ?_⟩) ?_ ?_; rotate_left; (focus intro w' hS; go_simp; with_reducible rfl); rotate_left; (focus simp only [Act.put, List.setIfInBounds_toArray, List.set_cons_zero, List.set_cons_succ, i64_w, i32_w]; rfl)))
          refine Run.nil ?_
          refine one_ (i := 3) (N := some 49) (ms 8 15) rfl rfl (one_of HT_.out (by kernel_rfl)) (by decide) (fun K hK => ?_)
          refine goes_ Try.func34 (by kernel_rfl) rfl #[.pointer (some ⟨gr, 0, none⟩), .int .i64 4] (by rfl) rfl rfl agl ?_
          with_reducible refine (get4 w gr (l, false) s' p _ HS.out DN.out DV.out).mono ?_
          rintro e w9 ⟨rfl, hS_, hk_⟩
          refine ⟨_, rfl, ?_⟩
          replace BL := Aside0.mk (hk_.blk BL.out NE3.out.symm (by simp))
          replace BR := Aside0.mk (hk_.blk BR.out NE1.out (by simp))
          replace HI := Aside0.mk (Kd.R_keep HI.out hk_ (fun _ h => h))
          replace HS := Aside0.mk hS_
          clear hS_ hk_
          refine hK.out _ _ ((blk_cell BL.out 6).trans rfl) (fun hHeld => ?_)
          clear hK
          refine norm_ (a' := ?_) ?_ ?_
          rotate_left
          · show Act.put _ (some 49) _ = _
            simp only [Act.put, List.setIfInBounds_toArray, List.set_cons_zero, List.set_cons_succ, i64_w, i32_w]
            rfl
          refine one_ (i := 4) (N := some 50) (ms 8 31) rfl rfl (one_of HT_.out (by kernel_rfl)) (by decide) (fun K hK => ?_)
          refine value_ (w1 := ?_) (v := ?_) (by rfl) rfl ?_ ?_
          rotate_left 2
          · go_simp
            constructor
            · rfl
            · rfl
          refine hK.out _ _ ((World.cell?_alloc_lt _ _ _ (World.block_lt_of_cell? _ _ ((blk_cell BL.out 6).trans rfl : w9.cell? ⟨gl, 6, none⟩ = some u))).trans ((blk_cell BL.out 6).trans rfl)) (fun hHeld => ?_)
          clear hK
          refine norm_ (a' := ?_) ?_ ?_
          rotate_left
          · show Act.put _ (some 50) _ = _
            simp only [Act.put, List.setIfInBounds_toArray, List.set_cons_zero, List.set_cons_succ, i64_w, i32_w]
            rfl
          refine one_ (i := 5) (N := some 51) (ms 8 63) rfl rfl (one_of HT_.out (by kernel_rfl)) (by decide) (fun K hK => ?_)
          have lt_gr : gr < w9.heap.size := by obtain ⟨_, _, hx_, _⟩ := HS.out.box; exact blk_lt hx_
          refine Kd.R_append_step (Kd.int .i64) (w0 := w) w.heap.size (by rfl) (.tmp 47) (.tmp 50) 42 3 (.int .i64 0) 8 rfl Try.underlying42 info3 rfl (by decide) (by omega) u acc p [.int .i64 p] (fun k_ => k_ ≠ gr) (fun _ => False) rfl rfl ?aP (fun _ hk => hk.elim) ?aF ?aO ?aB ?aS ?aL ?_
          (case aP => exact rfl)
          (case aF => exact (fun k_ hk => by omega))
          (case aO => exact HI.out)
          (case aB => exact HS.out.bel)
          (case aS => exact HS.out.bel.size)
          (case aL => have := NL.out; have := AL.out; have := E1.out; omega)
          intro u2 w10 ho hb hg hat
          rw [QE.out] at ho
          have ne_gr : some gr ≠ u.ownBlock := by obtain ⟨_, _, hx_, _⟩ := HS.out.box; exact Kd.R_ne HI.out hx_ (by decide)
          replace BL := Aside0.mk (blk_grown BL.out hg (Kd.R_ne HI.out BL.out (by decide)))
          replace BR := Aside0.mk (blk_grown BR.out hg (Kd.R_ne HI.out BR.out (by decide)))
          replace HS := Aside0.mk (HS.out.keep (hg.block _ lt_gr ne_gr) hb)
          replace HI := Aside0.mk ho
          obtain ⟨Au, cu, rfl, _, _⟩ := Kd.R_reads ho
          clear ho hb hg hat ne_gr lt_gr
          refine hK.out _ _ ((blk_cell BL.out 6).trans rfl) (fun hHeld => ?_)
          clear hK
          refine norm_ (a' := ?_) ?_ ?_
          rotate_left
          · show Act.put _ (some 51) _ = _
            simp only [Act.put, List.setIfInBounds_toArray, List.set_cons_zero, List.set_cons_succ, i64_w, i32_w]
            rfl
          refine pure_ (i := 6) (N := some 52) (v := ?_) (a' := ?_) (ms 8 127) rfl rfl (any_of HT_.out (by kernel_rfl)) (fun _ _ _ h => h) (Or.inl ⟨by rfl, ?_⟩) ?_ ?_
          rotate_left
          · intro w'
            go_simp
            with_reducible rfl
          rotate_left
          · simp only [Act.put, List.setIfInBounds_toArray, List.set_cons_zero, List.set_cons_succ, i64_w, i32_w]
            rfl
          have hz6 : w10.cell? ⟨gl, 6, none⟩ = some u := (blk_cell BL.out 6).trans rfl
          have hf6 := blk_frozen BL.out 6
          refine last_ (i := 7) (N := none) (ms 8 255) rfl rfl (one_of HT_.out (by kernel_rfl)) (by decide) (fun K hK => ?_)
          refine skip_ (w1 := ?_) (by rfl) rfl ?_ ?_
          rotate_left
          · go_simp
            rfl
          refine hK.out _ _ ?_
          clear hK K
          refine done_ (done_of HT_.out (by kernel_rfl)) ?_
          clear HT_ HW_ hHeld
          try go_wp2
          go_roundg d
          case measure => omega
          case rel => exact ⟨i + 1, _, s', Q, by go_num, ⟨by have := E1.out; omega⟩, ⟨by have := AL.out; rw [← QE.out, List.length_append, List.length_singleton]; omega⟩, ⟨PD.out⟩, ⟨HS.out.keep (Below.heap_setCell _ _ _ _ NE3.out) (below_set HS.out.bel GL.out)⟩, ⟨blk_put BL.out 6 _ rfl⟩, ⟨(Below.heap_setCell _ _ _ _ NE2.out).trans BR.out⟩, ⟨Kd.R_set HI.out BL.out (by decide) 6 _⟩⟩
  case rest =>
    clear HS BL BR PT NL E7 F6
    obtain ⟨u, HS, BL, BR, HI⟩ := hcut
    obtain ⟨Au, cu, rfl, _, _⟩ := Kd.R_reads HI.out
    go_upto_block 2 with ((go_at_call 34; (with_reducible refine (get1 w gr t t1 (m : Int) _ ?sS T1.out MT.out).mono ?_); (case sS => with_reducible exact HS.out); rintro e w11 ⟨rfl, hS_, hk_⟩; replace BL := Aside0.mk (hk_.blk BL.out NE3.out.symm (by simp)); replace BR := Aside0.mk (hk_.blk BR.out NE1.out (by simp)); replace HS := Aside0.mk hS_; replace HI := Aside0.mk (Kd.R_keep HI.out hk_ (fun _ h => h)); clear hS_ hk_))
    have SN0 := Aside0.mk (Kd.S_nil k28 28 w11 w.heap.size (fun k_ => k_ ≠ gr))
    clear T1 MT
    go_cut [9, 10, 11, 12] (fun v9 v10 v11 v12 wc => ∃ (ur : Value) (R : List S28) (s : State), Aside0 (TR = some (R, s)) ∧ Aside0 (DS w wc gr s) ∧ Aside0 (wc.heap[gl]? = some (.cells #[.int .i64 v0, .int .i64 v1, .int .i64 v2, .int .i64 v3, .int .i64 v4, .int .i64 v5, .slice Au P.length cu, ur] 45 (0, 0))) ∧ Aside0 (wc.heap[g2]? = some (.cells #[.int .i64 0, .int .i64 0, .int .i64 0, .int .i64 0, .int .i64 0, .int .i64 0, .slice none 0 0, .slice none 0 0] 45 (0, 0))) ∧ Aside0 (Kd.R (Kd.int .i64) 3 wc w.heap.size (fun k_ => k_ ≠ gr) (.slice Au P.length cu) P) ∧ Aside0 (Kd.S k28 28 wc w.heap.size (fun k_ => k_ ≠ gr) ur R))
    case first =>
      clear HC HL
      go_wp2
      go_loopg [9, 10, 11, 12] m (fun gg v9 v10 v11 v12 wr_ => ∃ (i : Nat) (ur : Value) (s : State) (acc : List S28), v9 = .int .i64 (i : Int) ∧ Aside0 (i + gg = m) ∧ Aside0 (acc.length = i) ∧ Aside0 (rD gg s acc = TR) ∧ Aside0 (okB s) ∧ Aside0 (DS w wr_ gr s) ∧ Aside0 (wr_.heap[gl]? = some (.cells #[.int .i64 v0, .int .i64 v1, .int .i64 v2, .int .i64 v3, .int .i64 v4, .int .i64 v5, .slice Au P.length cu, ur] 45 (0, 0))) ∧ Aside0 (wr_.heap[g2]? = some (.cells #[.int .i64 0, .int .i64 0, .int .i64 0, .int .i64 0, .int .i64 0, .int .i64 0, .slice none 0 0, .slice none 0 0] 45 (0, 0))) ∧ Aside0 (Kd.R (Kd.int .i64) 3 wr_ w.heap.size (fun k_ => k_ ≠ gr) (.slice Au P.length cu) P) ∧ Aside0 (Kd.S k28 28 wr_ w.heap.size (fun k_ => k_ ≠ gr) ur acc))
      case atStart => exact ⟨0, _, t1, [], by simp, ⟨Nat.zero_add _⟩, ⟨rfl⟩, ⟨RT.out⟩, ⟨OK1.out⟩, ⟨HS.out⟩, ⟨BL.out⟩, ⟨BR.out⟩, ⟨HI.out⟩, ⟨SN0.out⟩⟩
      case round =>
        clear HS BL BR HI SN0 RT OK1
        obtain ⟨i, ur, ⟨l, b⟩, acc, rfl, E1, AL, RD, OK, HS, BL, BR, HI, HU⟩ := hrel
        obtain ⟨Ar, cr, rb_, _, _⟩ := HS.out.box
        obtain ⟨s0, s1_, _, _⟩ := box2 rb_
        clear rb_
        dsimp only at s0 s1_
        cases gk with
        | zero =>
          obtain rfl : i = m := by have := E1.out; omega
          clear E1 AL
          go_wp2
          go_meet
          case rel => exact ⟨ur, acc, (l, b), ⟨by have := RD.out; rw [rD] at this; exact this.symm⟩, ⟨HS.out⟩, ⟨BL.out⟩, ⟨BR.out⟩, ⟨HI.out⟩, ⟨HU.out⟩⟩
        | succ d =>
          have hlt : (i : Int) < (m : Int) := by have := E1.out; omega
          have hpl := ML.out
          cases b with
          | true =>
            clear E1 AL
            go_wp2
            go_meet
            case rel => exact ⟨ur, acc, (l, true), ⟨by have := RD.out; rw [rD_bad] at this; exact this.symm⟩, ⟨HS.out⟩, ⟨BL.out⟩, ⟨BR.out⟩, ⟨HI.out⟩, ⟨HU.out⟩⟩
          | false =>
            obtain ⟨⟨l1, b1⟩, hs'⟩ : ∃ x, Rq.nx (l, false) 2 = x := ⟨_, rfl⟩
            obtain ⟨kk, hk1, hk2⟩ := vl_le2 OK.out
            have ok1 := nx_ok OK.out 2
            rw [hs'] at ok1
            have OKN := Aside0.mk ok1
            have DN := Aside0.mk hs'
            have DV := Aside0.mk hk1
            have KL := Aside0.mk hk2
            clear hs' hk1 hk2 ok1
            go_upto_region 14 with ((go_at_call 34; (with_reducible refine (get2 w gr (l, false) (l1, b1) (kk : Int) _ ?sS DN.out DV.out).mono ?_); (case sS => with_reducible exact HS.out); rintro e w12 ⟨rfl, hS_, hk_⟩; replace BL := Aside0.mk (hk_.blk BL.out NE3.out.symm (by simp)); replace BR := Aside0.mk (hk_.blk BR.out NE1.out (by simp)); replace HS := Aside0.mk hS_; replace HI := Aside0.mk (Kd.R_keep HI.out hk_ (fun _ h => h)); replace HU := Aside0.mk (Kd.S_keep HU.out hk_ (fun _ h => h)); clear s0 s1_; clear hS_ hk_))
            obtain ⟨Ar, cr, rb_, rc_, rl_⟩ := HS.out.box
            have RC := Aside0.mk rc_
            have RL := Aside0.mk rl_
            obtain ⟨s0, s1_, t0_, t1_⟩ := box2 rb_
            clear rb_ rc_ rl_
            dsimp only at s0 s1_ RC RL
            cases b1 with
            | true =>
              have TN : T = none := HT.out.symm.trans (by rw [← RD.out, rD_no1 DN.out]; rfl)
              obtain ⟨y0, y1, y2, y3, y4, y5, y6, y7⟩ := frz8 BR.out; obtain ⟨x0, x1, x2, x3, x4, x5, x6, x7⟩ := box8 BR.out
              go_wp2
              refine bodyPost_ret (results_ct rfl _ _ g2 45 #[.int .i64 0, .int .i64 0, .int .i64 0, .int .i64 0, .int .i64 0, .int .i64 0, .slice none 0 0, .slice none 0 0] (0, 0) _ rfl (set8 BR.out) Try.underlying45 rfl (by kernel_rfl)) rfl ?_
              subst TN
              exact ⟨bel8 HS.out.bel G2.out, rfl⟩
            | false =>
              by_cases hsh : l1.length < kk
              · have TN : T = none := HT.out.symm.trans (by rw [← RD.out, rD_no2 DN.out DV.out hsh]; rfl)
                have hshb : decide ((l1.length : Int) < (kk : Int)) = true := decide_eq_true (by omega)
                have hshc : decide (l1.length < kk) = true := decide_eq_true hsh
                obtain ⟨y0, y1, y2, y3, y4, y5, y6, y7⟩ := frz8 BR.out; obtain ⟨x0, x1, x2, x3, x4, x5, x6, x7⟩ := box8 BR.out
                go_wp2
                refine bodyPost_ret (results_ct rfl _ _ g2 45 #[.int .i64 0, .int .i64 0, .int .i64 0, .int .i64 0, .int .i64 0, .int .i64 0, .slice none 0 0, .slice none 0 0] (0, 0) _ rfl (set8 BR.out) Try.underlying45 rfl (by kernel_rfl)) rfl ?_
                subst TN
                exact ⟨bel8 HS.out.bel G2.out, rfl⟩
              · have hshb : decide ((l1.length : Int) < (kk : Int)) = false := decide_eq_false (by omega)
                have hshc : decide (l1.length < kk) = false := decide_eq_false hsh
                obtain ⟨q, hq⟩ : ∃ q, q = l1.take kk := ⟨_, rfl⟩
                have hql : q.length = kk := by rw [hq, List.length_take]; omega
                have hqb : Byts q := fun x hx => OKN.out.1 x (List.mem_of_mem_take (hq ▸ hx))
                obtain ⟨x, hx⟩ : ∃ x, recQ q = x := ⟨_, rfl⟩
                obtain ⟨er, her⟩ : ∃ e, errQ q = e := ⟨_, rfl⟩
                have HQX := Aside0.mk hx
                have HQE := Aside0.mk her
                have QB := Aside0.mk hqb
                have HQ := Aside0.mk hq
                have QL := Aside0.mk hql
                have NSH := Aside0.mk hsh
                obtain ⟨i0, hi0, _, hsz0, _⟩ := info_parts info5
                have hcut := cut_to (P := Try.prog) 26 5 .i64 Try.underlying26 hi0 Ar l1.length cr (kk : Int) (by omega) (by omega) RL.out
                rw [Int.toNat_natCast] at hcut
                have CQ := Aside0.mk (show (Kd.int .u8).C w Ar q.length q from by have := Kd.C_take (m := kk) RC.out (by omega); first | (rw [← hq] at this; exact this) | (rw [← hq, ← hql] at this; exact this))
                have LQ := Aside0.mk (show q.length ≤ cr from by have := RL.out; omega)
                have jb0 := eq_true (show (0 : Int) ≤ (kk : Int) by omega)
                have jb1 := eq_true (show (kk : Int) ≤ (l1.length : Int) by omega)
                clear hx her hqb hq hql hsh hi0 hsz0
                go_upto_region 17 with (first | (go_at_call 13; (with_reducible refine (readrec.calls Ar cr q kk QL.out _ ?s1 LQ.out QB.out ?s2 x HQX.out er HQE.out).mono ?_); (case s1 => exact Kd.C_below CQ.out HS.out.bel); (case s2 => have := QL.out; have := KL.out; omega); rintro e5 w13 ⟨v9, rfl, ho_, hb_⟩; obtain ⟨A9, c9, rfl, _, _⟩ := Kd.R_reads ho_; have lt_gr := Aside0.mk (by obtain ⟨_, _, hx_, _⟩ := HS.out.box; exact blk_lt hx_ : gr < w12.heap.size); replace BL := Aside0.mk (blk_below BL.out hb_); replace BR := Aside0.mk (blk_below BR.out hb_); replace HI := Aside0.mk (Kd.R_below HI.out hb_); replace HU := Aside0.mk (Kd.S_elder' HU.out (Kd.R_base ho_) hb_); have HX := Aside0.mk (Kd.R_lower (Kd.R_mono (ok' := fun k_ => k_ ≠ gr) (Kd.R_bound ho_) (fun k_ hk_ => by have := lt_gr.out; have := hk_.2.1; omega)) HS.out.bel.size); replace HS := Aside0.mk (HS.out.keep (hb_.block _ lt_gr.out) (below_step HS.out.bel hb_)); clear ho_ hb_ lt_gr s0 s1_ t0_ t1_) | ((with_reducible refine gate_dst (N := 11) rfl ?_); refine box_event ?hg (N := 11) ?hd (cs := #[.int .i64 0, .int .i64 0, .int .i64 0, .int .i64 0, .int .i64 0, .int .i64 0, .int .i64 0, .bool false, .int .i64 0, .slice none 0 0]) (t := 28) ?hr ?_; (case hd => rfl); (case hg => rfl); (case hr => first | (go_simp; done) | (go_simp; rfl)); intro g8 hg w14 hbox hb; have NB1 := Aside0.mk (by have := blk_lt BL.out; rw [hg]; omega : gl ≠ g8); have NB2 := Aside0.mk (by have := blk_lt BR.out; rw [hg]; omega : g2 ≠ g8); have lt_gr := Aside0.mk (by obtain ⟨_, _, hx_, _⟩ := HS.out.box; exact blk_lt hx_ : gr < w13.heap.size); have NB3 := Aside0.mk (by have := lt_gr.out; rw [hg]; omega : gr ≠ g8); have G8 := Aside0.mk (by rw [hg]; exact HS.out.bel.size : w.heap.size ≤ g8); replace BL := Aside0.mk (blk_below BL.out hb); replace BR := Aside0.mk (blk_below BR.out hb); replace HI := Aside0.mk (Kd.R_below (Kd.R_elderB HI.out g8 (Nat.le_of_eq hg.symm)) hb); replace HU := Aside0.mk (Kd.S_below (Kd.S_elderB HU.out g8 (Nat.le_of_eq hg.symm)) hb); replace HX := Aside0.mk (Kd.R_below (Kd.R_elderB HX.out g8 (Nat.le_of_eq hg.symm)) hb); replace HS := Aside0.mk (HS.out.keep (hb.block _ lt_gr.out) (below_step HS.out.bel hb)); have BX := Aside0.mk hbox; obtain ⟨hz0, hz1, hz2, hz3, hz4, hz5, hz6, hz7, hz8, hz9⟩ := box10 hbox; obtain ⟨hf0, hf1, hf2, hf3, hf4, hf5, hf6, hf7, hf8, hf9⟩ := frz10 hbox; clear hbox hb hg lt_gr))
                have BX_ := Aside0.mk (show (((((((((((w14.setCell ⟨g8, 0, none⟩ (.int .i64 x.f0.f0)).setCell ⟨g8, 1, none⟩ (.int .i64 x.f0.f1)).setCell ⟨g8, 2, none⟩ (.int .i64 x.f1.f0)).setCell ⟨g8, 3, none⟩ (.int .i64 x.f1.f1)).setCell ⟨g8, 4, none⟩ (.int .i64 x.f1.f2)).setCell ⟨g8, 5, none⟩ (.int .i64 x.f2)).setCell ⟨g8, 6, none⟩ (.int .i64 x.f3)).setCell ⟨g8, 7, none⟩ (.bool x.f4)).setCell ⟨g8, 8, none⟩ (.int .i64 x.f5)).setCell ⟨g8, 9, none⟩ (.slice A9 x.f6.length c9))).heap[g8]? = some (.cells #[.int .i64 x.f0.f0, .int .i64 x.f0.f1, .int .i64 x.f1.f0, .int .i64 x.f1.f1, .int .i64 x.f1.f2, .int .i64 x.f2, .int .i64 x.f3, .bool x.f4, .int .i64 x.f5, .slice A9 x.f6.length c9] 28 (0, 0)) from set10 BX.out)
                have BL_ := Aside0.mk ((oth10 NB1.out).trans BL.out : (((((((((((w14.setCell ⟨g8, 0, none⟩ (.int .i64 x.f0.f0)).setCell ⟨g8, 1, none⟩ (.int .i64 x.f0.f1)).setCell ⟨g8, 2, none⟩ (.int .i64 x.f1.f0)).setCell ⟨g8, 3, none⟩ (.int .i64 x.f1.f1)).setCell ⟨g8, 4, none⟩ (.int .i64 x.f1.f2)).setCell ⟨g8, 5, none⟩ (.int .i64 x.f2)).setCell ⟨g8, 6, none⟩ (.int .i64 x.f3)).setCell ⟨g8, 7, none⟩ (.bool x.f4)).setCell ⟨g8, 8, none⟩ (.int .i64 x.f5)).setCell ⟨g8, 9, none⟩ (.slice A9 x.f6.length c9))).heap[gl]? = _)
                have BR_ := Aside0.mk ((oth10 NB2.out).trans BR.out : (((((((((((w14.setCell ⟨g8, 0, none⟩ (.int .i64 x.f0.f0)).setCell ⟨g8, 1, none⟩ (.int .i64 x.f0.f1)).setCell ⟨g8, 2, none⟩ (.int .i64 x.f1.f0)).setCell ⟨g8, 3, none⟩ (.int .i64 x.f1.f1)).setCell ⟨g8, 4, none⟩ (.int .i64 x.f1.f2)).setCell ⟨g8, 5, none⟩ (.int .i64 x.f2)).setCell ⟨g8, 6, none⟩ (.int .i64 x.f3)).setCell ⟨g8, 7, none⟩ (.bool x.f4)).setCell ⟨g8, 8, none⟩ (.int .i64 x.f5)).setCell ⟨g8, 9, none⟩ (.slice A9 x.f6.length c9))).heap[g2]? = _)
                have HS_ := Aside0.mk (show DS w (((((((((((w14.setCell ⟨g8, 0, none⟩ (.int .i64 x.f0.f0)).setCell ⟨g8, 1, none⟩ (.int .i64 x.f0.f1)).setCell ⟨g8, 2, none⟩ (.int .i64 x.f1.f0)).setCell ⟨g8, 3, none⟩ (.int .i64 x.f1.f1)).setCell ⟨g8, 4, none⟩ (.int .i64 x.f1.f2)).setCell ⟨g8, 5, none⟩ (.int .i64 x.f2)).setCell ⟨g8, 6, none⟩ (.int .i64 x.f3)).setCell ⟨g8, 7, none⟩ (.bool x.f4)).setCell ⟨g8, 8, none⟩ (.int .i64 x.f5)).setCell ⟨g8, 9, none⟩ (.slice A9 x.f6.length c9))) gr (l1, false) from HS.out.keep (oth10 NB3.out) (bel10 HS.out.bel G8.out))
                have HI_ := Aside0.mk (show Kd.R (Kd.int .i64) 3 (((((((((((w14.setCell ⟨g8, 0, none⟩ (.int .i64 x.f0.f0)).setCell ⟨g8, 1, none⟩ (.int .i64 x.f0.f1)).setCell ⟨g8, 2, none⟩ (.int .i64 x.f1.f0)).setCell ⟨g8, 3, none⟩ (.int .i64 x.f1.f1)).setCell ⟨g8, 4, none⟩ (.int .i64 x.f1.f2)).setCell ⟨g8, 5, none⟩ (.int .i64 x.f2)).setCell ⟨g8, 6, none⟩ (.int .i64 x.f3)).setCell ⟨g8, 7, none⟩ (.bool x.f4)).setCell ⟨g8, 8, none⟩ (.int .i64 x.f5)).setCell ⟨g8, 9, none⟩ (.slice A9 x.f6.length c9))) _ _ _ _ from Kd.R_step HI.out (fun k_ hk_ _ => oth10 hk_.2))
                have HX_ := Aside0.mk (show Kd.R (Kd.int .u8) 5 (((((((((((w14.setCell ⟨g8, 0, none⟩ (.int .i64 x.f0.f0)).setCell ⟨g8, 1, none⟩ (.int .i64 x.f0.f1)).setCell ⟨g8, 2, none⟩ (.int .i64 x.f1.f0)).setCell ⟨g8, 3, none⟩ (.int .i64 x.f1.f1)).setCell ⟨g8, 4, none⟩ (.int .i64 x.f1.f2)).setCell ⟨g8, 5, none⟩ (.int .i64 x.f2)).setCell ⟨g8, 6, none⟩ (.int .i64 x.f3)).setCell ⟨g8, 7, none⟩ (.bool x.f4)).setCell ⟨g8, 8, none⟩ (.int .i64 x.f5)).setCell ⟨g8, 9, none⟩ (.slice A9 x.f6.length c9))) _ _ _ _ from Kd.R_step HX.out (fun k_ hk_ _ => oth10 hk_.2))
                have HU_ := Aside0.mk (show Kd.S k28 28 (((((((((((w14.setCell ⟨g8, 0, none⟩ (.int .i64 x.f0.f0)).setCell ⟨g8, 1, none⟩ (.int .i64 x.f0.f1)).setCell ⟨g8, 2, none⟩ (.int .i64 x.f1.f0)).setCell ⟨g8, 3, none⟩ (.int .i64 x.f1.f1)).setCell ⟨g8, 4, none⟩ (.int .i64 x.f1.f2)).setCell ⟨g8, 5, none⟩ (.int .i64 x.f2)).setCell ⟨g8, 6, none⟩ (.int .i64 x.f3)).setCell ⟨g8, 7, none⟩ (.bool x.f4)).setCell ⟨g8, 8, none⟩ (.int .i64 x.f5)).setCell ⟨g8, 9, none⟩ (.slice A9 x.f6.length c9))) _ _ _ _ from Kd.S_step HU.out (fun k_ hk_ _ => oth10 hk_.2))
                clear HS BL BR BX HI HX HU hz0 hz1 hz2 hz3 hz4 hz5 hz6 hz7 hz8 hz9 hf0 hf1 hf2 hf3 hf4 hf5 hf6 hf7 hf8 hf9 hcut jb0 jb1 hshb hshc
                generalize ((((((((((w14.setCell ⟨g8, 0, none⟩ (.int .i64 x.f0.f0)).setCell ⟨g8, 1, none⟩ (.int .i64 x.f0.f1)).setCell ⟨g8, 2, none⟩ (.int .i64 x.f1.f0)).setCell ⟨g8, 3, none⟩ (.int .i64 x.f1.f1)).setCell ⟨g8, 4, none⟩ (.int .i64 x.f1.f2)).setCell ⟨g8, 5, none⟩ (.int .i64 x.f2)).setCell ⟨g8, 6, none⟩ (.int .i64 x.f3)).setCell ⟨g8, 7, none⟩ (.bool x.f4)).setCell ⟨g8, 8, none⟩ (.int .i64 x.f5)).setCell ⟨g8, 9, none⟩ (.slice A9 x.f6.length c9)) = w15 at BX_ BL_ BR_ HS_ HI_ HX_ HU_ ⊢
                have HS := HS_
                have BL := BL_
                have BR := BR_
                have BX := BX_
                have HI := HI_
                have HX := HX_
                have HU := HU_
                clear HS_ BL_ BR_ BX_ HI_ HX_ HU_
                by_cases he : er = 0
                · subst he
                  obtain ⟨Ar, cr, rb_, rc_, rl_⟩ := HS.out.box
                  obtain ⟨s0, s1_, t0_, t1_⟩ := box2 rb_
                  dsimp only at rb_ rc_ rl_ s0 s1_
                  obtain ⟨i0, hi0, _, hsz0, _⟩ := info_parts info5
                  obtain ⟨Ad, hcut, hA_, hC_⟩ := print_drop_of (P := Try.prog) (Value.int .u8) 0 26 5 .i64 Try.underlying26 hi0 hsz0 Ar cr l1 (kk : Int) (by omega) (by have := NSH.out; omega) rl_
                  rw [Int.toNat_natCast] at hcut hA_ hC_
                  have RB := Aside0.mk rb_
                  have RLx := Aside0.mk rl_
                  have CD := Aside0.mk (show (Kd.int .u8).C w Ad (l1.drop kk).length (l1.drop kk) from Kd.C_of_reads (h1 := fun _ => rfl) (hA_ _ (Kd.reads_of_C rc_)))
                  have jb0 := eq_true (show (0 : Int) ≤ (kk : Int) by omega)
                  have jb1 := eq_true (show (kk : Int) ≤ (l1.length : Int) by have := NSH.out; omega)
                  clear rb_ rc_ rl_ hA_ hC_ hi0 hsz0
                  go_upto_region 20 with (fail)
                  have HS_ := Aside0.mk (show DS w (w15.setCell ⟨gr, 0, none⟩ (.slice Ad (l1.length - kk) (cr - kk))) gr (l1.drop kk, false) from ⟨⟨Ad, cr - kk, by rw [show ((l1.drop kk, false) : State).1.length = l1.length - kk from List.length_drop]; exact blk_put RB.out 0 _ rfl, CD.out, by show (l1.drop kk).length ≤ _; rw [List.length_drop]; have := RLx.out; omega⟩, below_set HS.out.bel GR.out, GR.out⟩)
                  have BL_ := Aside0.mk ((Below.heap_setCell w15 (⟨gr, 0, none⟩ : Addr) (.slice Ad (l1.length - kk) (cr - kk)) gl NE3.out.symm).trans BL.out)
                  have BR_ := Aside0.mk ((Below.heap_setCell w15 (⟨gr, 0, none⟩ : Addr) (.slice Ad (l1.length - kk) (cr - kk)) g2 NE1.out).trans BR.out)
                  have BX_ := Aside0.mk ((Below.heap_setCell w15 (⟨gr, 0, none⟩ : Addr) (.slice Ad (l1.length - kk) (cr - kk)) g8 NB3.out.symm).trans BX.out)
                  have HI_ := Aside0.mk (Kd.R_far (p := ⟨gr, 0, none⟩) HI.out (fun k_ hk_ => hk_.1) (.slice Ad (l1.length - kk) (cr - kk)))
                  have HX_ := Aside0.mk (Kd.R_far (p := ⟨gr, 0, none⟩) HX.out (fun k_ hk_ => hk_.1) (.slice Ad (l1.length - kk) (cr - kk)))
                  have HU_ := Aside0.mk (Kd.S_far (p := ⟨gr, 0, none⟩) HU.out (fun k_ hk_ => hk_.1.1) (.slice Ad (l1.length - kk) (cr - kk)))
                  clear HS BL BR BX HI HX HU RB RLx CD hcut jb0 jb1 s0 s1_ t0_ t1_
                  generalize w15.setCell ⟨gr, 0, none⟩ (.slice Ad (l1.length - kk) (cr - kk)) = w17 at HS_ BL_ BR_ BX_ HI_ HX_ HU_ ⊢
                  have HS := HS_
                  have BL := BL_
                  have BR := BR_
                  have BX := BX_
                  have HI := HI_
                  have HX := HX_
                  have HU := HU_
                  clear HS_ BL_ BR_ BX_ HI_ HX_ HU_
                  replace RD := Aside0.mk ((rD_go DN.out DV.out NSH.out (by rw [← HQ.out]; exact HQE.out)).symm.trans RD.out)
                  rw [← HQ.out, HQX.out] at RD
                  obtain ⟨Q, hQ⟩ : ∃ Q, acc ++ [x] = Q := ⟨_, rfl⟩
                  rw [hQ] at RD
                  have QE := Aside0.mk hQ
                  clear hQ
                  have OKd := Aside0.mk (show okB (l1.drop kk, false) from ⟨fun z hz => OKN.out.1 z (List.mem_of_mem_drop hz), by show (l1.drop kk).length < _; have := OKN.out.2; rw [List.length_drop]; dsimp only at this; omega⟩)
                  obtain ⟨l2, hl2⟩ : ∃ l2, l1.drop kk = l2 := ⟨_, rfl⟩
                  rw [hl2] at RD HS OKd
                  clear hl2
                  obtain ⟨hz0, hz1, hz2, hz3, hz4, hz5, hz6, hz7, hz8, hz9⟩ := box10 BX.out
                  have y7 : w17.cell? ⟨gl, 7, none⟩ = some ur := (blk_cell BL.out 7).trans rfl
                  go_wp2_with ((with_reducible refine gate_builtin (b := .append) (xs := #[.tmp 107, .tmp 109]) rfl ?_); at_builtin; refine Kd.S_append k28 (w0 := w) w.heap.size rfl (.tmp 107) (.tmp 109) 43 28 (.agg #[(.int .i64 0), (.int .i64 0), (.int .i64 0), (.int .i64 0), (.int .i64 0), (.int .i64 0), (.int .i64 0), (.bool false), (.int .i64 0), (.slice none 0 0)]) 96 rfl Try.underlying43 info28 rfl (by decide) (by omega) ur acc x [.int .i64 x.f0.f0, .int .i64 x.f0.f1, .int .i64 x.f1.f0, .int .i64 x.f1.f1, .int .i64 x.f1.f2, .int .i64 x.f2, .int .i64 x.f3, .bool x.f4, .int .i64 x.f5, .slice A9 x.f6.length c9] (fun k_ => k_ ≠ gr ∧ k_ ≠ g8) (fun k_ => some k_ = (.slice A9 x.f6.length c9 : Value).ownBlock) rfl rfl ?aP (fun k_ hk_ => (Kd.R_mono (ok' := fun k_ => (fun k_ => k_ ≠ gr ∧ k_ ≠ g8) k_ ∧ some k_ ≠ (ur : Value).ownBlock) (Kd.R_apart' HX.out (Kd.S_typed HU.out) (by decide)) (fun k_ hk => ⟨hk.1, hk.2⟩)).1 k_ hk_.symm) ?aF ?aO ?aB ?aS ?aL ?_; (case aP => exact k28_mkM _ _ _ x (Kd.R_mono (Kd.R_tight rfl (Kd.R_mono (ok' := fun k_ => (fun k_ => k_ ≠ gr ∧ k_ ≠ g8) k_ ∧ some k_ ≠ (ur : Value).ownBlock) (Kd.R_apart' HX.out (Kd.S_typed HU.out) (by decide)) (fun k_ hk => ⟨hk.1, hk.2⟩))) (fun _ h_ => h_))); (case aB => exact HS.out.bel); (case aF => exact (fun k_ hk_ => by have h1 := blk_lt BX.out; obtain ⟨_, _, hx_, _⟩ := HS.out.box; have h2 := blk_lt hx_; omega)); (case aO => exact Kd.S_mono HU.out (fun k_ hk => ⟨⟨hk.1.1, hk.2⟩, fun e_ => hk.1.2 e_⟩)); (case aS => exact HS.out.bel.size); (case aL => have := ML.out; have := AL.out; have := E1.out; omega); intro u2 w18 ho hb hg hat; rw [QE.out] at ho; have lt_gr := Aside0.mk (by obtain ⟨_, _, hx_, _⟩ := HS.out.box; exact blk_lt hx_ : gr < w17.heap.size); have ne_gr := Aside0.mk (by obtain ⟨_, _, hx_, _⟩ := HS.out.box; exact Kd.S_ne HU.out hx_ (by decide) : some gr ≠ (ur : Value).ownBlock); replace HI := Aside0.mk (Kd.R_over' HI.out (Kd.S_typed HU.out) (by decide) hg); replace BL := Aside0.mk (blk_grown BL.out hg (Kd.S_ne HU.out BL.out (by decide))); replace BR := Aside0.mk (blk_grown BR.out hg (Kd.S_ne HU.out BR.out (by decide))); replace HS := Aside0.mk (HS.out.keep (hg.block _ lt_gr.out ne_gr.out) hb); replace HU := Aside0.mk ho; obtain ⟨Au2, cu2, rfl, _, _⟩ := Kd.S_reads ho; clear y7; have y7 : w18.cell? ⟨gl, 7, none⟩ = some ur := (blk_cell BL.out 7).trans rfl; have y8 := blk_frozen BL.out 7; clear ho hb hg hat lt_gr ne_gr)
                  go_roundg d
                  case measure => omega
                  case rel => exact ⟨i + 1, _, (l2, false), Q, by go_num, ⟨by have := E1.out; omega⟩, ⟨by have := AL.out; rw [← QE.out, List.length_append, List.length_singleton]; omega⟩, ⟨RD.out⟩, ⟨OKd.out⟩, ⟨HS.out.keep (Below.heap_setCell _ _ _ _ NE3.out) (below_set HS.out.bel GL.out)⟩, ⟨blk_put BL.out 7 _ rfl⟩, ⟨(Below.heap_setCell _ _ _ _ NE2.out).trans BR.out⟩, ⟨Kd.R_mono (Kd.R_set HI.out BL.out (by decide) 7 _) (fun _ h => h.1)⟩, ⟨Kd.S_mono (Kd.S_set HU.out BL.out (by decide) 7 _) (fun _ h => h.1)⟩⟩
                · have TN : T = none := HT.out.symm.trans (by rw [← RD.out, rD_no3 DN.out DV.out NSH.out (by rw [← HQ.out, HQE.out]; exact he)]; rfl)
                  obtain rfl : er = 2 := by rcases errQ_or QB.out (by have := QL.out; have := KL.out; omega) with h | h; exact absurd (HQE.out.symm.trans h) he; exact HQE.out.symm.trans h
                  obtain ⟨y0, y1, y2, y3, y4, y5, y6, y7⟩ := frz8 BR.out; obtain ⟨x0, x1, x2, x3, x4, x5, x6, x7⟩ := box8 BR.out
                  go_wp2
                  refine bodyPost_ret (results_ct rfl _ _ g2 45 #[.int .i64 0, .int .i64 0, .int .i64 0, .int .i64 0, .int .i64 0, .int .i64 0, .slice none 0 0, .slice none 0 0] (0, 0) _ rfl (set8 BR.out) Try.underlying45 rfl (by kernel_rfl)) rfl ?_
                  subst TN
                  exact ⟨bel8 HS.out.bel G2.out, rfl⟩
    case rest =>
      clear HS BL BR HI RT OK1 SN0 ML
      obtain ⟨ur, R, ⟨l, b⟩, TE, HS, BL, BR, HI, HU⟩ := hcut
      rw [TE.out] at HT
      clear TE
      obtain ⟨Aq, cq, rfl, _, _⟩ := Kd.S_reads HU.out
      obtain ⟨X, ⟨K, hK_⟩, yes_, no_⟩ := LB_ev v0 v1 v2 v3 v4 v5 P R
      have HX := Aside0.mk (hK_ K (Nat.le_refl _))
      have YES := Aside0.mk yes_
      have NO := Aside0.mk no_
      clear hK_ yes_ no_
      obtain ⟨z0, z1, z2, z3, z4, z5, z6, z7⟩ := box8 BL.out
      go_upto_region 22 with ((go_at_call 23; (with_reducible refine (zq_LetterBytes.calls K v0 v1 v2 v3 v4 v5 Au cu P Aq cq R X _ ?s1 ?s2 ?s3 ?s4 HX.out).mono ?_); (case s1 => exact (Kd.R_reads' HI.out).2.2); (case s2 => exact (Kd.R_reads' HI.out).2.1); (case s3 => exact (Kd.S_reads' HU.out).2.2); (case s4 => exact (Kd.S_reads' HU.out).2.1); rintro e5 w20 ⟨vy, rfl, ho_, hb_⟩; replace BL := Aside0.mk (blk_below BL.out hb_); replace BR := Aside0.mk (blk_below BR.out hb_); replace HI := Aside0.mk (Kd.R_below HI.out hb_); replace HU := Aside0.mk (Kd.S_below HU.out hb_); have lt_gr := (by obtain ⟨_, _, hx_, _⟩ := HS.out.box; exact blk_lt hx_ : gr < wc.heap.size); replace HS := Aside0.mk (HS.out.keep (hb_.block _ lt_gr) (below_step HS.out.bel hb_)); have HY := Aside0.mk ho_; clear hb_ ho_ lt_gr z0 z1 z2 z3 z4 z5 z6 z7))
      obtain ⟨Ay, cy, ey⟩ := Kd.R_slice HY.out
      subst ey
      have hcv1 := own_string (P := Try.prog) Try.underlying26 Try.underlying5 Try.underlying9 (Kd.own_of_R HY.out)
      have hcv2 := Kd.C_string (P := Try.prog) (A := A) (c := c) Try.underlying26 Try.underlying5 Try.underlying9 (Kd.C_below HC.out HS.out.bel)
      replace HU := Aside0.mk (Kd.S_mono (Kd.S_types HU.out BR.out (by decide)) (fun _ h => h) : Kd.S k28 28 w20 w.heap.size (fun k_ => k_ ≠ gr ∧ k_ ≠ g2) _ R)
      replace HI := Aside0.mk (Kd.R_types HI.out BR.out (by decide) : Kd.R (Kd.int .i64) 3 w20 w.heap.size (fun k_ => k_ ≠ gr ∧ k_ ≠ g2) _ P)
      obtain ⟨Ar, cr, rb_, _, _⟩ := HS.out.box
      obtain ⟨s0, s1_, _, _⟩ := box2 rb_
      clear rb_
      dsimp only at s0 s1_
      obtain ⟨z0, z1, z2, z3, z4, z5, z6, z7⟩ := box8 BL.out
      obtain ⟨y0, y1, y2, y3, y4, y5, y6, y7⟩ := frz8 BR.out; obtain ⟨x0, x1, x2, x3, x4, x5, x6, x7⟩ := box8 BR.out
      cases b with
      | true =>
        have TN : T = none := HT.out.symm.trans (by unfold fin9; exact @if_pos _ (Classical.propDecidable _) (.inl rfl) _ _ _)
        go_wp2
        refine bodyPost_ret (results_ct rfl _ _ g2 45 #[.int .i64 0, .int .i64 0, .int .i64 0, .int .i64 0, .int .i64 0, .int .i64 0, .slice none 0 0, .slice none 0 0] (0, 0) _ rfl (set8 BR.out) Try.underlying45 rfl (by kernel_rfl)) rfl ?_
        subst TN
        exact ⟨bel8 HS.out.bel G2.out, rfl⟩
      | false =>
        by_cases hok : okL v0 v1 v2 v3 v4 v5 P R
        · have hX := YES.out hok
          have hxl : ¬ X.length = 0 := by rw [hX]; exact Nat.succ_ne_zero _
          have hyz : ((X.length : Int) == 0) = false := beq_eq_false_iff_ne.2 (by omega)
          have hyn : ¬ X = [] := fun h => hxl (by rw [h]; rfl)
          by_cases hst : (strOfNums X).toList = (strOfNums bs).toList
          · have hsz : ((strOfNums X).toList == (strOfNums bs).toList) = true := beq_iff_eq.2 hst
            have TN : T = some ⟨v0, v1, v2, v3, v4, v5, P, R⟩ := HT.out.symm.trans (by unfold fin9; exact @if_neg _ (Classical.propDecidable _) (by rintro (h | h | h); exact absurd h (show ¬ (false = true) by decide); exact h hok; exact h (by rw [← hX]; exact hst)) _ _ _)
            clear hX hxl YES NO hst
            go_wp2
            refine bodyPost_ret (results_ct rfl _ _ g2 45 #[.int .i64 v0, .int .i64 v1, .int .i64 v2, .int .i64 v3, .int .i64 v4, .int .i64 v5, .slice Au P.length cu, .slice Aq R.length cq] (0, 0) _ rfl (set8 BR.out) Try.underlying45 rfl (by kernel_rfl)) rfl ?_
            subst TN
            exact ⟨bel8 HS.out.bel G2.out, _, _, rfl, Kd.R_mono (Kd.R_step HI.out (fun k_ hk_ _ => oth8 (fun e_ => hk_.2 e_))) (fun _ _ => trivial), Kd.S_mono (Kd.S_step HU.out (fun k_ hk_ _ => oth8 (fun e_ => hk_.2 e_))) (fun _ _ => trivial)⟩
          · have hsz : ((strOfNums X).toList == (strOfNums bs).toList) = false := beq_eq_false_iff_ne.2 hst
            have TN : T = none := HT.out.symm.trans (by unfold fin9; exact @if_pos _ (Classical.propDecidable _) (.inr (.inr (by rw [← hX]; exact hst))) _ _ _)
            clear hX hxl YES NO hst
            go_wp2
            refine bodyPost_ret (results_ct rfl _ _ g2 45 #[.int .i64 0, .int .i64 0, .int .i64 0, .int .i64 0, .int .i64 0, .int .i64 0, .slice none 0 0, .slice none 0 0] (0, 0) _ rfl (set8 BR.out) Try.underlying45 rfl (by kernel_rfl)) rfl ?_
            subst TN
            exact ⟨bel8 HS.out.bel G2.out, rfl⟩
        · have TN : T = none := HT.out.symm.trans (by unfold fin9; exact @if_pos _ (Classical.propDecidable _) (.inr (.inl hok)) _ _ _)
          have hX := NO.out hok
          subst hX
          clear YES NO
          go_wp2
          refine bodyPost_ret (results_ct rfl _ _ g2 45 #[.int .i64 0, .int .i64 0, .int .i64 0, .int .i64 0, .int .i64 0, .int .i64 0, .slice none 0 0, .slice none 0 0] (0, 0) _ rfl (set8 BR.out) Try.underlying45 rfl (by kernel_rfl)) rfl ?_
          subst TN
          exact ⟨bel8 HS.out.bel G2.out, rfl⟩
end Go.Proofs.Ytjcfmfdkligmoaa.Rm
