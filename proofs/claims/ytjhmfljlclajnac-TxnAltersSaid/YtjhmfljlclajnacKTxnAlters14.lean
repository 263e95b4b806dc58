/- The contracts of the reference's Alter, whole. (gen_altl.py) An altered transaction's lists are no longer than they may be. No program in sight. The walk of the law TxnAlters. -/
import Derived.Test.YtjhmfljlclajnacKTxnAlters11
import Derived.Test.YtjhmfljlclajnacKTxnAlters12
import Derived.Test.YtjhmfljlclajnacKTxnAlters13
import Derived.Test.YtjhmfljlclajnacKTxnAlters5
import Derived.Test.YtjhmfljlclajnacKTxnAlters6
import Derived.Test.YtjhmfljlclajnacKTxnAlters7
import Derived.Test.YtjhmfljlclajnacKTxnAlters9
namespace Wb
open Go Go.RowKit
theorem AltOk.new {w w' : World} {T t' : Txn} {e : Ending} {E : Int} (h : AltOk w t' e w') (hT : T = t') (hE : E = 0) (vm vd vr : Value) (t : Txn) : ∃ vm' vd' vr', e = .returned (.tuple #[txnV T vm' vd' vr', .int .i64 E]) ∧ NewT w.heap.size w' vm vd vr vm' vd' vr' t T ∧ Below w.heap.size w w' := by
  subst hT; subst hE
  obtain ⟨a, b, c, rfl, h1, h2, h3, h4⟩ := h
  exact ⟨a, b, c, rfl, ⟨.inr h1, .inr h2, .inr h3⟩, h4⟩
theorem alt_same {w w' : World} {T t : Txn} {e : Ending} {E k : Int} {vm vd vr : Value} (h : e = .returned (.tuple #[txnV t vm vd vr, .int .i64 k]) ∧ Below w.heap.size w w') (hT : E = k ∧ T = t) : ∃ vm' vd' vr', e = .returned (.tuple #[txnV T vm' vd' vr', .int .i64 E]) ∧ NewT w.heap.size w' vm vd vr vm' vd' vr' t T ∧ Below w.heap.size w w' := by
  obtain ⟨rfl, rfl⟩ := hT
  obtain ⟨rfl, hb⟩ := h
  exact ⟨_, _, _, rfl, .same _ _ _ _ _ _, hb⟩
theorem pay_old {t : Txn} {h b : Int} (ho : owed t b = false) : payE t h b = 0 ∧ payU t h b = t := by
  have e : payE t h b = 0 := by unfold payE; rw [ho]; simp
  exact ⟨e, by rw [payU_zero e]; unfold payT; rw [ho]; simp⟩
theorem pay_new {t : Txn} {h b : Int} (ho : owed t b = true) (hl : ¬ (getH t h).left = 0) : payE t h b = 0 ∧ payU t h b = setH t h ⟨(getH t h).on, (getH t h).left - 1⟩ := by
  have e : payE t h b = 0 := by unfold payE; rw [if_neg (fun x => hl x.2)]
  exact ⟨e, by rw [payU_zero e]; unfold payT; rw [if_pos ho]⟩
theorem pay_none {t : Txn} {h b : Int} (ho : owed t b = true) (hl : (getH t h).left = 0) : payE t h b = 7 := by unfold payE; rw [if_pos ⟨ho, hl⟩]
theorem ne32b {s : ByteArray} (h : ¬ s.size = 32) : ((s.size : Int) != 32) = true := by
  simp only [bne_iff_ne, ne_eq]; omega
theorem ne32c {s : ByteArray} (h : s.size = 32) : ((s.size : Int) != 32) = false := by rw [h]; rfl
end Wb
namespace Go.Proofs.Ytjhmfljlclajnac
open Go.RowKit Wb
set_option linter.unusedVariables false
set_option linter.unusedSimpArgs false
set_option maxRecDepth 100000
set_option maxHeartbeats 8000000
theorem ref_Alter_chg (t : Txn) (h b : Int) (s : ByteArray) (vm vd vr : Value) (w : World) (ht : RTxn w (txnV t vm vd vr) t) :
    Calls Try.prog 8 #[.int .i64 0, txnV t vm vd vr, .int .i64 h, .int .i64 b, .string s] w fun e w' => ∃ vm' vd' vr', e = .returned (.tuple #[txnV (chgT t h b s) vm' vd' vr', .int .i64 (chgE t h b s)]) ∧ NewT w.heap.size w' vm vd vr vm' vd' vr' t (chgT t h b s) ∧ Below w.heap.size w w' := by
  obtain ⟨vm', vd', vr', hvv, hm, hd, hr, n1, n2, n3⟩ := ht
  simp only [txnV, Value.agg.injEq, Array.mk.injEq, List.cons.injEq, and_true, true_and] at hvv
  obtain ⟨rfl, rfl, rfl⟩ := hvv
  obtain ⟨am, cm, rfl, _⟩ := hm.form
  obtain ⟨ad, cd, rfl, _⟩ := hd.form
  obtain ⟨ar, cr, rfl, _⟩ := hr.form
  obtain ⟨seq, mt, dt, rev, ⟨o0, x0⟩, ⟨o1, x1⟩, ⟨o2, x2⟩⟩ := t
  dsimp only at hm hd hr n1 n2 n3
  cases hgt : goodT ⟨seq, mt, dt, rev, ⟨o0, x0⟩, ⟨o1, x1⟩, ⟨o2, x2⟩⟩ with
  | false =>
    refine (ref_Alter_bad 0 h seq mt dt rev o0 o1 o2 x0 x1 x2 am ad ar cm cd cr b s w hm hd hr n1 n2 n3 hgt rfl rfl rfl rfl).mono fun e w' hh => alt_same hh ?_
    obtain ⟨e1, e2⟩ := chg_may (s := s) (show ¬ mayE _ h b = 0 by rw [may_bad hgt]; decide)
    exact ⟨e1.trans (may_bad hgt), e2⟩
  | true =>
  have hg := goodT_of.1 hgt
  obtain ⟨l1, l2, l3⟩ := lens hg
  have hbd := hnd_of_good hgt
  dsimp only at l1 l2 l3 hbd
  by_cases hlo : h < 0
  · refine (ref_Alter_low 0 h seq mt dt rev o0 o1 o2 x0 x1 x2 am ad ar cm cd cr b s w hm hd hr l1 l2 l3 hgt rfl rfl rfl rfl hlo).mono fun e w' hh => alt_same hh ?_
    have h4 := may_none (h := h) (b := b) hgt (.inl (by omega))
    obtain ⟨e1, e2⟩ := chg_may (s := s) (show ¬ mayE _ h b = 0 by rw [h4]; decide)
    exact ⟨e1.trans h4, e2⟩
  by_cases hhi : 2 < h
  · refine (ref_Alter_high 0 h seq mt dt rev o0 o1 o2 x0 x1 x2 am ad ar cm cd cr b s w hm hd hr l1 l2 l3 hgt rfl rfl rfl rfl hhi).mono fun e w' hh => alt_same hh ?_
    have h4 := may_none (h := h) (b := b) hgt (.inl (by omega))
    obtain ⟨e1, e2⟩ := chg_may (s := s) (show ¬ mayE _ h b = 0 by rw [h4]; decide)
    exact ⟨e1.trans h4, e2⟩
  obtain (rfl | rfl | rfl) : h = 0 ∨ h = 1 ∨ h = 2 := by omega
  · cases o0 with
    | false =>
      refine (ref_Alter_off0 0 seq mt dt rev true o1 o2 x0 x1 x2 am ad ar cm cd cr b s w hm hd hr l1 l2 l3 hgt rfl rfl rfl rfl).mono fun e w' hh => alt_same hh ?_
      have h4 := may_none (h := 0) (b := b) hgt (.inr (.inl rfl))
      obtain ⟨e1, e2⟩ := chg_may (s := s) (show ¬ mayE _ 0 b = 0 by rw [h4]; decide)
      exact ⟨e1.trans h4, e2⟩
    | true =>
    cases hbk : isBlk b with
    | false =>
      refine (ref_Alter_blk0 0 seq mt dt rev true o1 o2 x0 x1 x2 am ad ar cm cd cr b s w hm hd hr l1 l2 l3 hgt hbk rfl rfl rfl).mono fun e w' hh => alt_same hh ?_
      have h4 := may_none (h := 0) (b := b) hgt (.inr (.inr hbk))
      obtain ⟨e1, e2⟩ := chg_may (s := s) (show ¬ mayE _ 0 b = 0 by rw [h4]; decide)
      exact ⟨e1.trans h4, e2⟩
    | true =>
    have h0 := may_ok (h := 0) (b := b) hgt (by decide) rfl hbk
    by_cases hs : s.size = 32
    rotate_left
    · refine (ref_Alter_form00 seq mt dt rev true o1 o2 x0 x1 x2 am ad ar cm cd cr b s w hm hd hr l1 l2 l3 hgt hbk (ne32b hs) rfl rfl rfl).mono fun e w' hh => alt_same hh ?_
      exact chg_form h0 hs
    cases hqd : hasB dt b with
    | true =>
      refine (ref_Alter_chg_role0 seq mt dt rev true o1 o2 x0 x1 x2 am ad ar cm cd cr b s w hm hd hr l1 l2 l3 hgt hbk (ne32c hs) rfl hqd rfl).mono fun e w' hh => alt_same hh ?_
      exact chg_role h0 hs hqd
    | false =>
    have hpw := put_with (b := b) (s := s) hg.mt hbk hs
    have hof := off_is b hg.rev
    cases hqm : hasB mt b with
    | true =>
      refine (ref_Alter_chg_old0 seq mt dt rev true o1 o2 x0 x1 x2 am ad ar cm cd cr b s w hm hd hr l1 l2 l3 hgt hbk (ne32c hs) hqm hqd rfl).mono fun e w' hh => AltOk.new hh ?_ ?_ _ _ _ _
      all_goals
        obtain ⟨p1, p2⟩ := pay_old (t := ⟨seq, mt, dt, rev, ⟨true, x0⟩, ⟨o1, x1⟩, ⟨o2, x2⟩⟩) (h := 0) (b := b) (by unfold owed; simp [hqm])
        obtain ⟨e1, e2⟩ := chg_ok (s := s) h0 hs hqd p1
      · rw [e2, p2]; dsimp only; rw [hpw, hof]
      · exact e1
    | false =>
    cases hqr : inI rev b with
    | true =>
      refine (ref_Alter_chg_was0 seq mt dt rev true o1 o2 x0 x1 x2 am ad ar cm cd cr b s w hm hd hr l1 l2 l3 hgt hbk (ne32c hs) hqm hqd hqr).mono fun e w' hh => AltOk.new hh ?_ ?_ _ _ _ _
      all_goals
        obtain ⟨p1, p2⟩ := pay_old (t := ⟨seq, mt, dt, rev, ⟨true, x0⟩, ⟨o1, x1⟩, ⟨o2, x2⟩⟩) (h := 0) (b := b) (by unfold owed; simp [hqr])
        obtain ⟨e1, e2⟩ := chg_ok (s := s) h0 hs hqd p1
      · rw [e2, p2]; dsimp only; rw [hpw, hof]
      · exact e1
    | false =>
    have how : owed ⟨seq, mt, dt, rev, ⟨true, x0⟩, ⟨o1, x1⟩, ⟨o2, x2⟩⟩ b = true := by unfold owed; simp [hqm, hqr]
    by_cases hx : x0 = 0
    · refine (ref_Alter_chg_credit0 seq mt dt rev true o1 o2 x0 x1 x2 am ad ar cm cd cr b s w hm hd hr l1 l2 l3 hgt hbk (ne32c hs) hqm hqd hqr hx).mono fun e w' hh => alt_same hh ?_
      have p7 := pay_none (h := 0) how hx
      obtain ⟨e1, e2⟩ := chg_broke (s := s) h0 hs hqd (by rw [p7]; decide)
      exact ⟨e1.trans p7, e2⟩
    · refine (ref_Alter_chg_new0 seq mt dt rev true o1 o2 x0 x1 x2 am ad ar cm cd cr b s w hm hd hr l1 l2 l3 hgt hbk (ne32c hs) hqm hqd hqr (by omega) (by omega)).mono fun e w' hh => AltOk.new hh ?_ ?_ _ _ _ _
      all_goals
        obtain ⟨p1, p2⟩ := pay_new (h := 0) how hx
        obtain ⟨e1, e2⟩ := chg_ok (s := s) h0 hs hqd p1
      · rw [e2, p2]; dsimp only [setH, getH]; simp [hpw, hof]
      · exact e1
  · cases o1 with
    | false =>
      refine (ref_Alter_off1 0 seq mt dt rev o0 true o2 x0 x1 x2 am ad ar cm cd cr b s w hm hd hr l1 l2 l3 hgt rfl rfl rfl rfl).mono fun e w' hh => alt_same hh ?_
      have h4 := may_none (h := 1) (b := b) hgt (.inr (.inl rfl))
      obtain ⟨e1, e2⟩ := chg_may (s := s) (show ¬ mayE _ 1 b = 0 by rw [h4]; decide)
      exact ⟨e1.trans h4, e2⟩
    | true =>
    cases hbk : isBlk b with
    | false =>
      refine (ref_Alter_blk1 0 seq mt dt rev o0 true o2 x0 x1 x2 am ad ar cm cd cr b s w hm hd hr l1 l2 l3 hgt hbk rfl rfl rfl).mono fun e w' hh => alt_same hh ?_
      have h4 := may_none (h := 1) (b := b) hgt (.inr (.inr hbk))
      obtain ⟨e1, e2⟩ := chg_may (s := s) (show ¬ mayE _ 1 b = 0 by rw [h4]; decide)
      exact ⟨e1.trans h4, e2⟩
    | true =>
    have h0 := may_ok (h := 1) (b := b) hgt (by decide) rfl hbk
    by_cases hs : s.size = 32
    rotate_left
    · refine (ref_Alter_form01 seq mt dt rev o0 true o2 x0 x1 x2 am ad ar cm cd cr b s w hm hd hr l1 l2 l3 hgt hbk (ne32b hs) rfl rfl rfl).mono fun e w' hh => alt_same hh ?_
      exact chg_form h0 hs
    cases hqd : hasB dt b with
    | true =>
      refine (ref_Alter_chg_role1 seq mt dt rev o0 true o2 x0 x1 x2 am ad ar cm cd cr b s w hm hd hr l1 l2 l3 hgt hbk (ne32c hs) rfl hqd rfl).mono fun e w' hh => alt_same hh ?_
      exact chg_role h0 hs hqd
    | false =>
    have hpw := put_with (b := b) (s := s) hg.mt hbk hs
    have hof := off_is b hg.rev
    cases hqm : hasB mt b with
    | true =>
      refine (ref_Alter_chg_old1 seq mt dt rev o0 true o2 x0 x1 x2 am ad ar cm cd cr b s w hm hd hr l1 l2 l3 hgt hbk (ne32c hs) hqm hqd rfl).mono fun e w' hh => AltOk.new hh ?_ ?_ _ _ _ _
      all_goals
        obtain ⟨p1, p2⟩ := pay_old (t := ⟨seq, mt, dt, rev, ⟨o0, x0⟩, ⟨true, x1⟩, ⟨o2, x2⟩⟩) (h := 1) (b := b) (by unfold owed; simp [hqm])
        obtain ⟨e1, e2⟩ := chg_ok (s := s) h0 hs hqd p1
      · rw [e2, p2]; dsimp only; rw [hpw, hof]
      · exact e1
    | false =>
    cases hqr : inI rev b with
    | true =>
      refine (ref_Alter_chg_was1 seq mt dt rev o0 true o2 x0 x1 x2 am ad ar cm cd cr b s w hm hd hr l1 l2 l3 hgt hbk (ne32c hs) hqm hqd hqr).mono fun e w' hh => AltOk.new hh ?_ ?_ _ _ _ _
      all_goals
        obtain ⟨p1, p2⟩ := pay_old (t := ⟨seq, mt, dt, rev, ⟨o0, x0⟩, ⟨true, x1⟩, ⟨o2, x2⟩⟩) (h := 1) (b := b) (by unfold owed; simp [hqr])
        obtain ⟨e1, e2⟩ := chg_ok (s := s) h0 hs hqd p1
      · rw [e2, p2]; dsimp only; rw [hpw, hof]
      · exact e1
    | false =>
    have how : owed ⟨seq, mt, dt, rev, ⟨o0, x0⟩, ⟨true, x1⟩, ⟨o2, x2⟩⟩ b = true := by unfold owed; simp [hqm, hqr]
    by_cases hx : x1 = 0
    · refine (ref_Alter_chg_credit1 seq mt dt rev o0 true o2 x0 x1 x2 am ad ar cm cd cr b s w hm hd hr l1 l2 l3 hgt hbk (ne32c hs) hqm hqd hqr hx).mono fun e w' hh => alt_same hh ?_
      have p7 := pay_none (h := 1) how hx
      obtain ⟨e1, e2⟩ := chg_broke (s := s) h0 hs hqd (by rw [p7]; decide)
      exact ⟨e1.trans p7, e2⟩
    · refine (ref_Alter_chg_new1 seq mt dt rev o0 true o2 x0 x1 x2 am ad ar cm cd cr b s w hm hd hr l1 l2 l3 hgt hbk (ne32c hs) hqm hqd hqr (by omega) (by omega)).mono fun e w' hh => AltOk.new hh ?_ ?_ _ _ _ _
      all_goals
        obtain ⟨p1, p2⟩ := pay_new (h := 1) how hx
        obtain ⟨e1, e2⟩ := chg_ok (s := s) h0 hs hqd p1
      · rw [e2, p2]; dsimp only [setH, getH]; simp [hpw, hof]
      · exact e1
  · cases o2 with
    | false =>
      refine (ref_Alter_off2 0 seq mt dt rev o0 o1 true x0 x1 x2 am ad ar cm cd cr b s w hm hd hr l1 l2 l3 hgt rfl rfl rfl rfl).mono fun e w' hh => alt_same hh ?_
      have h4 := may_none (h := 2) (b := b) hgt (.inr (.inl rfl))
      obtain ⟨e1, e2⟩ := chg_may (s := s) (show ¬ mayE _ 2 b = 0 by rw [h4]; decide)
      exact ⟨e1.trans h4, e2⟩
    | true =>
    cases hbk : isBlk b with
    | false =>
      refine (ref_Alter_blk2 0 seq mt dt rev o0 o1 true x0 x1 x2 am ad ar cm cd cr b s w hm hd hr l1 l2 l3 hgt hbk rfl rfl rfl).mono fun e w' hh => alt_same hh ?_
      have h4 := may_none (h := 2) (b := b) hgt (.inr (.inr hbk))
      obtain ⟨e1, e2⟩ := chg_may (s := s) (show ¬ mayE _ 2 b = 0 by rw [h4]; decide)
      exact ⟨e1.trans h4, e2⟩
    | true =>
    have h0 := may_ok (h := 2) (b := b) hgt (by decide) rfl hbk
    by_cases hs : s.size = 32
    rotate_left
    · refine (ref_Alter_form02 seq mt dt rev o0 o1 true x0 x1 x2 am ad ar cm cd cr b s w hm hd hr l1 l2 l3 hgt hbk (ne32b hs) rfl rfl rfl).mono fun e w' hh => alt_same hh ?_
      exact chg_form h0 hs
    cases hqd : hasB dt b with
    | true =>
      refine (ref_Alter_chg_role2 seq mt dt rev o0 o1 true x0 x1 x2 am ad ar cm cd cr b s w hm hd hr l1 l2 l3 hgt hbk (ne32c hs) rfl hqd rfl).mono fun e w' hh => alt_same hh ?_
      exact chg_role h0 hs hqd
    | false =>
    have hpw := put_with (b := b) (s := s) hg.mt hbk hs
    have hof := off_is b hg.rev
    cases hqm : hasB mt b with
    | true =>
      refine (ref_Alter_chg_old2 seq mt dt rev o0 o1 true x0 x1 x2 am ad ar cm cd cr b s w hm hd hr l1 l2 l3 hgt hbk (ne32c hs) hqm hqd rfl).mono fun e w' hh => AltOk.new hh ?_ ?_ _ _ _ _
      all_goals
        obtain ⟨p1, p2⟩ := pay_old (t := ⟨seq, mt, dt, rev, ⟨o0, x0⟩, ⟨o1, x1⟩, ⟨true, x2⟩⟩) (h := 2) (b := b) (by unfold owed; simp [hqm])
        obtain ⟨e1, e2⟩ := chg_ok (s := s) h0 hs hqd p1
      · rw [e2, p2]; dsimp only; rw [hpw, hof]
      · exact e1
    | false =>
    cases hqr : inI rev b with
    | true =>
      refine (ref_Alter_chg_was2 seq mt dt rev o0 o1 true x0 x1 x2 am ad ar cm cd cr b s w hm hd hr l1 l2 l3 hgt hbk (ne32c hs) hqm hqd hqr).mono fun e w' hh => AltOk.new hh ?_ ?_ _ _ _ _
      all_goals
        obtain ⟨p1, p2⟩ := pay_old (t := ⟨seq, mt, dt, rev, ⟨o0, x0⟩, ⟨o1, x1⟩, ⟨true, x2⟩⟩) (h := 2) (b := b) (by unfold owed; simp [hqr])
        obtain ⟨e1, e2⟩ := chg_ok (s := s) h0 hs hqd p1
      · rw [e2, p2]; dsimp only; rw [hpw, hof]
      · exact e1
    | false =>
    have how : owed ⟨seq, mt, dt, rev, ⟨o0, x0⟩, ⟨o1, x1⟩, ⟨true, x2⟩⟩ b = true := by unfold owed; simp [hqm, hqr]
    by_cases hx : x2 = 0
    · refine (ref_Alter_chg_credit2 seq mt dt rev o0 o1 true x0 x1 x2 am ad ar cm cd cr b s w hm hd hr l1 l2 l3 hgt hbk (ne32c hs) hqm hqd hqr hx).mono fun e w' hh => alt_same hh ?_
      have p7 := pay_none (h := 2) how hx
      obtain ⟨e1, e2⟩ := chg_broke (s := s) h0 hs hqd (by rw [p7]; decide)
      exact ⟨e1.trans p7, e2⟩
    · refine (ref_Alter_chg_new2 seq mt dt rev o0 o1 true x0 x1 x2 am ad ar cm cd cr b s w hm hd hr l1 l2 l3 hgt hbk (ne32c hs) hqm hqd hqr (by omega) (by omega)).mono fun e w' hh => AltOk.new hh ?_ ?_ _ _ _ _
      all_goals
        obtain ⟨p1, p2⟩ := pay_new (h := 2) how hx
        obtain ⟨e1, e2⟩ := chg_ok (s := s) h0 hs hqd p1
      · rw [e2, p2]; dsimp only [setH, getH]; simp [hpw, hof]
      · exact e1
theorem ref_Alter_fil (t : Txn) (h b : Int) (s : ByteArray) (vm vd vr : Value) (w : World) (ht : RTxn w (txnV t vm vd vr) t) :
    Calls Try.prog 8 #[.int .i64 1, txnV t vm vd vr, .int .i64 h, .int .i64 b, .string s] w fun e w' => ∃ vm' vd' vr', e = .returned (.tuple #[txnV (filT t h b s) vm' vd' vr', .int .i64 (filE t h b s)]) ∧ NewT w.heap.size w' vm vd vr vm' vd' vr' t (filT t h b s) ∧ Below w.heap.size w w' := by
  obtain ⟨vm', vd', vr', hvv, hm, hd, hr, n1, n2, n3⟩ := ht
  simp only [txnV, Value.agg.injEq, Array.mk.injEq, List.cons.injEq, and_true, true_and] at hvv
  obtain ⟨rfl, rfl, rfl⟩ := hvv
  obtain ⟨am, cm, rfl, _⟩ := hm.form
  obtain ⟨ad, cd, rfl, _⟩ := hd.form
  obtain ⟨ar, cr, rfl, _⟩ := hr.form
  obtain ⟨seq, mt, dt, rev, ⟨o0, x0⟩, ⟨o1, x1⟩, ⟨o2, x2⟩⟩ := t
  dsimp only at hm hd hr n1 n2 n3
  cases hgt : goodT ⟨seq, mt, dt, rev, ⟨o0, x0⟩, ⟨o1, x1⟩, ⟨o2, x2⟩⟩ with
  | false =>
    refine (ref_Alter_bad 1 h seq mt dt rev o0 o1 o2 x0 x1 x2 am ad ar cm cd cr b s w hm hd hr n1 n2 n3 hgt rfl rfl rfl rfl).mono fun e w' hh => alt_same hh ?_
    obtain ⟨e1, e2⟩ := fil_may (s := s) (show ¬ mayE _ h b = 0 by rw [may_bad hgt]; decide)
    exact ⟨e1.trans (may_bad hgt), e2⟩
  | true =>
  have hg := goodT_of.1 hgt
  obtain ⟨l1, l2, l3⟩ := lens hg
  have hbd := hnd_of_good hgt
  dsimp only at l1 l2 l3 hbd
  by_cases hlo : h < 0
  · refine (ref_Alter_low 1 h seq mt dt rev o0 o1 o2 x0 x1 x2 am ad ar cm cd cr b s w hm hd hr l1 l2 l3 hgt rfl rfl rfl rfl hlo).mono fun e w' hh => alt_same hh ?_
    have h4 := may_none (h := h) (b := b) hgt (.inl (by omega))
    obtain ⟨e1, e2⟩ := fil_may (s := s) (show ¬ mayE _ h b = 0 by rw [h4]; decide)
    exact ⟨e1.trans h4, e2⟩
  by_cases hhi : 2 < h
  · refine (ref_Alter_high 1 h seq mt dt rev o0 o1 o2 x0 x1 x2 am ad ar cm cd cr b s w hm hd hr l1 l2 l3 hgt rfl rfl rfl rfl hhi).mono fun e w' hh => alt_same hh ?_
    have h4 := may_none (h := h) (b := b) hgt (.inl (by omega))
    obtain ⟨e1, e2⟩ := fil_may (s := s) (show ¬ mayE _ h b = 0 by rw [h4]; decide)
    exact ⟨e1.trans h4, e2⟩
  obtain (rfl | rfl | rfl) : h = 0 ∨ h = 1 ∨ h = 2 := by omega
  · cases o0 with
    | false =>
      refine (ref_Alter_off0 1 seq mt dt rev true o1 o2 x0 x1 x2 am ad ar cm cd cr b s w hm hd hr l1 l2 l3 hgt rfl rfl rfl rfl).mono fun e w' hh => alt_same hh ?_
      have h4 := may_none (h := 0) (b := b) hgt (.inr (.inl rfl))
      obtain ⟨e1, e2⟩ := fil_may (s := s) (show ¬ mayE _ 0 b = 0 by rw [h4]; decide)
      exact ⟨e1.trans h4, e2⟩
    | true =>
    cases hbk : isBlk b with
    | false =>
      refine (ref_Alter_blk0 1 seq mt dt rev true o1 o2 x0 x1 x2 am ad ar cm cd cr b s w hm hd hr l1 l2 l3 hgt hbk rfl rfl rfl).mono fun e w' hh => alt_same hh ?_
      have h4 := may_none (h := 0) (b := b) hgt (.inr (.inr hbk))
      obtain ⟨e1, e2⟩ := fil_may (s := s) (show ¬ mayE _ 0 b = 0 by rw [h4]; decide)
      exact ⟨e1.trans h4, e2⟩
    | true =>
    have h0 := may_ok (h := 0) (b := b) hgt (by decide) rfl hbk
    by_cases hs : s.size = 32
    rotate_left
    · refine (ref_Alter_form10 seq mt dt rev true o1 o2 x0 x1 x2 am ad ar cm cd cr b s w hm hd hr l1 l2 l3 hgt hbk (ne32b hs) rfl rfl rfl).mono fun e w' hh => alt_same hh ?_
      exact fil_form h0 hs
    have hpw := put_with (b := b) (s := s) hg.dt hbk hs
    cases hqm : hasB mt b with
    | true =>
      refine (ref_Alter_fil_role0 seq mt dt rev true o1 o2 x0 x1 x2 am ad ar cm cd cr b s w hm hd hr l1 l2 l3 hgt hbk (ne32c hs) hqm rfl rfl).mono fun e w' hh => alt_same hh ?_
      exact fil_role h0 hs (by simp [hqm])
    | false =>
    cases hqr : inI rev b with
    | true =>
      refine (ref_Alter_fil_gone0 seq mt dt rev true o1 o2 x0 x1 x2 am ad ar cm cd cr b s w hm hd hr l1 l2 l3 hgt hbk (ne32c hs) hqm rfl hqr).mono fun e w' hh => alt_same hh ?_
      exact fil_role h0 hs (by simp [hqr])
    | false =>
      refine (ref_Alter_fil_ok0 seq mt dt rev true o1 o2 x0 x1 x2 am ad ar cm cd cr b s w hm hd hr l1 l2 l3 hgt hbk (ne32c hs) hqm rfl hqr).mono fun e w' hh => AltOk.new hh ?_ ?_ _ _ _ _
      all_goals obtain ⟨e1, e2⟩ := fil_ok (s := s) h0 hs (show (hasB mt b || inI rev b) = false by simp [hqm, hqr])
      · rw [e2]; dsimp only; rw [hpw]
      · exact e1
  · cases o1 with
    | false =>
      refine (ref_Alter_off1 1 seq mt dt rev o0 true o2 x0 x1 x2 am ad ar cm cd cr b s w hm hd hr l1 l2 l3 hgt rfl rfl rfl rfl).mono fun e w' hh => alt_same hh ?_
      have h4 := may_none (h := 1) (b := b) hgt (.inr (.inl rfl))
      obtain ⟨e1, e2⟩ := fil_may (s := s) (show ¬ mayE _ 1 b = 0 by rw [h4]; decide)
      exact ⟨e1.trans h4, e2⟩
    | true =>
    cases hbk : isBlk b with
    | false =>
      refine (ref_Alter_blk1 1 seq mt dt rev o0 true o2 x0 x1 x2 am ad ar cm cd cr b s w hm hd hr l1 l2 l3 hgt hbk rfl rfl rfl).mono fun e w' hh => alt_same hh ?_
      have h4 := may_none (h := 1) (b := b) hgt (.inr (.inr hbk))
      obtain ⟨e1, e2⟩ := fil_may (s := s) (show ¬ mayE _ 1 b = 0 by rw [h4]; decide)
      exact ⟨e1.trans h4, e2⟩
    | true =>
    have h0 := may_ok (h := 1) (b := b) hgt (by decide) rfl hbk
    by_cases hs : s.size = 32
    rotate_left
    · refine (ref_Alter_form11 seq mt dt rev o0 true o2 x0 x1 x2 am ad ar cm cd cr b s w hm hd hr l1 l2 l3 hgt hbk (ne32b hs) rfl rfl rfl).mono fun e w' hh => alt_same hh ?_
      exact fil_form h0 hs
    have hpw := put_with (b := b) (s := s) hg.dt hbk hs
    cases hqm : hasB mt b with
    | true =>
      refine (ref_Alter_fil_role1 seq mt dt rev o0 true o2 x0 x1 x2 am ad ar cm cd cr b s w hm hd hr l1 l2 l3 hgt hbk (ne32c hs) hqm rfl rfl).mono fun e w' hh => alt_same hh ?_
      exact fil_role h0 hs (by simp [hqm])
    | false =>
    cases hqr : inI rev b with
    | true =>
      refine (ref_Alter_fil_gone1 seq mt dt rev o0 true o2 x0 x1 x2 am ad ar cm cd cr b s w hm hd hr l1 l2 l3 hgt hbk (ne32c hs) hqm rfl hqr).mono fun e w' hh => alt_same hh ?_
      exact fil_role h0 hs (by simp [hqr])
    | false =>
      refine (ref_Alter_fil_ok1 seq mt dt rev o0 true o2 x0 x1 x2 am ad ar cm cd cr b s w hm hd hr l1 l2 l3 hgt hbk (ne32c hs) hqm rfl hqr).mono fun e w' hh => AltOk.new hh ?_ ?_ _ _ _ _
      all_goals obtain ⟨e1, e2⟩ := fil_ok (s := s) h0 hs (show (hasB mt b || inI rev b) = false by simp [hqm, hqr])
      · rw [e2]; dsimp only; rw [hpw]
      · exact e1
  · cases o2 with
    | false =>
      refine (ref_Alter_off2 1 seq mt dt rev o0 o1 true x0 x1 x2 am ad ar cm cd cr b s w hm hd hr l1 l2 l3 hgt rfl rfl rfl rfl).mono fun e w' hh => alt_same hh ?_
      have h4 := may_none (h := 2) (b := b) hgt (.inr (.inl rfl))
      obtain ⟨e1, e2⟩ := fil_may (s := s) (show ¬ mayE _ 2 b = 0 by rw [h4]; decide)
      exact ⟨e1.trans h4, e2⟩
    | true =>
    cases hbk : isBlk b with
    | false =>
      refine (ref_Alter_blk2 1 seq mt dt rev o0 o1 true x0 x1 x2 am ad ar cm cd cr b s w hm hd hr l1 l2 l3 hgt hbk rfl rfl rfl).mono fun e w' hh => alt_same hh ?_
      have h4 := may_none (h := 2) (b := b) hgt (.inr (.inr hbk))
      obtain ⟨e1, e2⟩ := fil_may (s := s) (show ¬ mayE _ 2 b = 0 by rw [h4]; decide)
      exact ⟨e1.trans h4, e2⟩
    | true =>
    have h0 := may_ok (h := 2) (b := b) hgt (by decide) rfl hbk
    by_cases hs : s.size = 32
    rotate_left
    · refine (ref_Alter_form12 seq mt dt rev o0 o1 true x0 x1 x2 am ad ar cm cd cr b s w hm hd hr l1 l2 l3 hgt hbk (ne32b hs) rfl rfl rfl).mono fun e w' hh => alt_same hh ?_
      exact fil_form h0 hs
    have hpw := put_with (b := b) (s := s) hg.dt hbk hs
    cases hqm : hasB mt b with
    | true =>
      refine (ref_Alter_fil_role2 seq mt dt rev o0 o1 true x0 x1 x2 am ad ar cm cd cr b s w hm hd hr l1 l2 l3 hgt hbk (ne32c hs) hqm rfl rfl).mono fun e w' hh => alt_same hh ?_
      exact fil_role h0 hs (by simp [hqm])
    | false =>
    cases hqr : inI rev b with
    | true =>
      refine (ref_Alter_fil_gone2 seq mt dt rev o0 o1 true x0 x1 x2 am ad ar cm cd cr b s w hm hd hr l1 l2 l3 hgt hbk (ne32c hs) hqm rfl hqr).mono fun e w' hh => alt_same hh ?_
      exact fil_role h0 hs (by simp [hqr])
    | false =>
      refine (ref_Alter_fil_ok2 seq mt dt rev o0 o1 true x0 x1 x2 am ad ar cm cd cr b s w hm hd hr l1 l2 l3 hgt hbk (ne32c hs) hqm rfl hqr).mono fun e w' hh => AltOk.new hh ?_ ?_ _ _ _ _
      all_goals obtain ⟨e1, e2⟩ := fil_ok (s := s) h0 hs (show (hasB mt b || inI rev b) = false by simp [hqm, hqr])
      · rw [e2]; dsimp only; rw [hpw]
      · exact e1
theorem ref_Alter_rvk (t : Txn) (h b : Int) (s : ByteArray) (vm vd vr : Value) (w : World) (ht : RTxn w (txnV t vm vd vr) t) :
    Calls Try.prog 8 #[.int .i64 2, txnV t vm vd vr, .int .i64 h, .int .i64 b, .string s] w fun e w' => ∃ vm' vd' vr', e = .returned (.tuple #[txnV (rvkT t h b) vm' vd' vr', .int .i64 (rvkE t h b)]) ∧ NewT w.heap.size w' vm vd vr vm' vd' vr' t (rvkT t h b) ∧ Below w.heap.size w w' := by
  obtain ⟨vm', vd', vr', hvv, hm, hd, hr, n1, n2, n3⟩ := ht
  simp only [txnV, Value.agg.injEq, Array.mk.injEq, List.cons.injEq, and_true, true_and] at hvv
  obtain ⟨rfl, rfl, rfl⟩ := hvv
  obtain ⟨am, cm, rfl, _⟩ := hm.form
  obtain ⟨ad, cd, rfl, _⟩ := hd.form
  obtain ⟨ar, cr, rfl, _⟩ := hr.form
  obtain ⟨seq, mt, dt, rev, ⟨o0, x0⟩, ⟨o1, x1⟩, ⟨o2, x2⟩⟩ := t
  dsimp only at hm hd hr n1 n2 n3
  cases hgt : goodT ⟨seq, mt, dt, rev, ⟨o0, x0⟩, ⟨o1, x1⟩, ⟨o2, x2⟩⟩ with
  | false =>
    refine (ref_Alter_bad 2 h seq mt dt rev o0 o1 o2 x0 x1 x2 am ad ar cm cd cr b s w hm hd hr n1 n2 n3 hgt rfl rfl rfl rfl).mono fun e w' hh => alt_same hh ?_
    obtain ⟨e1, e2⟩ := rvk_may (show ¬ mayE _ h b = 0 by rw [may_bad hgt]; decide)
    exact ⟨e1.trans (may_bad hgt), e2⟩
  | true =>
  have hg := goodT_of.1 hgt
  obtain ⟨l1, l2, l3⟩ := lens hg
  have hbd := hnd_of_good hgt
  dsimp only at l1 l2 l3 hbd
  by_cases hlo : h < 0
  · refine (ref_Alter_low 2 h seq mt dt rev o0 o1 o2 x0 x1 x2 am ad ar cm cd cr b s w hm hd hr l1 l2 l3 hgt rfl rfl rfl rfl hlo).mono fun e w' hh => alt_same hh ?_
    have h4 := may_none (h := h) (b := b) hgt (.inl (by omega))
    obtain ⟨e1, e2⟩ := rvk_may (show ¬ mayE _ h b = 0 by rw [h4]; decide)
    exact ⟨e1.trans h4, e2⟩
  by_cases hhi : 2 < h
  · refine (ref_Alter_high 2 h seq mt dt rev o0 o1 o2 x0 x1 x2 am ad ar cm cd cr b s w hm hd hr l1 l2 l3 hgt rfl rfl rfl rfl hhi).mono fun e w' hh => alt_same hh ?_
    have h4 := may_none (h := h) (b := b) hgt (.inl (by omega))
    obtain ⟨e1, e2⟩ := rvk_may (show ¬ mayE _ h b = 0 by rw [h4]; decide)
    exact ⟨e1.trans h4, e2⟩
  obtain (rfl | rfl | rfl) : h = 0 ∨ h = 1 ∨ h = 2 := by omega
  · cases o0 with
    | false =>
      refine (ref_Alter_off0 2 seq mt dt rev true o1 o2 x0 x1 x2 am ad ar cm cd cr b s w hm hd hr l1 l2 l3 hgt rfl rfl rfl rfl).mono fun e w' hh => alt_same hh ?_
      have h4 := may_none (h := 0) (b := b) hgt (.inr (.inl rfl))
      obtain ⟨e1, e2⟩ := rvk_may (show ¬ mayE _ 0 b = 0 by rw [h4]; decide)
      exact ⟨e1.trans h4, e2⟩
    | true =>
    cases hbk : isBlk b with
    | false =>
      refine (ref_Alter_blk0 2 seq mt dt rev true o1 o2 x0 x1 x2 am ad ar cm cd cr b s w hm hd hr l1 l2 l3 hgt hbk rfl rfl rfl).mono fun e w' hh => alt_same hh ?_
      have h4 := may_none (h := 0) (b := b) hgt (.inr (.inr hbk))
      obtain ⟨e1, e2⟩ := rvk_may (show ¬ mayE _ 0 b = 0 by rw [h4]; decide)
      exact ⟨e1.trans h4, e2⟩
    | true =>
    have h0 := may_ok (h := 0) (b := b) hgt (by decide) rfl hbk
    cases hqr : inI rev b with
    | true =>
      refine (ref_Alter_rvk_twice0 seq mt dt rev true o1 o2 x0 x1 x2 am ad ar cm cd cr b s w hm hd hr l1 l2 l3 hgt hbk rfl rfl hqr).mono fun e w' hh => alt_same hh ?_
      exact rvk_twice h0 hqr
    | false =>
    have hof := ins_is hg.rev hbk hqr
    cases hqm : hasB mt b with
    | true =>
      refine (ref_Alter_rvk_old0 seq mt dt rev true o1 o2 x0 x1 x2 am ad ar cm cd cr b s w hm hd hr l1 l2 l3 hgt hbk hqm rfl hqr).mono fun e w' hh => AltOk.new hh ?_ ?_ _ _ _ _
      all_goals
        obtain ⟨p1, p2⟩ := pay_old (t := ⟨seq, mt, dt, rev, ⟨true, x0⟩, ⟨o1, x1⟩, ⟨o2, x2⟩⟩) (h := 0) (b := b) (by unfold owed; simp [hqm])
        obtain ⟨e1, e2⟩ := rvk_ok h0 hqr p1
      · rw [e2, p2]; dsimp only; rw [hof]
      · exact e1
    | false =>
    have how : owed ⟨seq, mt, dt, rev, ⟨true, x0⟩, ⟨o1, x1⟩, ⟨o2, x2⟩⟩ b = true := by unfold owed; simp [hqm, hqr]
    by_cases hx : x0 = 0
    · refine (ref_Alter_rvk_credit0 seq mt dt rev true o1 o2 x0 x1 x2 am ad ar cm cd cr b s w hm hd hr l1 l2 l3 hgt hbk hqm rfl hqr hx).mono fun e w' hh => alt_same hh ?_
      have p7 := pay_none (h := 0) how hx
      obtain ⟨e1, e2⟩ := rvk_broke h0 hqr (by rw [p7]; decide)
      exact ⟨e1.trans p7, e2⟩
    · refine (ref_Alter_rvk_new0 seq mt dt rev true o1 o2 x0 x1 x2 am ad ar cm cd cr b s w hm hd hr l1 l2 l3 hgt hbk hqm rfl hqr (by omega) (by omega)).mono fun e w' hh => AltOk.new hh ?_ ?_ _ _ _ _
      all_goals
        obtain ⟨p1, p2⟩ := pay_new (h := 0) how hx
        obtain ⟨e1, e2⟩ := rvk_ok h0 hqr p1
      · rw [e2, p2]; dsimp only [setH, getH]; simp [hof]
      · exact e1
  · cases o1 with
    | false =>
      refine (ref_Alter_off1 2 seq mt dt rev o0 true o2 x0 x1 x2 am ad ar cm cd cr b s w hm hd hr l1 l2 l3 hgt rfl rfl rfl rfl).mono fun e w' hh => alt_same hh ?_
      have h4 := may_none (h := 1) (b := b) hgt (.inr (.inl rfl))
      obtain ⟨e1, e2⟩ := rvk_may (show ¬ mayE _ 1 b = 0 by rw [h4]; decide)
      exact ⟨e1.trans h4, e2⟩
    | true =>
    cases hbk : isBlk b with
    | false =>
      refine (ref_Alter_blk1 2 seq mt dt rev o0 true o2 x0 x1 x2 am ad ar cm cd cr b s w hm hd hr l1 l2 l3 hgt hbk rfl rfl rfl).mono fun e w' hh => alt_same hh ?_
      have h4 := may_none (h := 1) (b := b) hgt (.inr (.inr hbk))
      obtain ⟨e1, e2⟩ := rvk_may (show ¬ mayE _ 1 b = 0 by rw [h4]; decide)
      exact ⟨e1.trans h4, e2⟩
    | true =>
    have h0 := may_ok (h := 1) (b := b) hgt (by decide) rfl hbk
    cases hqr : inI rev b with
    | true =>
      refine (ref_Alter_rvk_twice1 seq mt dt rev o0 true o2 x0 x1 x2 am ad ar cm cd cr b s w hm hd hr l1 l2 l3 hgt hbk rfl rfl hqr).mono fun e w' hh => alt_same hh ?_
      exact rvk_twice h0 hqr
    | false =>
    have hof := ins_is hg.rev hbk hqr
    cases hqm : hasB mt b with
    | true =>
      refine (ref_Alter_rvk_old1 seq mt dt rev o0 true o2 x0 x1 x2 am ad ar cm cd cr b s w hm hd hr l1 l2 l3 hgt hbk hqm rfl hqr).mono fun e w' hh => AltOk.new hh ?_ ?_ _ _ _ _
      all_goals
        obtain ⟨p1, p2⟩ := pay_old (t := ⟨seq, mt, dt, rev, ⟨o0, x0⟩, ⟨true, x1⟩, ⟨o2, x2⟩⟩) (h := 1) (b := b) (by unfold owed; simp [hqm])
        obtain ⟨e1, e2⟩ := rvk_ok h0 hqr p1
      · rw [e2, p2]; dsimp only; rw [hof]
      · exact e1
    | false =>
    have how : owed ⟨seq, mt, dt, rev, ⟨o0, x0⟩, ⟨true, x1⟩, ⟨o2, x2⟩⟩ b = true := by unfold owed; simp [hqm, hqr]
    by_cases hx : x1 = 0
    · refine (ref_Alter_rvk_credit1 seq mt dt rev o0 true o2 x0 x1 x2 am ad ar cm cd cr b s w hm hd hr l1 l2 l3 hgt hbk hqm rfl hqr hx).mono fun e w' hh => alt_same hh ?_
      have p7 := pay_none (h := 1) how hx
      obtain ⟨e1, e2⟩ := rvk_broke h0 hqr (by rw [p7]; decide)
      exact ⟨e1.trans p7, e2⟩
    · refine (ref_Alter_rvk_new1 seq mt dt rev o0 true o2 x0 x1 x2 am ad ar cm cd cr b s w hm hd hr l1 l2 l3 hgt hbk hqm rfl hqr (by omega) (by omega)).mono fun e w' hh => AltOk.new hh ?_ ?_ _ _ _ _
      all_goals
        obtain ⟨p1, p2⟩ := pay_new (h := 1) how hx
        obtain ⟨e1, e2⟩ := rvk_ok h0 hqr p1
      · rw [e2, p2]; dsimp only [setH, getH]; simp [hof]
      · exact e1
  · cases o2 with
    | false =>
      refine (ref_Alter_off2 2 seq mt dt rev o0 o1 true x0 x1 x2 am ad ar cm cd cr b s w hm hd hr l1 l2 l3 hgt rfl rfl rfl rfl).mono fun e w' hh => alt_same hh ?_
      have h4 := may_none (h := 2) (b := b) hgt (.inr (.inl rfl))
      obtain ⟨e1, e2⟩ := rvk_may (show ¬ mayE _ 2 b = 0 by rw [h4]; decide)
      exact ⟨e1.trans h4, e2⟩
    | true =>
    cases hbk : isBlk b with
    | false =>
      refine (ref_Alter_blk2 2 seq mt dt rev o0 o1 true x0 x1 x2 am ad ar cm cd cr b s w hm hd hr l1 l2 l3 hgt hbk rfl rfl rfl).mono fun e w' hh => alt_same hh ?_
      have h4 := may_none (h := 2) (b := b) hgt (.inr (.inr hbk))
      obtain ⟨e1, e2⟩ := rvk_may (show ¬ mayE _ 2 b = 0 by rw [h4]; decide)
      exact ⟨e1.trans h4, e2⟩
    | true =>
    have h0 := may_ok (h := 2) (b := b) hgt (by decide) rfl hbk
    cases hqr : inI rev b with
    | true =>
      refine (ref_Alter_rvk_twice2 seq mt dt rev o0 o1 true x0 x1 x2 am ad ar cm cd cr b s w hm hd hr l1 l2 l3 hgt hbk rfl rfl hqr).mono fun e w' hh => alt_same hh ?_
      exact rvk_twice h0 hqr
    | false =>
    have hof := ins_is hg.rev hbk hqr
    cases hqm : hasB mt b with
    | true =>
      refine (ref_Alter_rvk_old2 seq mt dt rev o0 o1 true x0 x1 x2 am ad ar cm cd cr b s w hm hd hr l1 l2 l3 hgt hbk hqm rfl hqr).mono fun e w' hh => AltOk.new hh ?_ ?_ _ _ _ _
      all_goals
        obtain ⟨p1, p2⟩ := pay_old (t := ⟨seq, mt, dt, rev, ⟨o0, x0⟩, ⟨o1, x1⟩, ⟨true, x2⟩⟩) (h := 2) (b := b) (by unfold owed; simp [hqm])
        obtain ⟨e1, e2⟩ := rvk_ok h0 hqr p1
      · rw [e2, p2]; dsimp only; rw [hof]
      · exact e1
    | false =>
    have how : owed ⟨seq, mt, dt, rev, ⟨o0, x0⟩, ⟨o1, x1⟩, ⟨true, x2⟩⟩ b = true := by unfold owed; simp [hqm, hqr]
    by_cases hx : x2 = 0
    · refine (ref_Alter_rvk_credit2 seq mt dt rev o0 o1 true x0 x1 x2 am ad ar cm cd cr b s w hm hd hr l1 l2 l3 hgt hbk hqm rfl hqr hx).mono fun e w' hh => alt_same hh ?_
      have p7 := pay_none (h := 2) how hx
      obtain ⟨e1, e2⟩ := rvk_broke h0 hqr (by rw [p7]; decide)
      exact ⟨e1.trans p7, e2⟩
    · refine (ref_Alter_rvk_new2 seq mt dt rev o0 o1 true x0 x1 x2 am ad ar cm cd cr b s w hm hd hr l1 l2 l3 hgt hbk hqm rfl hqr (by omega) (by omega)).mono fun e w' hh => AltOk.new hh ?_ ?_ _ _ _ _
      all_goals
        obtain ⟨p1, p2⟩ := pay_new (h := 2) how hx
        obtain ⟨e1, e2⟩ := rvk_ok h0 hqr p1
      · rw [e2, p2]; dsimp only [setH, getH]; simp [hof]
      · exact e1
end Go.Proofs.Ytjhmfljlclajnac

namespace Wb
open Go Go.RowKit
theorem chgT_len {t : Txn} {h b : Int} {s : ByteArray} (h1 : t.mt.length ≤ 5864062014805) (h2 : t.dt.length ≤ 5864062014805) (h3 : t.rev.length ≤ 17592186044160) : (chgT t h b s).mt.length ≤ 5864062014805 ∧ (chgT t h b s).dt.length ≤ 5864062014805 ∧ (chgT t h b s).rev.length ≤ 17592186044160 := by
  by_cases e : chgE t h b s = 0
  · have hg : GoodT (chgT t h b s) := goodT_of.1 (chg_good (may_zero (by by_cases hm : mayE t h b = 0; exact hm; rw [(chg_may (s := s) hm).1] at e; exact e)).1)
    obtain ⟨a, b, c⟩ := lens hg
    exact ⟨by omega, by omega, by omega⟩
  · have : chgT t h b s = t := by unfold chgT; rw [if_neg e]
    rw [this]; exact ⟨h1, h2, h3⟩
theorem filT_len {t : Txn} {h b : Int} {s : ByteArray} (h1 : t.mt.length ≤ 5864062014805) (h2 : t.dt.length ≤ 5864062014805) (h3 : t.rev.length ≤ 17592186044160) : (filT t h b s).mt.length ≤ 5864062014805 ∧ (filT t h b s).dt.length ≤ 5864062014805 ∧ (filT t h b s).rev.length ≤ 17592186044160 := by
  by_cases e : filE t h b s = 0
  · have hg : GoodT (filT t h b s) := goodT_of.1 (fil_good (may_zero (by by_cases hm : mayE t h b = 0; exact hm; rw [(fil_may (s := s) hm).1] at e; exact e)).1)
    obtain ⟨a, b, c⟩ := lens hg
    exact ⟨by omega, by omega, by omega⟩
  · have : filT t h b s = t := by unfold filT; rw [if_neg e]
    rw [this]; exact ⟨h1, h2, h3⟩
theorem rvkT_len {t : Txn} {h b : Int} (h1 : t.mt.length ≤ 5864062014805) (h2 : t.dt.length ≤ 5864062014805) (h3 : t.rev.length ≤ 17592186044160) : (rvkT t h b).mt.length ≤ 5864062014805 ∧ (rvkT t h b).dt.length ≤ 5864062014805 ∧ (rvkT t h b).rev.length ≤ 17592186044160 := by
  by_cases e : rvkE t h b = 0
  · have hg : GoodT (rvkT t h b) := goodT_of.1 (rvk_good (may_zero (by by_cases hm : mayE t h b = 0; exact hm; rw [(rvk_may hm).1] at e; exact e)).1)
    obtain ⟨a, b, c⟩ := lens hg
    exact ⟨by omega, by omega, by omega⟩
  · have : rvkT t h b = t := by unfold rvkT; rw [if_neg e]
    rw [this]; exact ⟨h1, h2, h3⟩
end Wb

namespace Go.Proofs.Ytjhmfljlclajnac
open Go.RowKit Wb
set_option linter.unusedVariables false
set_option linter.unusedSimpArgs false
set_option maxRecDepth 100000
set_option maxHeartbeats 8000000
theorem law_TxnAlters (t : Txn) (h b : Int) (s : ByteArray) (v : Value) (w : World) (ht : RTxn w v t) :
    Calls Try.prog 3 #[v, .int .i64 h, .int .i64 b, .string s] w fun e w' => e = .returned (.bool true) ∧ Below w.heap.size w w' := by
  have hCp := fun w' (hb : Below w.heap.size w w') => ref_CopyTxn t v w' (ht.below hb)
  obtain ⟨vm, vd, vr, rfl, hm, hd, hr, n1, n2, n3⟩ := ht
  have X : St [] w w [] [Rd.of cpyC vm t.mt, Rd.of cpyC vd t.dt, Rd.of intC vr t.rev] := (((St.start [] w).addR0 hr).addR0 hd).addR0 hm
  obtain ⟨am, cm, rfl, _⟩ := hm.form
  obtain ⟨ad, cd, rfl, _⟩ := hd.form
  obtain ⟨ar, cr, rfl, _⟩ := hr.form
  have hChg := fun vm vd vr w' hx => txn_Change t h b s vm vd vr w' hx
  have hFil := fun vm vd vr w' hx => txn_Fill t h b s vm vd vr w' hx
  have hRvk := fun vm vd vr w' hx => txn_Revoke t h b vm vd vr w' hx
  have hA0 := fun vm vd vr w' hx => ref_Alter_chg t h b s vm vd vr w' hx
  have hA1 := fun vm vd vr w' hx => ref_Alter_fil t h b s vm vd vr w' hx
  have hA2 := fun vm vd vr w' hx => ref_Alter_rvk t h b s vm vd vr w' hx
  have hSm := fun t' v1 v2 w' h1 h2 => ref_SameTxn t' v1 v2 w' h1 h2
  have Cn := chgT_len (h := h) (b := b) (s := s) n1 n2 n3
  have Fn := filT_len (h := h) (b := b) (s := s) n1 n2 n3
  have Vn := rvkT_len (h := h) (b := b) n1 n2 n3
  have tn : t.mt.length ≤ 5864062014805 ∧ t.dt.length ≤ 5864062014805 ∧ t.rev.length ≤ 17592186044160 := ⟨n1, n2, n3⟩
  generalize chgT t h b s = C at *
  generalize filT t h b s = F at *
  generalize rvkT t h b = V at *
  generalize chgE t h b s = EC at *
  generalize filE t h b s = EF at *
  generalize rvkE t h b = EV at *
  clear hm hd hr
  simp only [txnV] at hCp hChg hFil hRvk hA0 hA1 hA2 ⊢
  have hGet := hid fun v w' (hr : RL cpyC w' v t.mt) => txn_Get t.mt b v w' hr n1
  have hTx := hid fun v w' (hr : RL cpyC w' v t.mt) => ref_TextOf t.mt b v w' hr n1
  have hNm := hid fun w' => law_names w'
  replace hCp := hid hCp; replace hChg := hid hChg; replace hFil := hid hFil; replace hRvk := hid hRvk; replace hA0 := hid hA0; replace hA1 := hid hA1; replace hA2 := hid hA2; replace hSm := hid hSm
  obtain ⟨u, hu⟩ : ∃ u, u = (getC t.mt b).getD ⟨#[]⟩ := ⟨_, rfl⟩
  obtain ⟨o, ho⟩ : ∃ o, o = (getC t.mt b).isSome := ⟨_, rfl⟩
  rw [← hu, ← ho] at hGet hTx
  have e2 : (o == o) = true := beq_self_eq_true o
  go_enter Try.func3, Try.ntmps3
  go_wp2_with (first
    | (refine at_mem rfl ?_; (first | (refine at_load rfl ?_; (first | (refine c_load1 rfl _ _ rfl rfl X (by repeat (first | exact ReadA.here rfl | apply ReadA.there)) ?_) | (refine c_loadN rfl _ _ rfl rfl X (by repeat (first | exact ReadB.here (Nat.le_of_ble_eq_true rfl) | apply ReadB.there)) ?_))) | (refine at_store rfl ?_; (first | (refine c_store1 rfl _ _ _ rfl rfl (by first | exact EvR.const _ | exact EvR.tmp rfl rfl) X rfl rfl (by repeat (first | exact PutA.here (Nat.le_of_ble_eq_true rfl) | apply PutA.there)) ?_; intro w X2; (try simp only [upd] at X2); replace X := X2; clear X2) | (refine c_storeN rfl _ _ _ rfl rfl rfl X rfl rfl (by repeat (first | exact PutA.here (Nat.le_of_ble_eq_true rfl) | apply PutA.there)) ?_; intro w X2; (try simp only [upd] at X2); replace X := X2; clear X2))) | (refine m_alloc rfl _ rfl X ?_; intro g w X2; (replace X := X2; clear X2)) | (refine m_box rfl _ _ rfl (by first | exact EvR.const _ | exact EvR.tmp rfl rfl) rfl X ?_; intro g w X2; (replace X := X2; clear X2))); (simp only [Act.put, List.setIfInBounds_toArray, List.set_cons_succ, List.set_cons_zero, List.drop_succ_cons, List.drop_zero, List.take_succ_cons, List.take_zero, Nat.reduceAdd]))
    | (go_at_call 6; go_loud (refine (hCp.out _ X.below).mono ?_; rintro e w1 ⟨vc, rfl, ⟨vm', vd', vr', rfl, o1, o2, o3, _⟩, hb1⟩; obtain ⟨am', cm', rfl⟩ := o1.form; obtain ⟨ad', cd', rfl⟩ := o2.form; obtain ⟨ar', cr', rfl⟩ := o3.form; simp only [txnV]; replace X := X.addOTxn hb1 o1 o2 o3; clear hb1 o1 o2 o3))
    | (go_at_call 7; go_loud ((have hc := hChg.out _ _ _ _ (X.rtxn (.head _) (.tail _ (.head _)) (.tail _ (.tail _ (.head _))) n1 n2 n3); (try simp only [txnV] at hc); (with_reducible refine hc.mono ?_); clear hc; rintro e w1 ⟨vm1, vd1, vr1, rfl, hN, hb1⟩; replace X := X.addT hb1 hN (.head _) (.tail _ (.head _)) (.tail _ (.tail _ (.head _))); clear hb1 hN; obtain ⟨ax1, cx1, rfl, _⟩ := X.r0.form; obtain ⟨ax2, cx2, rfl, _⟩ := X.r1.form; obtain ⟨ax3, cx3, rfl, _⟩ := X.r2.form; (try simp only [txnV]))))
    | (go_at_call 8; go_loud ((have hc := hA0.out _ _ _ _ (X.rtxn (.tail _ (.tail _ (.tail _ (.tail _ (.tail _ (.tail _ (.head _))))))) (.tail _ (.tail _ (.tail _ (.tail _ (.tail _ (.tail _ (.tail _ (.head _)))))))) (.tail _ (.tail _ (.tail _ (.tail _ (.tail _ (.tail _ (.tail _ (.tail _ (.head _))))))))) n1 n2 n3); (try simp only [txnV] at hc); (with_reducible refine hc.mono ?_); clear hc; rintro e w1 ⟨vm2, vd2, vr2, rfl, hN, hb1⟩; replace X := X.addT hb1 hN (.tail _ (.tail _ (.tail _ (.tail _ (.tail _ (.tail _ (.head _))))))) (.tail _ (.tail _ (.tail _ (.tail _ (.tail _ (.tail _ (.tail _ (.head _)))))))) (.tail _ (.tail _ (.tail _ (.tail _ (.tail _ (.tail _ (.tail _ (.tail _ (.head _))))))))); clear hb1 hN; obtain ⟨ax1, cx1, rfl, _⟩ := X.r0.form; obtain ⟨ax2, cx2, rfl, _⟩ := X.r1.form; obtain ⟨ax3, cx3, rfl, _⟩ := X.r2.form; (try simp only [txnV]))))
    | (go_at_call 9; go_loud ((have hc := hSm.out C _ _ _ (X.rtxn (.tail _ (.tail _ (.tail _ (.head _)))) (.tail _ (.tail _ (.tail _ (.tail _ (.head _))))) (.tail _ (.tail _ (.tail _ (.tail _ (.tail _ (.head _)))))) Cn.1 Cn.2.1 Cn.2.2) (X.rtxn (.head _) (.tail _ (.head _)) (.tail _ (.tail _ (.head _))) Cn.1 Cn.2.1 Cn.2.2); (try simp only [txnV] at hc); (with_reducible refine hc.mono ?_); clear hc; rintro e w1 ⟨rfl, hb1⟩; replace X := X.call hb1; clear hb1)))
    | (go_at_call 10; go_loud ((have hc := hFil.out _ _ _ _ (X.rtxn (.tail _ (.tail _ (.tail _ (.tail _ (.tail _ (.tail _ (.head _))))))) (.tail _ (.tail _ (.tail _ (.tail _ (.tail _ (.tail _ (.tail _ (.head _)))))))) (.tail _ (.tail _ (.tail _ (.tail _ (.tail _ (.tail _ (.tail _ (.tail _ (.head _))))))))) n1 n2 n3); (try simp only [txnV] at hc); (with_reducible refine hc.mono ?_); clear hc; rintro e w1 ⟨vm3, vd3, vr3, rfl, hN, hb1⟩; replace X := X.addT hb1 hN (.tail _ (.tail _ (.tail _ (.tail _ (.tail _ (.tail _ (.head _))))))) (.tail _ (.tail _ (.tail _ (.tail _ (.tail _ (.tail _ (.tail _ (.head _)))))))) (.tail _ (.tail _ (.tail _ (.tail _ (.tail _ (.tail _ (.tail _ (.tail _ (.head _))))))))); clear hb1 hN; obtain ⟨ax1, cx1, rfl, _⟩ := X.r0.form; obtain ⟨ax2, cx2, rfl, _⟩ := X.r1.form; obtain ⟨ax3, cx3, rfl, _⟩ := X.r2.form; (try simp only [txnV]))))
    | (go_at_call 8; go_loud ((have hc := hA1.out _ _ _ _ (X.rtxn (.tail _ (.tail _ (.tail _ (.tail _ (.tail _ (.tail _ (.tail _ (.tail _ (.tail _ (.tail _ (.tail _ (.tail _ (.head _))))))))))))) (.tail _ (.tail _ (.tail _ (.tail _ (.tail _ (.tail _ (.tail _ (.tail _ (.tail _ (.tail _ (.tail _ (.tail _ (.tail _ (.head _)))))))))))))) (.tail _ (.tail _ (.tail _ (.tail _ (.tail _ (.tail _ (.tail _ (.tail _ (.tail _ (.tail _ (.tail _ (.tail _ (.tail _ (.tail _ (.head _))))))))))))))) n1 n2 n3); (try simp only [txnV] at hc); (with_reducible refine hc.mono ?_); clear hc; rintro e w1 ⟨vm4, vd4, vr4, rfl, hN, hb1⟩; replace X := X.addT hb1 hN (.tail _ (.tail _ (.tail _ (.tail _ (.tail _ (.tail _ (.tail _ (.tail _ (.tail _ (.tail _ (.tail _ (.tail _ (.head _))))))))))))) (.tail _ (.tail _ (.tail _ (.tail _ (.tail _ (.tail _ (.tail _ (.tail _ (.tail _ (.tail _ (.tail _ (.tail _ (.tail _ (.head _)))))))))))))) (.tail _ (.tail _ (.tail _ (.tail _ (.tail _ (.tail _ (.tail _ (.tail _ (.tail _ (.tail _ (.tail _ (.tail _ (.tail _ (.tail _ (.head _))))))))))))))); clear hb1 hN; obtain ⟨ax1, cx1, rfl, _⟩ := X.r0.form; obtain ⟨ax2, cx2, rfl, _⟩ := X.r1.form; obtain ⟨ax3, cx3, rfl, _⟩ := X.r2.form; (try simp only [txnV]))))
    | (go_at_call 9; go_loud ((have hc := hSm.out F _ _ _ (X.rtxn (.tail _ (.tail _ (.tail _ (.head _)))) (.tail _ (.tail _ (.tail _ (.tail _ (.head _))))) (.tail _ (.tail _ (.tail _ (.tail _ (.tail _ (.head _)))))) Fn.1 Fn.2.1 Fn.2.2) (X.rtxn (.head _) (.tail _ (.head _)) (.tail _ (.tail _ (.head _))) Fn.1 Fn.2.1 Fn.2.2); (try simp only [txnV] at hc); (with_reducible refine hc.mono ?_); clear hc; rintro e w1 ⟨rfl, hb1⟩; replace X := X.call hb1; clear hb1)))
    | (go_at_call 11; go_loud ((have hc := hRvk.out _ _ _ _ (X.rtxn (.tail _ (.tail _ (.tail _ (.tail _ (.tail _ (.tail _ (.tail _ (.tail _ (.tail _ (.tail _ (.tail _ (.tail _ (.head _))))))))))))) (.tail _ (.tail _ (.tail _ (.tail _ (.tail _ (.tail _ (.tail _ (.tail _ (.tail _ (.tail _ (.tail _ (.tail _ (.tail _ (.head _)))))))))))))) (.tail _ (.tail _ (.tail _ (.tail _ (.tail _ (.tail _ (.tail _ (.tail _ (.tail _ (.tail _ (.tail _ (.tail _ (.tail _ (.tail _ (.head _))))))))))))))) n1 n2 n3); (try simp only [txnV] at hc); (with_reducible refine hc.mono ?_); clear hc; rintro e w1 ⟨vm5, vd5, vr5, rfl, hN, hb1⟩; replace X := X.addT hb1 hN (.tail _ (.tail _ (.tail _ (.tail _ (.tail _ (.tail _ (.tail _ (.tail _ (.tail _ (.tail _ (.tail _ (.tail _ (.head _))))))))))))) (.tail _ (.tail _ (.tail _ (.tail _ (.tail _ (.tail _ (.tail _ (.tail _ (.tail _ (.tail _ (.tail _ (.tail _ (.tail _ (.head _)))))))))))))) (.tail _ (.tail _ (.tail _ (.tail _ (.tail _ (.tail _ (.tail _ (.tail _ (.tail _ (.tail _ (.tail _ (.tail _ (.tail _ (.tail _ (.head _))))))))))))))); clear hb1 hN; obtain ⟨ax1, cx1, rfl, _⟩ := X.r0.form; obtain ⟨ax2, cx2, rfl, _⟩ := X.r1.form; obtain ⟨ax3, cx3, rfl, _⟩ := X.r2.form; (try simp only [txnV]))))
    | (go_at_call 8; go_loud ((have hc := hA2.out _ _ _ _ (X.rtxn (.tail _ (.tail _ (.tail _ (.tail _ (.tail _ (.tail _ (.tail _ (.tail _ (.tail _ (.tail _ (.tail _ (.tail _ (.tail _ (.tail _ (.tail _ (.tail _ (.tail _ (.tail _ (.head _))))))))))))))))))) (.tail _ (.tail _ (.tail _ (.tail _ (.tail _ (.tail _ (.tail _ (.tail _ (.tail _ (.tail _ (.tail _ (.tail _ (.tail _ (.tail _ (.tail _ (.tail _ (.tail _ (.tail _ (.tail _ (.head _)))))))))))))))))))) (.tail _ (.tail _ (.tail _ (.tail _ (.tail _ (.tail _ (.tail _ (.tail _ (.tail _ (.tail _ (.tail _ (.tail _ (.tail _ (.tail _ (.tail _ (.tail _ (.tail _ (.tail _ (.tail _ (.tail _ (.head _))))))))))))))))))))) n1 n2 n3); (try simp only [txnV] at hc); (with_reducible refine hc.mono ?_); clear hc; rintro e w1 ⟨vm6, vd6, vr6, rfl, hN, hb1⟩; replace X := X.addT hb1 hN (.tail _ (.tail _ (.tail _ (.tail _ (.tail _ (.tail _ (.tail _ (.tail _ (.tail _ (.tail _ (.tail _ (.tail _ (.tail _ (.tail _ (.tail _ (.tail _ (.tail _ (.tail _ (.head _))))))))))))))))))) (.tail _ (.tail _ (.tail _ (.tail _ (.tail _ (.tail _ (.tail _ (.tail _ (.tail _ (.tail _ (.tail _ (.tail _ (.tail _ (.tail _ (.tail _ (.tail _ (.tail _ (.tail _ (.tail _ (.head _)))))))))))))))))))) (.tail _ (.tail _ (.tail _ (.tail _ (.tail _ (.tail _ (.tail _ (.tail _ (.tail _ (.tail _ (.tail _ (.tail _ (.tail _ (.tail _ (.tail _ (.tail _ (.tail _ (.tail _ (.tail _ (.tail _ (.head _))))))))))))))))))))); clear hb1 hN; obtain ⟨ax1, cx1, rfl, _⟩ := X.r0.form; obtain ⟨ax2, cx2, rfl, _⟩ := X.r1.form; obtain ⟨ax3, cx3, rfl, _⟩ := X.r2.form; (try simp only [txnV]))))
    | (go_at_call 9; go_loud ((have hc := hSm.out V _ _ _ (X.rtxn (.tail _ (.tail _ (.tail _ (.head _)))) (.tail _ (.tail _ (.tail _ (.tail _ (.head _))))) (.tail _ (.tail _ (.tail _ (.tail _ (.tail _ (.head _)))))) Vn.1 Vn.2.1 Vn.2.2) (X.rtxn (.head _) (.tail _ (.head _)) (.tail _ (.tail _ (.head _))) Vn.1 Vn.2.1 Vn.2.2); (try simp only [txnV] at hc); (with_reducible refine hc.mono ?_); clear hc; rintro e w1 ⟨rfl, hb1⟩; replace X := X.call hb1; clear hb1)))
    | (go_at_call 9; go_loud ((have hc := hSm.out t _ _ _ (X.rtxn (.tail _ (.tail _ (.tail _ (.tail _ (.tail _ (.tail _ (.tail _ (.tail _ (.tail _ (.tail _ (.tail _ (.tail _ (.tail _ (.tail _ (.tail _ (.tail _ (.tail _ (.tail _ (.head _))))))))))))))))))) (.tail _ (.tail _ (.tail _ (.tail _ (.tail _ (.tail _ (.tail _ (.tail _ (.tail _ (.tail _ (.tail _ (.tail _ (.tail _ (.tail _ (.tail _ (.tail _ (.tail _ (.tail _ (.tail _ (.head _)))))))))))))))))))) (.tail _ (.tail _ (.tail _ (.tail _ (.tail _ (.tail _ (.tail _ (.tail _ (.tail _ (.tail _ (.tail _ (.tail _ (.tail _ (.tail _ (.tail _ (.tail _ (.tail _ (.tail _ (.tail _ (.tail _ (.head _))))))))))))))))))))) tn.1 tn.2.1 tn.2.2) (X.rtxn (.tail _ (.tail _ (.tail _ (.tail _ (.tail _ (.tail _ (.tail _ (.tail _ (.tail _ (.tail _ (.tail _ (.tail _ (.tail _ (.tail _ (.tail _ (.tail _ (.tail _ (.tail _ (.tail _ (.tail _ (.tail _ (.head _)))))))))))))))))))))) (.tail _ (.tail _ (.tail _ (.tail _ (.tail _ (.tail _ (.tail _ (.tail _ (.tail _ (.tail _ (.tail _ (.tail _ (.tail _ (.tail _ (.tail _ (.tail _ (.tail _ (.tail _ (.tail _ (.tail _ (.tail _ (.tail _ (.head _))))))))))))))))))))))) (.tail _ (.tail _ (.tail _ (.tail _ (.tail _ (.tail _ (.tail _ (.tail _ (.tail _ (.tail _ (.tail _ (.tail _ (.tail _ (.tail _ (.tail _ (.tail _ (.tail _ (.tail _ (.tail _ (.tail _ (.tail _ (.tail _ (.tail _ (.head _)))))))))))))))))))))))) tn.1 tn.2.1 tn.2.2); (try simp only [txnV] at hc); (with_reducible refine hc.mono ?_); clear hc; rintro e w1 ⟨rfl, hb1⟩; replace X := X.call hb1; clear hb1)))
    | (go_at_call 12; go_loud ((have hc := hGet.out _ _ (X.read (List.Mem.tail _ (List.Mem.tail _ (List.Mem.tail _ (List.Mem.tail _ (List.Mem.tail _ (List.Mem.tail _ (List.Mem.tail _ (List.Mem.tail _ (List.Mem.tail _ (List.Mem.tail _ (List.Mem.tail _ (List.Mem.tail _ (List.Mem.tail _ (List.Mem.tail _ (List.Mem.tail _ (List.Mem.tail _ (List.Mem.tail _ (List.Mem.tail _ (List.Mem.head _))))))))))))))))))))); (with_reducible refine hc.mono ?_); clear hc; rintro e w1 ⟨rfl, hb1⟩; replace X := X.call hb1; clear hb1))
    | (go_at_call 13; go_loud ((have hc := hTx.out _ _ (X.read (List.Mem.tail _ (List.Mem.tail _ (List.Mem.tail _ (List.Mem.tail _ (List.Mem.tail _ (List.Mem.tail _ (List.Mem.tail _ (List.Mem.tail _ (List.Mem.tail _ (List.Mem.tail _ (List.Mem.tail _ (List.Mem.tail _ (List.Mem.tail _ (List.Mem.tail _ (List.Mem.tail _ (List.Mem.tail _ (List.Mem.tail _ (List.Mem.tail _ (List.Mem.tail _ (List.Mem.tail _ (List.Mem.tail _ (List.Mem.head _)))))))))))))))))))))))); (with_reducible refine hc.mono ?_); clear hc; rintro e w1 ⟨rfl, hb1⟩; replace X := X.call hb1; clear hb1))
    | (go_at_call 14; go_loud ((with_reducible refine (hNm.out _).mono ?_); rintro e w1 ⟨rfl, hb1⟩; replace X := X.call hb1; clear hb1)))
  go_ret
  exact ⟨rfl, X.below⟩
end Go.Proofs.Ytjhmfljlclajnac
