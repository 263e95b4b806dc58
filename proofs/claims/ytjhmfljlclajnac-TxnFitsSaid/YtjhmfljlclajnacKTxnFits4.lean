/- Counting blocks. No program in sight. An element of an array value. No program in sight. The walks of the ring: each call answers what the plain functions say. The walks of the reference's rising and GoodMark. The walk of GoodTxn. The walks of Begin and Stop. -/
import Derived.Test.YtjhmfljlclajnacKTxnFits0
import Derived.Test.YtjhmfljlclajnacRows
import Derived.BigQuiet
import Derived.Test.YtjhmfljlclajnacKTxnFits2
import Derived.Laws.Rows
import Derived.Test.YtjhmfljlclajnacKTxnFits3
namespace Wb
open Go Go.RowKit
def cntI (bs : List Int) (x : Int) : Int := (bs.countP (fun b => b == x) : Nat)
def cntL (bs : List Int) : List Int := (List.range 12).map fun (k : Nat) => cntI bs k
theorem cnt_append (l1 l2 : List Int) (x : Int) : cntI (l1 ++ l2) x = cntI l1 x + cntI l2 x := by simp [cntI]
theorem cnt_one (b x : Int) : cntI [b] x = if b = x then 1 else 0 := by
  by_cases h : b = x <;> simp [cntI, h]
theorem cntL_len (bs : List Int) : (cntL bs).length = 12 := by simp [cntL]
theorem cntL_nil : cntL [] = List.replicate 12 0 := rfl
theorem cntL_get (bs : List Int) {k : Nat} (hk : k < 12) : (cntL bs)[k]'(by rw [cntL_len]; exact hk) = cntI bs k := by simp [cntL]
theorem cnt_nonneg (bs : List Int) (x : Int) : 0 ≤ cntI bs x := by unfold cntI; omega
theorem cnt_le (bs : List Int) (x : Int) : cntI bs x ≤ bs.length := by
  unfold cntI
  have := List.countP_le_length (p := fun b => b == x) (l := bs)
  omega
theorem cntL_step (bs : List Int) {b : Nat} (_hb : b < 12) : cntL (bs ++ [(b : Int)]) = (cntL bs).set b (cntI bs b + 1) := by
  refine List.ext_getElem (by simp [cntL]) fun n h1 h2 => ?_
  rw [cntL_len] at h1
  rw [cntL_get _ h1, List.getElem_set, cnt_append, cnt_one]
  by_cases h : b = n
  · subst h; rw [if_pos rfl, if_pos rfl]
  · rw [if_neg (by omega), if_neg h, cntL_get _ h1]; omega
theorem inI_false {l : List Int} {x : Int} (h : ∀ b ∈ l, b ≠ x) : inI l x = false := by
  unfold inI
  rw [List.any_eq_false]
  intro b hb hh
  exact h b hb (beq_iff_eq.1 hh)
theorem cnt_rise {r : List Int} (h : ∀ k (hk : k < r.length), ∀ i (hi : i < k), r[i] < r[k]) (x : Int) : cntI r x = if inI r x then 1 else 0 := by
  have key : ∀ k, k ≤ r.length → cntI (r.take k) x = if inI (r.take k) x then 1 else 0 := by
    intro k
    induction k with
    | zero => intro _; rfl
    | succ k ih =>
      intro hk
      have hk' : k < r.length := by omega
      rw [inI_step hk', List.take_succ_eq_append_getElem hk', cnt_append, cnt_one, ih (by omega)]
      by_cases hx : r[k] = x
      · have hn : inI (r.take k) x = false := inI_false fun b hb => by
          obtain ⟨i, hi, rfl⟩ := List.mem_iff_getElem.1 hb
          rw [List.length_take] at hi
          rw [List.getElem_take]
          have := h k hk' i (by omega)
          omega
        rw [hn, if_pos hx, beq_iff_eq.2 hx]
        simp
      · have hb : (r[k] == x) = false := beq_eq_false_iff_ne.2 hx
        rw [if_neg hx, hb, Bool.or_false]
        omega
  have := key r.length (Nat.le_refl _)
  rwa [List.take_length] at this
theorem inI_blks (l : List Cpy) (x : Int) : inI (blks l) x = hasB l x := by simp [inI, blks, hasB, List.any_map, Function.comp_def]
theorem cnt_copies {l : List Cpy} (h : copiesB l = true) (x : Int) : cntI (blks l) x = if hasB l x then 1 else 0 := by
  rw [← inI_blks]
  refine cnt_rise (fun k hk i hi => ?_) x
  have hk' : k < l.length := by simpa [blks] using hk
  have := (copies_get h hk').2.2.1 i hi
  simpa [blks] using this
theorem cnt_rev {r : List Int} (h : rise r = true) (x : Int) : cntI r x = if inI r x then 1 else 0 := cnt_rise (fun _ hk i hi => (rise_get h hk).2.2 i hi) x
theorem hasB_mem {l : List Cpy} {b : Int} : hasB l b = true ↔ ∃ c ∈ l, c.block = b := by simp [hasB]
theorem inI_mem {l : List Int} {b : Int} : inI l b = true ↔ b ∈ l := by simp [inI]
theorem apart_iff (t : Txn) : apart t = true ↔ (∀ x, ¬ (inI t.rev x = true ∧ hasB t.mt x = true)) ∧ (∀ x, ¬ (inI t.rev x = true ∧ hasB t.dt x = true)) ∧ (∀ x, ¬ (hasB t.mt x = true ∧ hasB t.dt x = true)) := by
  unfold apart
  rw [Bool.and_eq_true, List.all_eq_true, List.all_eq_true]
  constructor
  · rintro ⟨h1, h2⟩
    refine ⟨fun x ⟨hx, hy⟩ => ?_, fun x ⟨hx, hy⟩ => ?_, fun x ⟨hx, hy⟩ => ?_⟩
    · have := h1 x (inI_mem.1 hx)
      rw [hy] at this; cases this
    · have := h1 x (inI_mem.1 hx)
      rw [hy] at this; simp at this
    · obtain ⟨c, hc, rfl⟩ := hasB_mem.1 hx
      have := h2 c hc
      rw [hy] at this; cases this
  · rintro ⟨h1, h2, h3⟩
    refine ⟨fun b hb => ?_, fun c hc => ?_⟩
    · have hx := inI_mem.2 hb
      cases hm : hasB t.mt b
      · cases hd : hasB t.dt b
        · rfl
        · exact absurd ⟨hx, hd⟩ (h2 b)
      · exact absurd ⟨hx, hm⟩ (h1 b)
    · cases hd : hasB t.dt c.block
      · rfl
      · exact absurd ⟨hasB_mem.2 ⟨c, hc, rfl⟩, hd⟩ (h3 c.block)
/-- All that a transaction names. -/
def allOf (t : Txn) : List Int := (blks t.mt ++ blks t.dt) ++ t.rev
theorem cnt_all {t : Txn} (h1 : copiesB t.mt = true) (h2 : copiesB t.dt = true) (h3 : rise t.rev = true) (x : Int) :
    cntI (allOf t) x = (if hasB t.mt x then 1 else 0) + (if hasB t.dt x then 1 else 0) + (if inI t.rev x then 1 else 0) := by
  unfold allOf
  rw [cnt_append, cnt_append, cnt_copies h1, cnt_copies h2, cnt_rev h3]
theorem apart_cnt {t : Txn} (h1 : copiesB t.mt = true) (h2 : copiesB t.dt = true) (h3 : rise t.rev = true) (h : apart t = true) (x : Int) : cntI (allOf t) x ≤ 1 := by
  rw [cnt_all h1 h2 h3]
  obtain ⟨g1, g2, g3⟩ := (apart_iff t).1 h
  have g1 := g1 x; have g2 := g2 x; have g3 := g3 x
  cases hm : hasB t.mt x <;> cases hd : hasB t.dt x <;> cases hr : inI t.rev x <;> simp_all
theorem cnt_apart {t : Txn} (h1 : copiesB t.mt = true) (h2 : copiesB t.dt = true) (h3 : rise t.rev = true) (h : ∀ k : Nat, k < 12 → cntI (allOf t) k ≤ 1) : apart t = true := by
  have hall : ∀ x, cntI (allOf t) x ≤ 1 := by
    intro x
    by_cases hx : 0 ≤ x ∧ x < 12
    · have := h x.toNat (by omega)
      rwa [Int.toNat_of_nonneg hx.1] at this
    · rw [cnt_all h1 h2 h3]
      have hm : hasB t.mt x = false := by
        cases hh : hasB t.mt x
        · rfl
        · obtain ⟨c, hc, rfl⟩ := hasB_mem.1 hh
          obtain ⟨k, hk, rfl⟩ := List.mem_iff_getElem.1 hc
          exact absurd (of_decide_eq_true (copies_get h1 hk).1) hx
      have hd : hasB t.dt x = false := by
        cases hh : hasB t.dt x
        · rfl
        · obtain ⟨c, hc, rfl⟩ := hasB_mem.1 hh
          obtain ⟨k, hk, rfl⟩ := List.mem_iff_getElem.1 hc
          exact absurd (of_decide_eq_true (copies_get h2 hk).1) hx
      rw [hm, hd]
      cases inI t.rev x <;> decide
  rw [apart_iff]
  refine ⟨fun x ⟨a, b⟩ => ?_, fun x ⟨a, b⟩ => ?_, fun x ⟨a, b⟩ => ?_⟩
  all_goals
    have := hall x
    rw [cnt_all h1 h2 h3, a, b] at this
  · cases hd : hasB t.dt x <;> simp [hd] at this
  · cases hd : hasB t.mt x <;> simp [hd] at this
  · cases hd : inI t.rev x <;> simp [hd] at this
/-! ### Copies, one by one -/
def okC (l : List Cpy) (k : Nat) : Prop := riseAt (blks l) k ∧ (l.getD k ⟨0, ⟨#[]⟩⟩).text.size = 32
def okTo (l : List Cpy) (n : Nat) : Prop := ∀ k, k < n → okC l k
theorem copies_okTo (l : List Cpy) : copiesB l = true ↔ okTo l l.length := by
  unfold copiesB
  rw [Bool.and_eq_true, rise_iff]
  have hl : (blks l).length = l.length := by simp [blks]
  rw [hl]
  constructor
  · rintro ⟨h1, h2⟩ k hk
    refine ⟨h1 k hk, ?_⟩
    rw [List.getD_eq_getElem?_getD, List.getElem?_eq_getElem hk]
    exact of_decide_eq_true (List.all_eq_true.1 h2 _ (List.getElem_mem hk))
  · intro h
    refine ⟨fun k hk => (h k hk).1, ?_⟩
    rw [List.all_eq_true]
    intro c hc
    obtain ⟨k, hk, rfl⟩ := List.mem_iff_getElem.1 hc
    have := (h k hk).2
    rw [List.getD_eq_getElem?_getD, List.getElem?_eq_getElem hk] at this
    exact decide_eq_true this
theorem copies_no {l : List Cpy} {k : Nat} (hk : k < l.length) (h : ¬ okC l k) : copiesB l = false := by
  cases hc : copiesB l
  · rfl
  · exact absurd ((copies_okTo l).1 hc k hk) h
/-- The block before place k. -/
def lastB (l : List Int) (k : Nat) : Int := if k = 0 then -1 else l.getD (k - 1) 0
theorem lastB_succ {l : List Int} {k : Nat} (hk : k < l.length) : lastB l (k + 1) = l[k] := by
  unfold lastB
  rw [if_neg (by omega), Nat.add_sub_cancel]
  simp [hk]
theorem okC_iff {l : List Cpy} {k : Nat} (hk : k < l.length) (hto : okTo l k) : okC l k ↔ lastB (blks l) k < l[k].block ∧ l[k].block < 12 ∧ l[k].text.size = 32 := by
  have e : (blks l).getD k 0 = l[k].block := by simp [blks, hk]
  have e2 : l.getD k ⟨0, ⟨#[]⟩⟩ = l[k] := by simp [hk]
  unfold okC riseAt lastB
  rw [e, e2]
  by_cases h0 : k = 0
  · subst h0
    simp only [Nat.lt_irrefl, false_implies, and_true, if_true]
    omega
  · rw [if_neg h0]
    have hp : 0 ≤ (blks l).getD (k - 1) 0 := (hto (k - 1) (by omega)).1.1
    constructor
    · rintro ⟨⟨a, b, c⟩, d⟩
      exact ⟨c (by omega), b, d⟩
    · rintro ⟨a, b, c⟩
      exact ⟨⟨by omega, b, fun _ => a⟩, c⟩
end Wb

namespace Wb
open Go Go.RowKit
theorem run_index_ints {P : Program} {t e : TypeId} {n : Nat} {i : TypeInfo} (w : World) (ht : P.underlying t = some (.array n e)) (hi : P.info? e = some i) (hs : i.size = 1) (hz : (isAgg e).run P w = .ok false w) (l : List Int) (hl : l.length = n) {k : Nat} (hk : k < l.length) :
    (Instr.index t (.agg (l.map (Value.int .i64)).toArray) (.int .i64 (k : Int))).run P w = .ok (.int .i64 l[k]) w := by
  have h0 : (0 : Int) ≤ (k : Int) ∧ (k : Int) < (n : Int) := by omega
  simp [Instr.index, asIntOf, run_underlying ht, h0, Go.sizeOf, typeInfo, hi, hs, part, hz, Result.andThen, hk]
  omega
end Wb

namespace Go.Proofs.Ytjhmfljlclajnac
open Go.RowKit Wb
set_option linter.unusedVariables false
set_option linter.unusedSimpArgs false

theorem elemInt : Elem Try.prog 23 3 1 8 := Elem.mk' (z := .int .i64 0) Try.underlying23 (by kernel_rfl) rfl

theorem ring_parts (n e : Int) (w : World) (h0 : 0 ≤ n) (h1 : n ≤ 24) (h2 : 10 ≤ e) (h3 : e ≤ 20) :
    Calls Try.prog 47 #[.int .i64 n, .int .i64 e] w fun e' w' => e' = .returned (.int .i64 (partsOf n e)) ∧ w = w' := by
  have h4 : (e == 0) = false := beq_eq_false_iff_ne.2 (by omega)
  go_enter Try.func47, Try.ntmps47
  go_wp2
  go_ret
  exact ⟨ret_i rfl, rfl⟩

theorem ring_Need (m r : Int) (w : World) :
    Calls Try.prog 21 #[.int .i64 m, .int .i64 r] w fun e' w' => e' = .returned (.tuple #[.int .i64 (needN m r), .int .i64 (needE m r)]) ∧ w = w' := by
  by_cases h : m < 0 ∨ m > 12 ∨ r < 0 ∨ r > 12
  · have e1 : needE m r = 2 := by simp [needE, h]
    have e2 : needN m r = 0 := by simp [needN, e1]
    rw [e1, e2]
    clear e1 e2
    go_enter Try.func21, Try.ntmps21
    go_wp2
    all_goals
      go_ret2
      exact ⟨rfl, rfl⟩
  · have e1 : needE m r = 0 := by simp [needE, h]
    have e2 : needN m r = partsOf r 20 + partsOf m 10 + m + 1 := by simp [needN, e1]
    rw [e1, e2]
    have g1 : 0 ≤ partsOf r 20 ∧ partsOf r 20 ≤ 2 := by unfold partsOf; omega
    have g2 : 0 ≤ partsOf m 10 ∧ partsOf m 10 ≤ 3 := by unfold partsOf; omega
    obtain ⟨g1, g1'⟩ := g1
    obtain ⟨g2, g2'⟩ := g2
    have a1 : 0 ≤ m := by omega
    have a2 : m ≤ 12 := by omega
    have a3 : 0 ≤ r := by omega
    have a4 : r ≤ 12 := by omega
    clear e1 e2 h
    go_enter Try.func21, Try.ntmps21
    go_wp2_with (go_at_call 47; refine (ring_parts _ _ _ (by omega) (by omega) (by omega) (by omega)).mono ?_; rintro e w' ⟨rfl, rfl⟩)
    go_ret2
    exact ⟨rfl, rfl⟩


theorem ring_Most (n : Int) (w : World) :
    Calls Try.prog 22 #[.int .i64 n] w fun e' w' => e' = .returned (.int .i64 (mostN n)) ∧ w = w' := by
  have e2 : mostN n = clamp24 n + partsOf (clamp24 n) 10 + partsOf (clamp24 n) 20 + 1 := rfl
  have g0 : 0 ≤ clamp24 n ∧ clamp24 n ≤ 24 := by unfold clamp24; omega
  have g1 : 0 ≤ partsOf (clamp24 n) 20 ∧ partsOf (clamp24 n) 20 ≤ 2 := by unfold partsOf; omega
  have g2 : 0 ≤ partsOf (clamp24 n) 10 ∧ partsOf (clamp24 n) 10 ≤ 3 := by unfold partsOf; omega
  obtain ⟨g1, g1'⟩ := g1
  obtain ⟨g2, g2'⟩ := g2
  obtain ⟨g0, g0'⟩ := g0
  rw [e2]
  have hc : (n ≤ 0 ∧ clamp24 n = 0) ∨ (24 < n ∧ clamp24 n = 24) ∨ (0 < n ∧ n ≤ 24 ∧ clamp24 n = n) := by unfold clamp24; omega
  clear e2
  generalize clamp24 n = c at *
  rcases hc with ⟨h1, rfl⟩ | ⟨h1, rfl⟩ | ⟨h1, h1', rfl⟩
  all_goals
    go_enter Try.func22, Try.ntmps22
    go_wp2_with (go_at_call 47; refine (ring_parts _ _ _ (by omega) (by omega) (by omega) (by omega)).mono ?_; rintro e w' ⟨rfl, rfl⟩)
    go_ret
    exact ⟨ret_i (by omega), rfl⟩

end Go.Proofs.Ytjhmfljlclajnac

namespace Go.Proofs.Ytjhmfljlclajnac
open Go.RowKit Wb
set_option linter.unusedVariables false
set_option linter.unusedSimpArgs false
set_option maxRecDepth 100000
set_option maxHeartbeats 4000000

theorem rlist_getD {xs : List Int} {k : Nat} (hk : k < xs.length) : xs.getD k 0 = xs[k] := by simp [hk]

theorem ref_rising (v : Value) (xs : List Int) (w : World) (hx : RL intC w v xs) :
    Calls Try.prog 53 #[v] w fun e w' => e = .returned (.bool (rise xs)) ∧ w = w' := by
  obtain ⟨a, cap, rfl, c1, c2⟩ := hx.form
  unfold maxLen at c2
  have hyes : riseTo xs xs.length → rise xs = true := (rise_iff xs).2
  have hno : ∀ k, k < xs.length → ¬ riseAt xs k → rise xs = false := fun k => rise_no
  generalize rise xs = r at *
  replace hyes := hid hyes
  replace hno := hid hno
  go_enter Try.func53, Try.ntmps53
  go_wp2
  go_loop [2, 3, 5, 8] (fun _ q _ i => ∃ (k : Nat) (p : Int), k ≤ xs.length ∧ i = .int .i64 k ∧ q = .int .i64 p ∧ riseTo xs k ∧ (k = 0 → p = -1) ∧ (0 < k → p = xs.getD (k - 1) 0)) (fun _ _ _ i => xs.length - (intOf i).toNat)
  case atStart => exact ⟨0, -1, Nat.zero_le _, rfl, rfl, fun j hj => absurd hj (Nat.not_lt_zero j), fun _ => rfl, fun h => absurd h (Nat.lt_irrefl 0)⟩
  case round =>
    obtain ⟨k, p, hk, rfl, rfl, hr, hp0, hp1⟩ := hrel
    by_cases hlt : k < xs.length
    · obtain ⟨b, off, rfl, d0⟩ := RL.at1 (fun x => .int .i64 x) (fun _ => rfl) hx hlt
      have hxk := rlist_getD hlt
      have hiff : riseAt xs k ↔ p < xs[k] ∧ xs[k] ≤ 11 := by
        unfold riseAt
        rw [hxk]
        rcases Nat.eq_zero_or_pos k with h0 | h0
        · have := hp0 h0; omega
        · have h2 := hr (k - 1) (by omega)
          unfold riseAt at h2
          have h3 := hp1 h0
          omega
      by_cases hok : p < xs[k] ∧ xs[k] ≤ 11
      · have hr1 := riseTo_succ hr (hiff.2 hok)
        replace hr1 := hid hr1
        have hp2 : xs[k] = xs.getD (k + 1 - 1) 0 := by rw [Nat.add_sub_cancel, hxk]
        replace hp2 := hid hp2
        generalize xs[k] = x at *
        obtain ⟨o1, o2⟩ := hok
        clear hiff hxk hp0 hp1 hr
        go_wp2
        go_round
        case rel => exact ⟨k + 1, x, by omega, by go_num, rfl, hr1.out, fun h => absurd h (by omega), fun _ => hp2.out⟩
        case measure => simp [intOf]; omega
      · obtain rfl := hno.out k hlt (fun hh => hok (hiff.1 hh))
        have hbad : xs[k] ≤ p ∨ 11 < xs[k] := by omega
        generalize xs[k] = x at *
        clear hiff hxk hp0 hp1 hr hok hyes
        go_wp2
        all_goals
          go_ret
          exact ⟨rfl, rfl⟩
    · obtain rfl : k = xs.length := by omega
      obtain rfl := hyes.out hr
      clear hp0 hp1 hr
      go_wp2
      go_ret
      exact ⟨rfl, rfl⟩
end Go.Proofs.Ytjhmfljlclajnac

namespace Wb
open Go Go.RowKit
theorem map_set (l : List Int) (n : Nat) (y : Int) : ((l.map (Value.int .i64)).toArray).setIfInBounds n (.int .i64 y) = ((l.set n y).map (Value.int .i64)).toArray := by
  simp [List.map_set]
theorem notGood {t : Txn} (h : seqOk t.seq = false ∨ copiesB t.mt = false ∨ copiesB t.dt = false ∨ rise t.rev = false ∨ apart t = false ∨ hOk t.h0 = false ∨ hOk t.h1 = false ∨ hOk t.h2 = false) : goodT t = false := by
  cases hg : goodT t
  · rfl
  · obtain ⟨h1, h2, h3, h4, h5, h6, h7, h8⟩ := (goodT_iff t).1 hg
    rw [h1, h2, h3, h4, h5, h6, h7, h8] at h
    simp at h
theorem hOk_iff (h : Hnd) : hOk h = true ↔ 0 ≤ h.left ∧ h.left ≤ 24 ∧ (h.on = true ∨ h.left = 0) := by
  unfold hOk; simp [and_assoc]
end Wb
namespace Go.Proofs.Ytjhmfljlclajnac
open Go.RowKit Wb
set_option linter.unusedVariables false
set_option linter.unusedSimpArgs false
set_option maxRecDepth 100000
set_option maxHeartbeats 16000000
theorem index12 (w : World) (l : List Int) (hl : l.length = 12) {k : Nat} (hk : k < l.length) :
    (Instr.index 77 (.agg (l.map (Value.int .i64)).toArray) (.int .i64 (k : Int))).run Try.prog w = .ok (.int .i64 l[k]) w := by
  obtain ⟨i, hi, _, hs, _⟩ := info_parts (show (Try.prog.info? 3).map (fun i => (i.zero, i.size, i.bytes)) = some (some (.int .i64 0), 1, 8) by kernel_rfl)
  exact run_index_ints w Try.underlying77 hi hs (by kernel_rfl) l hl hk
theorem index3 (w : World) (o0 o1 o2 : Bool) (l0 l1 l2 : Int) :
    (Instr.index 26 (.agg #[.bool o0, .int .i64 l0, .bool o1, .int .i64 l1, .bool o2, .int .i64 l2]) (.int .i64 0)).run Try.prog w = .ok (.agg #[.bool o0, .int .i64 l0]) w ∧
    (Instr.index 26 (.agg #[.bool o0, .int .i64 l0, .bool o1, .int .i64 l1, .bool o2, .int .i64 l2]) (.int .i64 1)).run Try.prog w = .ok (.agg #[.bool o1, .int .i64 l1]) w ∧
    (Instr.index 26 (.agg #[.bool o0, .int .i64 l0, .bool o1, .int .i64 l1, .bool o2, .int .i64 l2]) (.int .i64 2)).run Try.prog w = .ok (.agg #[.bool o2, .int .i64 l2]) w :=
  ⟨by kernel_rfl, by kernel_rfl, by kernel_rfl⟩

theorem ref_GoodTxn (t : Txn) (v : Value) (w : World) (h : RTxn w v t) :
    Calls Try.prog 30 #[v] w fun e w' => e = .returned (.bool (goodT t)) ∧ Below w.heap.size w w' := by
  obtain ⟨vm, vd, vr, rfl, hm, hd, hr, n1, n2, n3⟩ := h
  obtain ⟨am, cm, rfl, _⟩ := hm.form
  obtain ⟨ad, cd, rfl, _⟩ := hd.form
  obtain ⟨ar, cr, rfl, _⟩ := hr.form
  have hRi := fun v w (hh : RL intC w v t.rev) => ref_rising v t.rev w hh
  have hng := fun hh => notGood (t := t) hh
  have hix := fun w (l : List Int) (hl : l.length = 12) k (hk : k < l.length) => index12 w l hl hk
  have hi3 := fun w => index3 w t.h0.on t.h1.on t.h2.on t.h0.left t.h1.left t.h2.left
  unfold txnV
  replace hm := hid hm; replace hd := hid hd; replace hr := hid hr; replace hRi := hid hRi; replace hng := hid hng; replace hix := hid hix; replace hi3 := hid hi3
  have k00 : Blk ((w.alloc (.cells #[.int .i64 t.seq, .slice am t.mt.length cm, .slice ad t.dt.length cd, .slice ar t.rev.length cr, .bool t.h0.on, .int .i64 t.h0.left, .bool t.h1.on, .int .i64 t.h1.left, .bool t.h2.on, .int .i64 t.h2.left] 28)).alloc (.cells #[.int .i64 0, .int .i64 0, .int .i64 0, .int .i64 0, .int .i64 0, .int .i64 0, .int .i64 0, .int .i64 0, .int .i64 0, .int .i64 0, .int .i64 0, .int .i64 0] 77)) w.heap.size #[.int .i64 t.seq, .slice am t.mt.length cm, .slice ad t.dt.length cd, .slice ar t.rev.length cr, .bool t.h0.on, .int .i64 t.h0.left, .bool t.h1.on, .int .i64 t.h1.left, .bool t.h2.on, .int .i64 t.h2.left] 28 := (Blk.new w _ _).alloc _
  have kw0 : Blk ((w.alloc (.cells #[.int .i64 t.seq, .slice am t.mt.length cm, .slice ad t.dt.length cd, .slice ar t.rev.length cr, .bool t.h0.on, .int .i64 t.h0.left, .bool t.h1.on, .int .i64 t.h1.left, .bool t.h2.on, .int .i64 t.h2.left] 28)).alloc (.cells #[.int .i64 0, .int .i64 0, .int .i64 0, .int .i64 0, .int .i64 0, .int .i64 0, .int .i64 0, .int .i64 0, .int .i64 0, .int .i64 0, .int .i64 0, .int .i64 0] 77)) (w.heap.size + 1) ((cntL []).map (Value.int .i64)).toArray 77 := Blk.newAt (by simp)
  have nx0 : Below w.heap.size w ((w.alloc (.cells #[.int .i64 t.seq, .slice am t.mt.length cm, .slice ad t.dt.length cd, .slice ar t.rev.length cr, .bool t.h0.on, .int .i64 t.h0.left, .bool t.h1.on, .int .i64 t.h1.left, .bool t.h2.on, .int .i64 t.h2.left] 28)).alloc (.cells #[.int .i64 0, .int .i64 0, .int .i64 0, .int .i64 0, .int .i64 0, .int .i64 0, .int .i64 0, .int .i64 0, .int .i64 0, .int .i64 0, .int .i64 0, .int .i64 0] 77)) := bal (bal (b0 w) _) _
  go_enter Try.func30, Try.ntmps30
  go_wp2
  go_loopw [4, 6, 19] (fun la _ i wr => ∃ k : Nat, k ≤ t.mt.length ∧ i = .int .i64 k ∧ la = .int .i64 (lastB (blks t.mt) k) ∧ Hid (okTo t.mt k) ∧ Blk wr w.heap.size #[.int .i64 t.seq, .slice am t.mt.length cm, .slice ad t.dt.length cd, .slice ar t.rev.length cr, .bool t.h0.on, .int .i64 t.h0.left, .bool t.h1.on, .int .i64 t.h1.left, .bool t.h2.on, .int .i64 t.h2.left] 28 ∧ Blk wr (w.heap.size + 1) ((cntL (blks (t.mt.take k))).map (Value.int .i64)).toArray 77 ∧ Below w.heap.size w wr) (fun _ _ i _ => t.mt.length - (intOf i).toNat)
  case atStart => exact ⟨0, Nat.zero_le _, rfl, rfl, hid (fun k hk => absurd hk (Nat.not_lt_zero k)), k00, kw0, nx0⟩
  case round =>
    clear k00 kw0 nx0
    obtain ⟨k, hk, rfl, rfl, hto, k0, kw, nx⟩ := hrel
    have l0 := k0.lt
    have lw := kw.lt
    by_cases hlt : k < t.mt.length
    · obtain ⟨b1, o1, rfl, c0, c1⟩ := RL.at2 (fun x => .int .i64 x.block) (fun x => .string x.text) (fun _ => rfl) (hm.out.below nx) hlt
      have hoi := okC_iff hlt hto.out
      have hno := fun hn => hng.out (.inr (.inl (copies_no hlt hn)))
      have hsc := fun ho => (show okTo t.mt (k + 1) from fun j hj => if e : j = k then e ▸ ho else hto.out j (by omega))
      have hbl : blks (t.mt.take (k + 1)) = blks (t.mt.take k) ++ [t.mt[k].block] := by unfold blks; rw [List.take_succ_eq_append_getElem hlt, List.map_append]; rfl
      have hls : lastB (blks t.mt) (k + 1) = t.mt[k].block := by rw [lastB_succ (by simpa [blks] using hlt)]; simp [blks]
      have hcl : (cntL (blks (t.mt.take k))).length = 12 := cntL_len _
      have hlast : lastB (blks t.mt) k = -1 ∨ 0 ≤ lastB (blks t.mt) k := by
        by_cases hk0 : k = 0
        · left; subst hk0; rfl
        · right; unfold lastB; rw [if_neg hk0]; exact (hto.out (k - 1) (by omega)).1.1
      generalize t.mt[k] = x at *
      generalize lastB (blks t.mt) k = la at *
      replace hno := hid hno; replace hsc := hid hsc; replace hbl := hid hbl; replace hls := hid hls; replace hcl := hid hcl
      by_cases hA : la < x.block
      · by_cases hB : x.block < 12
        · by_cases hC : x.text.size = 32
          · have ho := hid (hsc.out (hoi.2 ⟨hA, hB, hC⟩))
            have eC : ((x.text.size : Int) != 32) = false := by rw [hC]; rfl
            obtain ⟨n, hn⟩ : ∃ n : Nat, x.block = n := ⟨x.block.toNat, by omega⟩
            have hn12 : n < 12 := by omega
            have hst := cntL_step (blks (t.mt.take k)) hn12
            have hcn := cntL_get (blks (t.mt.take k)) hn12
            have hc0 := cnt_nonneg (blks (t.mt.take k)) (n : Int)
            have hc1 := cnt_le (blks (t.mt.take k)) (n : Int)
            have hc2 : (blks (t.mt.take k)).length ≤ 11728124029610 := by simp only [blks, List.length_append, List.length_map, List.length_take]; omega
            have kwc := kw.cell n
            have kwf := kw.free n
            rw [List.getElem?_toArray, List.getElem?_map, List.getElem?_eq_getElem (by rw [cntL_len]; exact hn12), hcn, Option.map_some] at kwc
            obtain ⟨xb, xt⟩ := x
            dsimp only at hn
            subst hn
            dsimp only at *
            generalize cntI (blks (t.mt.take k)) (n : Int) = cn at *
            have hsz := nx.size
            have hn12' : (n : Int) < 12 := by omega
            clear hoi hC hcn hB hlast
            replace hst := hid hst
            go_wp2
            go_roundw
            case rel =>
              refine ⟨k + 1, by omega, by go_num, by rw [hls.out], ho, (k0.set_other _ _ (by simp)).alloc _, ?_, bal (nx.setCell (by simp) _) _⟩
              rw [hbl.out]
              have hk2 := (kw.set n (.int .i64 (cn + 1))).alloc (.cells #[.int .i64 (n : Int), .string xt] 68)
              rw [map_set] at hk2
              rw [← hst.out] at hk2; exact hk2
            case measure => simp [intOf]; omega
          · have hgf := hid (hno.out (fun ho => hC (hoi.1 ho).2.2))
            have eC : ((x.text.size : Int) != 32) = true := bne_iff_ne.2 (by omega)
            clear hoi hC
            go_wp2
            go_ret
            exact ⟨ret_b hgf.out.symm, bal nx _⟩
        · have hgf := hid (hno.out (fun ho => hB (hoi.1 ho).2.1))
          have hB2 : 11 < x.block := by omega
          clear hoi hB
          go_wp2
          go_ret
          exact ⟨ret_b hgf.out.symm, bal nx _⟩
      · have hgf := hid (hno.out (fun ho => hA (hoi.1 ho).1))
        have hA2 : x.block ≤ la := by omega
        clear hoi hA
        go_wp2
        go_ret
        exact ⟨ret_b hgf.out.symm, bal nx _⟩
    · obtain rfl : k = t.mt.length := by omega
      have hokmt := hid ((copies_okTo t.mt).2 hto.out)
      rw [List.take_length] at kw
      have c2 := k0.cell 2
      simp only [List.getElem?_toArray, List.getElem?_cons_zero, List.getElem?_cons_succ] at c2
      go_wp2
      go_loopw [4, 8, 50] (fun la _ i wr => ∃ k : Nat, k ≤ t.dt.length ∧ i = .int .i64 k ∧ la = .int .i64 (lastB (blks t.dt) k) ∧ Hid (okTo t.dt k) ∧ Blk wr w.heap.size #[.int .i64 t.seq, .slice am t.mt.length cm, .slice ad t.dt.length cd, .slice ar t.rev.length cr, .bool t.h0.on, .int .i64 t.h0.left, .bool t.h1.on, .int .i64 t.h1.left, .bool t.h2.on, .int .i64 t.h2.left] 28 ∧ Blk wr (w.heap.size + 1) ((cntL (blks t.mt ++ blks (t.dt.take k))).map (Value.int .i64)).toArray 77 ∧ Below w.heap.size w wr) (fun _ _ i _ => t.dt.length - (intOf i).toNat)
      case atStart => exact ⟨0, Nat.zero_le _, rfl, rfl, hid (fun k hk => absurd hk (Nat.not_lt_zero k)), k0, by simpa [blks] using kw, nx⟩
      case round =>
        clear k0 kw nx l0 lw c2 hto hk hlt
        obtain ⟨k, hk, rfl, rfl, hto, k0, kw, nx⟩ := hrel
        have l0 := k0.lt
        have lw := kw.lt
        by_cases hlt : k < t.dt.length
        · obtain ⟨b1, o1, rfl, c0, c1⟩ := RL.at2 (fun x => .int .i64 x.block) (fun x => .string x.text) (fun _ => rfl) (hd.out.below nx) hlt
          have hoi := okC_iff hlt hto.out
          have hno := fun hn => hng.out (.inr (.inr (.inl (copies_no hlt hn))))
          have hsc := fun ho => (show okTo t.dt (k + 1) from fun j hj => if e : j = k then e ▸ ho else hto.out j (by omega))
          have hbl : blks (t.dt.take (k + 1)) = blks (t.dt.take k) ++ [t.dt[k].block] := by unfold blks; rw [List.take_succ_eq_append_getElem hlt, List.map_append]; rfl
          have hls : lastB (blks t.dt) (k + 1) = t.dt[k].block := by rw [lastB_succ (by simpa [blks] using hlt)]; simp [blks]
          have hcl : (cntL (blks t.mt ++ blks (t.dt.take k))).length = 12 := cntL_len _
          have hlast : lastB (blks t.dt) k = -1 ∨ 0 ≤ lastB (blks t.dt) k := by
            by_cases hk0 : k = 0
            · left; subst hk0; rfl
            · right; unfold lastB; rw [if_neg hk0]; exact (hto.out (k - 1) (by omega)).1.1
          generalize t.dt[k] = x at *
          generalize lastB (blks t.dt) k = la at *
          replace hno := hid hno; replace hsc := hid hsc; replace hbl := hid hbl; replace hls := hid hls; replace hcl := hid hcl
          by_cases hA : la < x.block
          · by_cases hB : x.block < 12
            · by_cases hC : x.text.size = 32
              · have ho := hid (hsc.out (hoi.2 ⟨hA, hB, hC⟩))
                have eC : ((x.text.size : Int) != 32) = false := by rw [hC]; rfl
                obtain ⟨n, hn⟩ : ∃ n : Nat, x.block = n := ⟨x.block.toNat, by omega⟩
                have hn12 : n < 12 := by omega
                have hst := cntL_step (blks t.mt ++ blks (t.dt.take k)) hn12
                have hcn := cntL_get (blks t.mt ++ blks (t.dt.take k)) hn12
                have hc0 := cnt_nonneg (blks t.mt ++ blks (t.dt.take k)) (n : Int)
                have hc1 := cnt_le (blks t.mt ++ blks (t.dt.take k)) (n : Int)
                have hc2 : (blks t.mt ++ blks (t.dt.take k)).length ≤ 11728124029610 := by simp only [blks, List.length_append, List.length_map, List.length_take]; omega
                have kwc := kw.cell n
                have kwf := kw.free n
                rw [List.getElem?_toArray, List.getElem?_map, List.getElem?_eq_getElem (by rw [cntL_len]; exact hn12), hcn, Option.map_some] at kwc
                obtain ⟨xb, xt⟩ := x
                dsimp only at hn
                subst hn
                dsimp only at *
                rw [List.append_assoc] at hst
                generalize cntI (blks t.mt ++ blks (t.dt.take k)) (n : Int) = cn at *
                have hsz := nx.size
                have hn12' : (n : Int) < 12 := by omega
                clear hoi hC hcn hB hlast
                replace hst := hid hst
                go_wp2
                go_roundw
                case rel =>
                  refine ⟨k + 1, by omega, by go_num, by rw [hls.out], ho, (k0.set_other _ _ (by simp)).alloc _, ?_, bal (nx.setCell (by simp) _) _⟩
                  rw [hbl.out]
                  have hk2 := (kw.set n (.int .i64 (cn + 1))).alloc (.cells #[.int .i64 (n : Int), .string xt] 68)
                  rw [map_set] at hk2
                  rw [← hst.out] at hk2; exact hk2
                case measure => simp [intOf]; omega
              · have hgf := hid (hno.out (fun ho => hC (hoi.1 ho).2.2))
                have eC : ((x.text.size : Int) != 32) = true := bne_iff_ne.2 (by omega)
                clear hoi hC
                go_wp2
                go_ret
                exact ⟨ret_b hgf.out.symm, bal nx _⟩
            · have hgf := hid (hno.out (fun ho => hB (hoi.1 ho).2.1))
              have hB2 : 11 < x.block := by omega
              clear hoi hB
              go_wp2
              go_ret
              exact ⟨ret_b hgf.out.symm, bal nx _⟩
          · have hgf := hid (hno.out (fun ho => hA (hoi.1 ho).1))
            have hA2 : x.block ≤ la := by omega
            clear hoi hA
            go_wp2
            go_ret
            exact ⟨ret_b hgf.out.symm, bal nx _⟩
        · obtain rfl : k = t.dt.length := by omega
          have hokdt := hid ((copies_okTo t.dt).2 hto.out)
          rw [List.take_length] at kw
          by_cases hrr : rise t.rev = true
          rotate_left
          · have hgf := hid (hng.out (.inr (.inr (.inr (.inl (by simpa using hrr))))))
            have hRk := fun w hh => hRi.out (.slice ar t.rev.length cr) w hh
            rw [Bool.not_eq_true _ |>.mp hrr] at hRk
            replace hRk := hid hRk
            have c3 := k0.cell 3
            simp only [List.getElem?_toArray, List.getElem?_cons_zero, List.getElem?_cons_succ] at c3
            clear hrr
            go_wp2_with (go_at_call 53; go_loud ((with_reducible refine (hRk.out _ (hr.out.below nx)).mono ?_); rintro e w1 ⟨rfl, rfl⟩))
            go_ret
            exact ⟨ret_b hgf.out.symm, nx⟩
          have hRk := fun w hh => hRi.out (.slice ar t.rev.length cr) w hh
          rw [hrr] at hRk
          replace hRk := hid hRk
          have hrg := hid (fun k (hk : k < t.rev.length) => rise_get hrr hk)
          replace hrr := hid hrr
          have c3 := k0.cell 3
          simp only [List.getElem?_toArray, List.getElem?_cons_zero, List.getElem?_cons_succ] at c3
          go_wp2_with (go_at_call 53; go_loud ((with_reducible refine (hRk.out _ (hr.out.below nx)).mono ?_); rintro e w1 ⟨rfl, rfl⟩))
          go_loopw [10, 85] (fun _ i wr => ∃ k : Nat, k ≤ t.rev.length ∧ i = .int .i64 k ∧ Blk wr w.heap.size #[.int .i64 t.seq, .slice am t.mt.length cm, .slice ad t.dt.length cd, .slice ar t.rev.length cr, .bool t.h0.on, .int .i64 t.h0.left, .bool t.h1.on, .int .i64 t.h1.left, .bool t.h2.on, .int .i64 t.h2.left] 28 ∧ Blk wr (w.heap.size + 1) ((cntL ((blks t.mt ++ blks t.dt) ++ t.rev.take k)).map (Value.int .i64)).toArray 77 ∧ Below w.heap.size w wr) (fun _ i _ => t.rev.length - (intOf i).toNat)
          case atStart => exact ⟨0, Nat.zero_le _, rfl, k0, by simpa using kw, nx⟩
          case round =>
            clear k0 kw nx l0 lw c3
            obtain ⟨k, hk, rfl, k0, kw, nx⟩ := hrel
            have l0 := k0.lt
            have lw := kw.lt
            by_cases hlt : k < t.rev.length
            · obtain ⟨b1, o1, rfl, c0⟩ := RL.at1 (fun x => .int .i64 x) (fun _ => rfl) (hr.out.below nx) hlt
              obtain ⟨g1, g2, _⟩ := hrg.out k hlt
              have htk : t.rev.take (k + 1) = t.rev.take k ++ [t.rev[k]] := List.take_succ_eq_append_getElem hlt
              generalize t.rev[k] = x at *
              obtain ⟨n, rfl⟩ : ∃ n : Nat, x = n := ⟨x.toNat, by omega⟩
              have hn12 : n < 12 := by omega
              have hst := cntL_step ((blks t.mt ++ blks t.dt) ++ t.rev.take k) hn12
              have hcn := cntL_get ((blks t.mt ++ blks t.dt) ++ t.rev.take k) hn12
              have hc0 := cnt_nonneg ((blks t.mt ++ blks t.dt) ++ t.rev.take k) (n : Int)
              have hc1 := cnt_le ((blks t.mt ++ blks t.dt) ++ t.rev.take k) (n : Int)
              have hc2 : ((blks t.mt ++ blks t.dt) ++ t.rev.take k).length ≤ 29320310073770 := by simp only [blks, List.length_append, List.length_map, List.length_take]; omega
              have kwc := kw.cell n
              have kwf := kw.free n
              rw [List.getElem?_toArray, List.getElem?_map, List.getElem?_eq_getElem (by rw [cntL_len]; exact hn12), hcn, Option.map_some] at kwc
              generalize cntI ((blks t.mt ++ blks t.dt) ++ t.rev.take k) (n : Int) = cn at *
              have hn12' : (n : Int) < 12 := by omega
              clear hcn
              replace hst := hid hst; replace htk := hid htk
              go_wp2
              go_roundw
              case rel =>
                refine ⟨k + 1, by omega, by go_num, k0.set_other _ _ (by simp), ?_, nx.setCell (by simp) _⟩
                have hk2 := kw.set n (.int .i64 (cn + 1))
                rw [map_set, ← hst.out] at hk2
                rw [htk.out, ← List.append_assoc]
                exact hk2
              case measure => simp [intOf]; omega
            · obtain rfl : k = t.rev.length := by omega
              rw [List.take_length] at kw
              have hap := fun ha x => apart_cnt hokmt.out hokdt.out hrr.out ha x
              have hac := fun hh => cnt_apart hokmt.out hokdt.out hrr.out hh
              change Blk wr (w.heap.size + 1) ((cntL (allOf t)).map (Value.int .i64)).toArray 77 at kw
              have hsz : some 12 = some (((cntL (allOf t)).map (Value.int .i64)).toArray).size := by simp [cntL_len]
              have hget : ∀ k : Nat, k < 12 → (cntL (allOf t))[k]? = some (cntI (allOf t) k) := fun k hk => by rw [List.getElem?_eq_getElem (by rw [cntL_len]; exact hk), cntL_get _ hk]
              have hl12 := cntL_len (allOf t)
              have hng5 := fun (ha : ¬ apart t = true) => hng.out (.inr (.inr (.inr (.inr (.inl (by simpa using ha))))))
              generalize hcl : cntL (allOf t) = cl at *
              generalize hca : cntI (allOf t) = ca at *
              clear hcl hca
              replace hap := hid hap; replace hac := hid hac; replace hsz := hid hsz; replace hget := hid hget; replace hl12 := hid hl12; replace hng5 := hid hng5
              have kw2 := hid kw
              clear hlt
              go_wp2_with (refine wpList_load_row rfl 77 _ rfl _ rfl _ _ _ _ kw2.out Try.underlying77 rfl ((by kernel_rfl : _ = some 12).trans hsz.out) ?_)
              go_loopw [12, 96] (fun _ i wr => ∃ k : Nat, k ≤ 12 ∧ i = .int .i64 k ∧ Hid (∀ j : Nat, j < k → ca j ≤ 1) ∧ Blk wr w.heap.size #[.int .i64 t.seq, .slice am t.mt.length cm, .slice ad t.dt.length cd, .slice ar t.rev.length cr, .bool t.h0.on, .int .i64 t.h0.left, .bool t.h1.on, .int .i64 t.h1.left, .bool t.h2.on, .int .i64 t.h2.left] 28 ∧ Below w.heap.size w wr) (fun _ i _ => 12 - (intOf i).toNat)
              case atStart => exact ⟨0, by decide, rfl, hid (fun j hj => absurd hj (Nat.not_lt_zero j)), k0, nx⟩
              case round =>
                clear k0 kw kw2 nx l0 lw
                obtain ⟨k, hk, rfl, hall, k0, nx⟩ := hrel
                by_cases hlt : k < 12
                · have hixk := hix.out wr cl hl12.out k (by rw [hl12.out]; exact hlt)
                  have hg2 := hget.out k hlt
                  rw [List.getElem?_eq_getElem (by rw [hl12.out]; exact hlt)] at hg2
                  simp only [Option.some.injEq] at hg2
                  rw [hg2] at hixk
                  clear hg2
                  by_cases hc : ca k ≤ 1
                  · have hall2 := hid (show ∀ j : Nat, j < k + 1 → ca j ≤ 1 from fun j hj => by
                      rcases Nat.lt_succ_iff_lt_or_eq.1 hj with h1 | rfl
                      · exact hall.out j h1
                      · exact hc)
                    generalize ca k = cn at *
                    go_wp2
                    go_roundw
                    case rel => exact ⟨k + 1, by omega, by go_num, hall2, k0, nx⟩
                    case measure => simp [intOf]; omega
                  · have hgf := hid (hng5.out (fun ha => hc (hap.out ha k)))
                    have hc2 : 1 < ca k := by omega
                    generalize ca k = cn at *
                    clear hc
                    go_wp2
                    go_ret
                    exact ⟨ret_b hgf.out.symm, nx⟩
                · obtain rfl : k = 12 := by omega
                  have hapt := hid (hac.out (fun j hj => hall.out j hj))
                  have l0 := k0.lt
                  have e4 := k0.cell 4; have e5 := k0.cell 5; have e6 := k0.cell 6; have e7 := k0.cell 7; have e8 := k0.cell 8; have e9 := k0.cell 9
                  simp only [List.getElem?_toArray, List.getElem?_cons_zero, List.getElem?_cons_succ] at e4 e5 e6 e7 e8 e9
                  clear hlt hall
                  go_wp2
                  go_loopw [14, 104] (fun _ i wr => ∃ k : Nat, k ≤ 3 ∧ i = .int .i64 k ∧ Hid (∀ j, j < k → (if j = 0 then hOk t.h0 else if j = 1 then hOk t.h1 else hOk t.h2) = true) ∧ Blk wr w.heap.size #[.int .i64 t.seq, .slice am t.mt.length cm, .slice ad t.dt.length cd, .slice ar t.rev.length cr, .bool t.h0.on, .int .i64 t.h0.left, .bool t.h1.on, .int .i64 t.h1.left, .bool t.h2.on, .int .i64 t.h2.left] 28 ∧ Below w.heap.size w wr) (fun _ i _ => 3 - (intOf i).toNat)
                  case atStart => exact ⟨0, by decide, rfl, hid (fun j hj => absurd hj (Nat.not_lt_zero j)), k0, nx⟩
                  case round =>
                    clear k0 nx l0 e4 e5 e6 e7 e8 e9
                    obtain ⟨k, hk, rfl, hall, k0, nx⟩ := hrel
                    have l0 := k0.lt
                    by_cases hlt : k < 3
                    · obtain (rfl | rfl | rfl) : k = 0 ∨ k = 1 ∨ k = 2 := by omega
                      · -- handle 0
                        have hi := hi3.out wr
                        replace hi := hi.1
                        have hof := hOk_iff t.h0
                        have hnh := fun hh => hng.out (.inr (.inr (.inr (.inr (.inr (.inl hh))))))
                        generalize t.h0.on = o at *
                        generalize hle : t.h0.left = lf at *
                        replace hnh := hid hnh; replace hle := hid hle
                        by_cases hoo : hOk t.h0 = true
                        · obtain ⟨a1, a2, a3⟩ := hof.1 hoo
                          have hoo2 := hid hoo
                          have hall2 := hid (show ∀ j, j < 0 + 1 → (if j = 0 then hOk t.h0 else if j = 1 then hOk t.h1 else hOk t.h2) = true from by intro j hj; obtain rfl : j = 0 := (by omega); exact hoo2.out)
                          clear hof hoo
                          by_cases hz : lf = 0
                          · subst hz
                            go_wp2
                            go_roundw
                            case rel => first | exact ⟨0 + 1, by decide, rfl, hall2, k0.alloc _, bal nx _⟩ | ((repeat apply Exists.intro); exact ⟨⟨0 + 1, by decide, rfl, hall2, k0.alloc _, bal nx _⟩, rfl⟩)
                            case measure => simp [intOf]
                          · have ho : o = true := a3.resolve_right hz
                            have hz2 : 0 < lf := by omega
                            subst ho
                            clear hz a3
                            go_wp2
                            go_roundw
                            case rel => first | exact ⟨0 + 1, by decide, rfl, hall2, k0.alloc _, bal nx _⟩ | ((repeat apply Exists.intro); exact ⟨⟨0 + 1, by decide, rfl, hall2, k0.alloc _, bal nx _⟩, rfl⟩)
                            case measure => simp [intOf]
                        · replace hoo : hOk t.h0 = false := by simpa using hoo
                          have hgf := hid (hnh.out hoo)
                          have hof2 : ¬ (0 ≤ lf ∧ lf ≤ 24 ∧ (o = true ∨ lf = 0)) := fun h => by rw [hof.2 h] at hoo; cases hoo
                          clear hof hoo
                          by_cases q1 : lf < 0
                          · clear hof2
                            go_wp2
                            go_ret
                            exact ⟨ret_b hgf.out.symm, bal nx _⟩
                          · by_cases q2 : 24 < lf
                            · clear hof2
                              go_wp2
                              go_ret
                              exact ⟨ret_b hgf.out.symm, bal nx _⟩
                            · have q3 : 0 < lf := by
                                by_cases hz : lf = 0
                                · exact absurd ⟨by omega, by omega, .inr hz⟩ hof2
                                · omega
                              have q4 : o = false := by
                                cases o
                                · rfl
                                · exact absurd ⟨by omega, by omega, .inl rfl⟩ hof2
                              have q5 : 0 ≤ lf := by omega
                              have q6 : lf ≤ 24 := by omega
                              subst q4
                              clear hof2 q1 q2
                              go_wp2
                              go_ret
                              exact ⟨ret_b hgf.out.symm, bal nx _⟩
                      · -- handle 1
                        have hi := hi3.out wr
                        replace hi := hi.2.1
                        have hof := hOk_iff t.h1
                        have hnh := fun hh => hng.out (.inr (.inr (.inr (.inr (.inr (.inr (.inl hh)))))))
                        generalize t.h1.on = o at *
                        generalize hle : t.h1.left = lf at *
                        replace hnh := hid hnh; replace hle := hid hle
                        by_cases hoo : hOk t.h1 = true
                        · obtain ⟨a1, a2, a3⟩ := hof.1 hoo
                          have hoo2 := hid hoo
                          have hall2 := hid (show ∀ j, j < 1 + 1 → (if j = 0 then hOk t.h0 else if j = 1 then hOk t.h1 else hOk t.h2) = true from by intro j hj; rcases Nat.lt_succ_iff_lt_or_eq.1 hj with h1 | rfl; (· exact hall.out j h1); exact hoo2.out)
                          clear hof hoo
                          by_cases hz : lf = 0
                          · subst hz
                            go_wp2
                            go_roundw
                            case rel => first | exact ⟨1 + 1, by decide, rfl, hall2, k0.alloc _, bal nx _⟩ | ((repeat apply Exists.intro); exact ⟨⟨1 + 1, by decide, rfl, hall2, k0.alloc _, bal nx _⟩, rfl⟩)
                            case measure => simp [intOf]
                          · have ho : o = true := a3.resolve_right hz
                            have hz2 : 0 < lf := by omega
                            subst ho
                            clear hz a3
                            go_wp2
                            go_roundw
                            case rel => first | exact ⟨1 + 1, by decide, rfl, hall2, k0.alloc _, bal nx _⟩ | ((repeat apply Exists.intro); exact ⟨⟨1 + 1, by decide, rfl, hall2, k0.alloc _, bal nx _⟩, rfl⟩)
                            case measure => simp [intOf]
                        · replace hoo : hOk t.h1 = false := by simpa using hoo
                          have hgf := hid (hnh.out hoo)
                          have hof2 : ¬ (0 ≤ lf ∧ lf ≤ 24 ∧ (o = true ∨ lf = 0)) := fun h => by rw [hof.2 h] at hoo; cases hoo
                          clear hof hoo
                          by_cases q1 : lf < 0
                          · clear hof2
                            go_wp2
                            go_ret
                            exact ⟨ret_b hgf.out.symm, bal nx _⟩
                          · by_cases q2 : 24 < lf
                            · clear hof2
                              go_wp2
                              go_ret
                              exact ⟨ret_b hgf.out.symm, bal nx _⟩
                            · have q3 : 0 < lf := by
                                by_cases hz : lf = 0
                                · exact absurd ⟨by omega, by omega, .inr hz⟩ hof2
                                · omega
                              have q4 : o = false := by
                                cases o
                                · rfl
                                · exact absurd ⟨by omega, by omega, .inl rfl⟩ hof2
                              have q5 : 0 ≤ lf := by omega
                              have q6 : lf ≤ 24 := by omega
                              subst q4
                              clear hof2 q1 q2
                              go_wp2
                              go_ret
                              exact ⟨ret_b hgf.out.symm, bal nx _⟩
                      · -- handle 2
                        have hi := hi3.out wr
                        replace hi := hi.2.2
                        have hof := hOk_iff t.h2
                        have hnh := fun hh => hng.out (.inr (.inr (.inr (.inr (.inr (.inr (.inr hh)))))))
                        generalize t.h2.on = o at *
                        generalize hle : t.h2.left = lf at *
                        replace hnh := hid hnh; replace hle := hid hle
                        by_cases hoo : hOk t.h2 = true
                        · obtain ⟨a1, a2, a3⟩ := hof.1 hoo
                          have hoo2 := hid hoo
                          have hall2 := hid (show ∀ j, j < 2 + 1 → (if j = 0 then hOk t.h0 else if j = 1 then hOk t.h1 else hOk t.h2) = true from by intro j hj; rcases Nat.lt_succ_iff_lt_or_eq.1 hj with h1 | rfl; (· exact hall.out j h1); exact hoo2.out)
                          clear hof hoo
                          by_cases hz : lf = 0
                          · subst hz
                            go_wp2
                            go_roundw
                            case rel => first | exact ⟨2 + 1, by decide, rfl, hall2, k0.alloc _, bal nx _⟩ | ((repeat apply Exists.intro); exact ⟨⟨2 + 1, by decide, rfl, hall2, k0.alloc _, bal nx _⟩, rfl⟩)
                            case measure => simp [intOf]
                          · have ho : o = true := a3.resolve_right hz
                            have hz2 : 0 < lf := by omega
                            subst ho
                            clear hz a3
                            go_wp2
                            go_roundw
                            case rel => first | exact ⟨2 + 1, by decide, rfl, hall2, k0.alloc _, bal nx _⟩ | ((repeat apply Exists.intro); exact ⟨⟨2 + 1, by decide, rfl, hall2, k0.alloc _, bal nx _⟩, rfl⟩)
                            case measure => simp [intOf]
                        · replace hoo : hOk t.h2 = false := by simpa using hoo
                          have hgf := hid (hnh.out hoo)
                          have hof2 : ¬ (0 ≤ lf ∧ lf ≤ 24 ∧ (o = true ∨ lf = 0)) := fun h => by rw [hof.2 h] at hoo; cases hoo
                          clear hof hoo
                          by_cases q1 : lf < 0
                          · clear hof2
                            go_wp2
                            go_ret
                            exact ⟨ret_b hgf.out.symm, bal nx _⟩
                          · by_cases q2 : 24 < lf
                            · clear hof2
                              go_wp2
                              go_ret
                              exact ⟨ret_b hgf.out.symm, bal nx _⟩
                            · have q3 : 0 < lf := by
                                by_cases hz : lf = 0
                                · exact absurd ⟨by omega, by omega, .inr hz⟩ hof2
                                · omega
                              have q4 : o = false := by
                                cases o
                                · rfl
                                · exact absurd ⟨by omega, by omega, .inl rfl⟩ hof2
                              have q5 : 0 ≤ lf := by omega
                              have q6 : lf ≤ 24 := by omega
                              subst q4
                              clear hof2 q1 q2
                              go_wp2
                              go_ret
                              exact ⟨ret_b hgf.out.symm, bal nx _⟩
                    · obtain rfl : k = 3 := by omega
                      have e0 := k0.cell 0
                      simp only [List.getElem?_toArray, List.getElem?_cons_zero, List.getElem?_cons_succ] at e0
                      have hgt : seqOk t.seq = true → goodT t = true := fun hh => (goodT_iff t).2 ⟨hh, hokmt.out, hokdt.out, hrr.out, hapt.out, hall.out 0 (by decide), hall.out 1 (by decide), hall.out 2 (by decide)⟩
                      have hgn : seqOk t.seq = false → goodT t = false := fun hh => hng.out (.inl hh)
                      generalize hsq : t.seq = sq at *
                      replace hgt := hid hgt; replace hgn := hid hgn; replace hsq := hid hsq
                      by_cases q1 : 1 ≤ sq
                      · by_cases q2 : sq ≤ 2147483647
                        · have hv := hid (hgt.out (decide_eq_true ⟨q1, q2⟩))
                          have q3 : 0 < sq := by omega
                          have q4 : sq < 2147483648 := by omega
                          go_wp2
                          go_ret
                          exact ⟨ret_b hv.out.symm, nx⟩
                        · have hv := hid (hgn.out (decide_eq_false (fun h => q2 h.2)))
                          have q3 : 0 < sq := by omega
                          have q4 : decide (sq < 2147483648) = false := decide_eq_false (by omega)
                          go_wp2
                          go_ret
                          exact ⟨ret_b hv.out.symm, nx⟩
                      · have hv := hid (hgn.out (decide_eq_false (fun h => q1 h.1)))
                        have q3 : sq ≤ 0 := by omega
                        go_wp2
                        go_ret
                        exact ⟨ret_b hv.out.symm, nx⟩
end Go.Proofs.Ytjhmfljlclajnac

namespace Go.Proofs.Ytjhmfljlclajnac
open Go.RowKit Wb
set_option linter.unusedVariables false
set_option linter.unusedSimpArgs false
set_option maxRecDepth 100000
set_option maxHeartbeats 8000000
theorem txn_Stop (t : Txn) (h : Int) (vm vd vr : Value) (w : World) (ht : RTxn w (txnV t vm vd vr) t) :
    Calls Try.prog 44 #[txnV t vm vd vr, .int .i64 h] w fun e w' => e = .returned (.tuple #[txnV (stopT t h) vm vd vr, .int .i64 (stopE t h)]) ∧ Below w.heap.size w w' := by
  have hG0 := fun w' (hh : Below w.heap.size w w') => txn_Good t _ w' (ht.below hh)
  obtain ⟨vm', vd', vr', hvv, hm, hd, hr, n1, n2, n3⟩ := ht
  simp only [txnV, Value.agg.injEq, Array.mk.injEq, List.cons.injEq, and_true, true_and] at hvv
  obtain ⟨rfl, rfl, rfl⟩ := hvv
  obtain ⟨am, cm, rfl, _⟩ := hm.form
  obtain ⟨ad, cd, rfl, _⟩ := hd.form
  obtain ⟨ar, cr, rfl, _⟩ := hr.form
  have hH := fun w => txn_handle h w
  obtain ⟨seq, mt, dt, rev, ⟨o0, l0⟩, ⟨o1, l1⟩, ⟨o2, l2⟩⟩ := t
  unfold txnV at hG0 ⊢
  dsimp only at *
  have k0 : Blk ((w.alloc (.cells #[.int .i64 seq, .slice am mt.length cm, .slice ad dt.length cd, .slice ar rev.length cr, .bool o0, .int .i64 l0, .bool o1, .int .i64 l1, .bool o2, .int .i64 l2] 28)).alloc (.cells #[.int .i64 0, .slice none 0 0, .slice none 0 0, .slice none 0 0, .bool false, .int .i64 0, .bool false, .int .i64 0, .bool false, .int .i64 0] 28)) w.heap.size #[.int .i64 seq, .slice am mt.length cm, .slice ad dt.length cd, .slice ar rev.length cr, .bool o0, .int .i64 l0, .bool o1, .int .i64 l1, .bool o2, .int .i64 l2] 28 := (Blk.new w _ _).alloc _
  have kr : Blk ((w.alloc (.cells #[.int .i64 seq, .slice am mt.length cm, .slice ad dt.length cd, .slice ar rev.length cr, .bool o0, .int .i64 l0, .bool o1, .int .i64 l1, .bool o2, .int .i64 l2] 28)).alloc (.cells #[.int .i64 0, .slice none 0 0, .slice none 0 0, .slice none 0 0, .bool false, .int .i64 0, .bool false, .int .i64 0, .bool false, .int .i64 0] 28)) (w.heap.size + 1) #[.int .i64 0, .slice none 0 0, .slice none 0 0, .slice none 0 0, .bool false, .int .i64 0, .bool false, .int .i64 0, .bool false, .int .i64 0] 28 := Blk.newAt (by simp)
  have nx := bal (bal (b0 w) (.cells #[.int .i64 seq, .slice am mt.length cm, .slice ad dt.length cd, .slice ar rev.length cr, .bool o0, .int .i64 l0, .bool o1, .int .i64 l1, .bool o2, .int .i64 l2] 28)) (.cells #[.int .i64 0, .slice none 0 0, .slice none 0 0, .slice none 0 0, .bool false, .int .i64 0, .bool false, .int .i64 0, .bool false, .int .i64 0] 28)
  have e0 := k0.cell 0; have e1 := k0.cell 1; have e2 := k0.cell 2; have e3 := k0.cell 3; have e4 := k0.cell 4; have e5 := k0.cell 5; have e6 := k0.cell 6; have e7 := k0.cell 7; have e8 := k0.cell 8; have e9 := k0.cell 9; have r0 := kr.cell 0; have z0 := kr.free 0; have f0 := k0.free 0; have r1 := kr.cell 1; have z1 := kr.free 1; have f1 := k0.free 1; have r2 := kr.cell 2; have z2 := kr.free 2; have f2 := k0.free 2; have r3 := kr.cell 3; have z3 := kr.free 3; have f3 := k0.free 3; have r4 := kr.cell 4; have z4 := kr.free 4; have f4 := k0.free 4; have r5 := kr.cell 5; have z5 := kr.free 5; have f5 := k0.free 5; have r6 := kr.cell 6; have z6 := kr.free 6; have f6 := k0.free 6; have r7 := kr.cell 7; have z7 := kr.free 7; have f7 := k0.free 7; have r8 := kr.cell 8; have z8 := kr.free 8; have f8 := k0.free 8; have r9 := kr.cell 9; have z9 := kr.free 9; have f9 := k0.free 9; simp only [List.getElem?_toArray, List.getElem?_cons_zero, List.getElem?_cons_succ] at e0 e1 e2 e3 e4 e5 e6 e7 e8 e9 r0 r1 r2 r3 r4 r5 r6 r7 r8 r9; have l0' := k0.lt; have lr := kr.lt
  clear hm hd hr
  cases hg : goodT ⟨seq, mt, dt, rev, ⟨o0, l0⟩, ⟨o1, l1⟩, ⟨o2, l2⟩⟩ with
  | false =>
    have hv := hid (stop_bad (h := h) hg)
    have hG := fun w' hh => hG0 w' hh
    rw [hg] at hG
    replace hG := hid hG; replace hH := hid hH
    clear hg hG0
    go_enter Try.func44, Try.ntmps44
    go_wp2_with (go_at_call 20; go_loud ((with_reducible refine (hG.out _ nx).mono ?_); rintro e w1 ⟨rfl, hb1⟩; replace k0 := k0.step hb1; replace kr := kr.step hb1; replace nx := bgo nx hb1; clear e0 r0 z0 f0 e1 r1 z1 f1 e2 r2 z2 f2 e3 r3 z3 f3 e4 r4 z4 f4 e5 r5 z5 f5 e6 r6 z6 f6 e7 r7 z7 f7 e8 r8 z8 f8 e9 r9 z9 f9 l0' lr; have e0 := k0.cell 0; have e1 := k0.cell 1; have e2 := k0.cell 2; have e3 := k0.cell 3; have e4 := k0.cell 4; have e5 := k0.cell 5; have e6 := k0.cell 6; have e7 := k0.cell 7; have e8 := k0.cell 8; have e9 := k0.cell 9; have r0 := kr.cell 0; have z0 := kr.free 0; have f0 := k0.free 0; have r1 := kr.cell 1; have z1 := kr.free 1; have f1 := k0.free 1; have r2 := kr.cell 2; have z2 := kr.free 2; have f2 := k0.free 2; have r3 := kr.cell 3; have z3 := kr.free 3; have f3 := k0.free 3; have r4 := kr.cell 4; have z4 := kr.free 4; have f4 := k0.free 4; have r5 := kr.cell 5; have z5 := kr.free 5; have f5 := k0.free 5; have r6 := kr.cell 6; have z6 := kr.free 6; have f6 := k0.free 6; have r7 := kr.cell 7; have z7 := kr.free 7; have f7 := k0.free 7; have r8 := kr.cell 8; have z8 := kr.free 8; have f8 := k0.free 8; have r9 := kr.cell 9; have z9 := kr.free 9; have f9 := k0.free 9; simp only [List.getElem?_toArray, List.getElem?_cons_zero, List.getElem?_cons_succ] at e0 e1 e2 e3 e4 e5 e6 e7 e8 e9 r0 r1 r2 r3 r4 r5 r6 r7 r8 r9; have l0' := k0.lt; have lr := kr.lt))
    have nz := Wb.Below.setCells [(⟨w.heap.size + 1, 0, none⟩, .int .i64 seq), (⟨w.heap.size + 1, 1, none⟩, .slice am mt.length cm), (⟨w.heap.size + 1, 2, none⟩, .slice ad dt.length cd), (⟨w.heap.size + 1, 3, none⟩, .slice ar rev.length cr), (⟨w.heap.size + 1, 4, none⟩, .bool o0), (⟨w.heap.size + 1, 5, none⟩, .int .i64 l0), (⟨w.heap.size + 1, 6, none⟩, .bool o1), (⟨w.heap.size + 1, 7, none⟩, .int .i64 l1), (⟨w.heap.size + 1, 8, none⟩, .bool o2), (⟨w.heap.size + 1, 9, none⟩, .int .i64 l2)] _ nx (by simp)
    exact bodyPost_ret (v := .tuple #[.agg #[.int .i64 seq, .slice am mt.length cm, .slice ad dt.length cd, .slice ar rev.length cr, .bool o0, .int .i64 l0, .bool o1, .int .i64 l1, .bool o2, .int .i64 l2], .int .i64 2]) (by simp [results, Try.results44, go_sem, r0, r1, r2, r3, r4, r5, r6, r7, r8, r9]) rfl ⟨by rw [hv.out.1, hv.out.2] <;> (try rfl), nz⟩
  | true =>
    have hG := fun w' hh => hG0 w' hh
    rw [hg] at hG
    replace hG := hid hG
    clear hG0
    by_cases hh : 0 ≤ h ∧ h ≤ 2
    rotate_left
    · have hv := hid (stop_none hg (.inl hh))
      have hhf : isHnd h = false := decide_eq_false (by omega)
      rw [hhf] at hH
      replace hH := hid hH
      clear hhf hg
      by_cases hneg : h < 0
      · clear hh
        go_enter Try.func44, Try.ntmps44
        go_wp2_with (go_at_call 20; go_loud ((with_reducible refine (hG.out _ nx).mono ?_); rintro e w1 ⟨rfl, hb1⟩; replace k0 := k0.step hb1; replace kr := kr.step hb1; replace nx := bgo nx hb1; clear e0 r0 z0 f0 e1 r1 z1 f1 e2 r2 z2 f2 e3 r3 z3 f3 e4 r4 z4 f4 e5 r5 z5 f5 e6 r6 z6 f6 e7 r7 z7 f7 e8 r8 z8 f8 e9 r9 z9 f9 l0' lr; have e0 := k0.cell 0; have e1 := k0.cell 1; have e2 := k0.cell 2; have e3 := k0.cell 3; have e4 := k0.cell 4; have e5 := k0.cell 5; have e6 := k0.cell 6; have e7 := k0.cell 7; have e8 := k0.cell 8; have e9 := k0.cell 9; have r0 := kr.cell 0; have z0 := kr.free 0; have f0 := k0.free 0; have r1 := kr.cell 1; have z1 := kr.free 1; have f1 := k0.free 1; have r2 := kr.cell 2; have z2 := kr.free 2; have f2 := k0.free 2; have r3 := kr.cell 3; have z3 := kr.free 3; have f3 := k0.free 3; have r4 := kr.cell 4; have z4 := kr.free 4; have f4 := k0.free 4; have r5 := kr.cell 5; have z5 := kr.free 5; have f5 := k0.free 5; have r6 := kr.cell 6; have z6 := kr.free 6; have f6 := k0.free 6; have r7 := kr.cell 7; have z7 := kr.free 7; have f7 := k0.free 7; have r8 := kr.cell 8; have z8 := kr.free 8; have f8 := k0.free 8; have r9 := kr.cell 9; have z9 := kr.free 9; have f9 := k0.free 9; simp only [List.getElem?_toArray, List.getElem?_cons_zero, List.getElem?_cons_succ] at e0 e1 e2 e3 e4 e5 e6 e7 e8 e9 r0 r1 r2 r3 r4 r5 r6 r7 r8 r9; have l0' := k0.lt; have lr := kr.lt))
        go_wp2_with (go_at_call 48; go_loud ((with_reducible refine (hH.out _).mono ?_); rintro e w1 ⟨rfl, rfl⟩))
        have nz := Wb.Below.setCells [(⟨w.heap.size + 1, 0, none⟩, .int .i64 seq), (⟨w.heap.size + 1, 1, none⟩, .slice am mt.length cm), (⟨w.heap.size + 1, 2, none⟩, .slice ad dt.length cd), (⟨w.heap.size + 1, 3, none⟩, .slice ar rev.length cr), (⟨w.heap.size + 1, 4, none⟩, .bool o0), (⟨w.heap.size + 1, 5, none⟩, .int .i64 l0), (⟨w.heap.size + 1, 6, none⟩, .bool o1), (⟨w.heap.size + 1, 7, none⟩, .int .i64 l1), (⟨w.heap.size + 1, 8, none⟩, .bool o2), (⟨w.heap.size + 1, 9, none⟩, .int .i64 l2)] _ nx (by simp)
        exact bodyPost_ret (v := .tuple #[.agg #[.int .i64 seq, .slice am mt.length cm, .slice ad dt.length cd, .slice ar rev.length cr, .bool o0, .int .i64 l0, .bool o1, .int .i64 l1, .bool o2, .int .i64 l2], .int .i64 4]) (by simp [results, Try.results44, go_sem, r0, r1, r2, r3, r4, r5, r6, r7, r8, r9]) rfl ⟨by rw [hv.out.1, hv.out.2] <;> (try rfl), nz⟩
      · have hgt : 2 < h := by omega
        clear hh
        go_enter Try.func44, Try.ntmps44
        go_wp2_with (go_at_call 20; go_loud ((with_reducible refine (hG.out _ nx).mono ?_); rintro e w1 ⟨rfl, hb1⟩; replace k0 := k0.step hb1; replace kr := kr.step hb1; replace nx := bgo nx hb1; clear e0 r0 z0 f0 e1 r1 z1 f1 e2 r2 z2 f2 e3 r3 z3 f3 e4 r4 z4 f4 e5 r5 z5 f5 e6 r6 z6 f6 e7 r7 z7 f7 e8 r8 z8 f8 e9 r9 z9 f9 l0' lr; have e0 := k0.cell 0; have e1 := k0.cell 1; have e2 := k0.cell 2; have e3 := k0.cell 3; have e4 := k0.cell 4; have e5 := k0.cell 5; have e6 := k0.cell 6; have e7 := k0.cell 7; have e8 := k0.cell 8; have e9 := k0.cell 9; have r0 := kr.cell 0; have z0 := kr.free 0; have f0 := k0.free 0; have r1 := kr.cell 1; have z1 := kr.free 1; have f1 := k0.free 1; have r2 := kr.cell 2; have z2 := kr.free 2; have f2 := k0.free 2; have r3 := kr.cell 3; have z3 := kr.free 3; have f3 := k0.free 3; have r4 := kr.cell 4; have z4 := kr.free 4; have f4 := k0.free 4; have r5 := kr.cell 5; have z5 := kr.free 5; have f5 := k0.free 5; have r6 := kr.cell 6; have z6 := kr.free 6; have f6 := k0.free 6; have r7 := kr.cell 7; have z7 := kr.free 7; have f7 := k0.free 7; have r8 := kr.cell 8; have z8 := kr.free 8; have f8 := k0.free 8; have r9 := kr.cell 9; have z9 := kr.free 9; have f9 := k0.free 9; simp only [List.getElem?_toArray, List.getElem?_cons_zero, List.getElem?_cons_succ] at e0 e1 e2 e3 e4 e5 e6 e7 e8 e9 r0 r1 r2 r3 r4 r5 r6 r7 r8 r9; have l0' := k0.lt; have lr := kr.lt))
        go_wp2_with (go_at_call 48; go_loud ((with_reducible refine (hH.out _).mono ?_); rintro e w1 ⟨rfl, rfl⟩))
        have nz := Wb.Below.setCells [(⟨w.heap.size + 1, 0, none⟩, .int .i64 seq), (⟨w.heap.size + 1, 1, none⟩, .slice am mt.length cm), (⟨w.heap.size + 1, 2, none⟩, .slice ad dt.length cd), (⟨w.heap.size + 1, 3, none⟩, .slice ar rev.length cr), (⟨w.heap.size + 1, 4, none⟩, .bool o0), (⟨w.heap.size + 1, 5, none⟩, .int .i64 l0), (⟨w.heap.size + 1, 6, none⟩, .bool o1), (⟨w.heap.size + 1, 7, none⟩, .int .i64 l1), (⟨w.heap.size + 1, 8, none⟩, .bool o2), (⟨w.heap.size + 1, 9, none⟩, .int .i64 l2)] _ nx (by simp)
        exact bodyPost_ret (v := .tuple #[.agg #[.int .i64 seq, .slice am mt.length cm, .slice ad dt.length cd, .slice ar rev.length cr, .bool o0, .int .i64 l0, .bool o1, .int .i64 l1, .bool o2, .int .i64 l2], .int .i64 4]) (by simp [results, Try.results44, go_sem, r0, r1, r2, r3, r4, r5, r6, r7, r8, r9]) rfl ⟨by rw [hv.out.1, hv.out.2] <;> (try rfl), nz⟩
    have hht : isHnd h = true := decide_eq_true (by omega)
    rw [hht] at hH
    replace hH := hid hH
    clear hht
    obtain (rfl | rfl | rfl) : h = 0 ∨ h = 1 ∨ h = 2 := by omega
    · cases o0 with
      | false =>
        have hv := hid (stop_none (h := 0) hg (.inr (by simp [getH])))
        clear hg hh
        go_enter Try.func44, Try.ntmps44
        go_wp2_with (go_at_call 20; go_loud ((with_reducible refine (hG.out _ nx).mono ?_); rintro e w1 ⟨rfl, hb1⟩; replace k0 := k0.step hb1; replace kr := kr.step hb1; replace nx := bgo nx hb1; clear e0 r0 z0 f0 e1 r1 z1 f1 e2 r2 z2 f2 e3 r3 z3 f3 e4 r4 z4 f4 e5 r5 z5 f5 e6 r6 z6 f6 e7 r7 z7 f7 e8 r8 z8 f8 e9 r9 z9 f9 l0' lr; have e0 := k0.cell 0; have e1 := k0.cell 1; have e2 := k0.cell 2; have e3 := k0.cell 3; have e4 := k0.cell 4; have e5 := k0.cell 5; have e6 := k0.cell 6; have e7 := k0.cell 7; have e8 := k0.cell 8; have e9 := k0.cell 9; have r0 := kr.cell 0; have z0 := kr.free 0; have f0 := k0.free 0; have r1 := kr.cell 1; have z1 := kr.free 1; have f1 := k0.free 1; have r2 := kr.cell 2; have z2 := kr.free 2; have f2 := k0.free 2; have r3 := kr.cell 3; have z3 := kr.free 3; have f3 := k0.free 3; have r4 := kr.cell 4; have z4 := kr.free 4; have f4 := k0.free 4; have r5 := kr.cell 5; have z5 := kr.free 5; have f5 := k0.free 5; have r6 := kr.cell 6; have z6 := kr.free 6; have f6 := k0.free 6; have r7 := kr.cell 7; have z7 := kr.free 7; have f7 := k0.free 7; have r8 := kr.cell 8; have z8 := kr.free 8; have f8 := k0.free 8; have r9 := kr.cell 9; have z9 := kr.free 9; have f9 := k0.free 9; simp only [List.getElem?_toArray, List.getElem?_cons_zero, List.getElem?_cons_succ] at e0 e1 e2 e3 e4 e5 e6 e7 e8 e9 r0 r1 r2 r3 r4 r5 r6 r7 r8 r9; have l0' := k0.lt; have lr := kr.lt))
        go_wp2_with (go_at_call 48; go_loud ((with_reducible refine (hH.out _).mono ?_); rintro e w1 ⟨rfl, rfl⟩))
        have nz := Wb.Below.setCells [(⟨w.heap.size + 1, 0, none⟩, .int .i64 seq), (⟨w.heap.size + 1, 1, none⟩, .slice am mt.length cm), (⟨w.heap.size + 1, 2, none⟩, .slice ad dt.length cd), (⟨w.heap.size + 1, 3, none⟩, .slice ar rev.length cr), (⟨w.heap.size + 1, 4, none⟩, .bool false), (⟨w.heap.size + 1, 5, none⟩, .int .i64 l0), (⟨w.heap.size + 1, 6, none⟩, .bool o1), (⟨w.heap.size + 1, 7, none⟩, .int .i64 l1), (⟨w.heap.size + 1, 8, none⟩, .bool o2), (⟨w.heap.size + 1, 9, none⟩, .int .i64 l2)] _ nx (by simp)
        exact bodyPost_ret (v := .tuple #[.agg #[.int .i64 seq, .slice am mt.length cm, .slice ad dt.length cd, .slice ar rev.length cr, .bool false, .int .i64 l0, .bool o1, .int .i64 l1, .bool o2, .int .i64 l2], .int .i64 4]) (by simp [results, Try.results44, go_sem, r0, r1, r2, r3, r4, r5, r6, r7, r8, r9]) rfl ⟨by rw [hv.out.1, hv.out.2] <;> (try rfl), nz⟩
      | true =>
        have hv := hid (stop_ok (h := 0) hg (by decide) (by simp [getH]))
        clear hg hh
        go_enter Try.func44, Try.ntmps44
        go_wp2_with (go_at_call 20; go_loud ((with_reducible refine (hG.out _ nx).mono ?_); rintro e w1 ⟨rfl, hb1⟩; replace k0 := k0.step hb1; replace kr := kr.step hb1; replace nx := bgo nx hb1; clear e0 r0 z0 f0 e1 r1 z1 f1 e2 r2 z2 f2 e3 r3 z3 f3 e4 r4 z4 f4 e5 r5 z5 f5 e6 r6 z6 f6 e7 r7 z7 f7 e8 r8 z8 f8 e9 r9 z9 f9 l0' lr; have e0 := k0.cell 0; have e1 := k0.cell 1; have e2 := k0.cell 2; have e3 := k0.cell 3; have e4 := k0.cell 4; have e5 := k0.cell 5; have e6 := k0.cell 6; have e7 := k0.cell 7; have e8 := k0.cell 8; have e9 := k0.cell 9; have r0 := kr.cell 0; have z0 := kr.free 0; have f0 := k0.free 0; have r1 := kr.cell 1; have z1 := kr.free 1; have f1 := k0.free 1; have r2 := kr.cell 2; have z2 := kr.free 2; have f2 := k0.free 2; have r3 := kr.cell 3; have z3 := kr.free 3; have f3 := k0.free 3; have r4 := kr.cell 4; have z4 := kr.free 4; have f4 := k0.free 4; have r5 := kr.cell 5; have z5 := kr.free 5; have f5 := k0.free 5; have r6 := kr.cell 6; have z6 := kr.free 6; have f6 := k0.free 6; have r7 := kr.cell 7; have z7 := kr.free 7; have f7 := k0.free 7; have r8 := kr.cell 8; have z8 := kr.free 8; have f8 := k0.free 8; have r9 := kr.cell 9; have z9 := kr.free 9; have f9 := k0.free 9; simp only [List.getElem?_toArray, List.getElem?_cons_zero, List.getElem?_cons_succ] at e0 e1 e2 e3 e4 e5 e6 e7 e8 e9 r0 r1 r2 r3 r4 r5 r6 r7 r8 r9; have l0' := k0.lt; have lr := kr.lt))
        go_wp2_with (go_at_call 48; go_loud ((with_reducible refine (hH.out _).mono ?_); rintro e w1 ⟨rfl, rfl⟩))
        have nz := Wb.Below.setCells [(⟨w.heap.size, 4, none⟩, .bool false), (⟨w.heap.size, 5, none⟩, .int .i64 0), (⟨w.heap.size + 1, 0, none⟩, .int .i64 seq), (⟨w.heap.size + 1, 1, none⟩, .slice am mt.length cm), (⟨w.heap.size + 1, 2, none⟩, .slice ad dt.length cd), (⟨w.heap.size + 1, 3, none⟩, .slice ar rev.length cr), (⟨w.heap.size + 1, 4, none⟩, .bool false), (⟨w.heap.size + 1, 5, none⟩, .int .i64 0), (⟨w.heap.size + 1, 6, none⟩, .bool o1), (⟨w.heap.size + 1, 7, none⟩, .int .i64 l1), (⟨w.heap.size + 1, 8, none⟩, .bool o2), (⟨w.heap.size + 1, 9, none⟩, .int .i64 l2)] _ nx (by simp)
        exact bodyPost_ret (v := .tuple #[.agg #[.int .i64 seq, .slice am mt.length cm, .slice ad dt.length cd, .slice ar rev.length cr, .bool false, .int .i64 0, .bool o1, .int .i64 l1, .bool o2, .int .i64 l2], .int .i64 0]) (by simp [results, Try.results44, go_sem, r0, r1, r2, r3, r4, r5, r6, r7, r8, r9]) rfl ⟨by rw [hv.out.1, hv.out.2] <;> (try rfl), nz⟩
    · cases o1 with
      | false =>
        have hv := hid (stop_none (h := 1) hg (.inr (by simp [getH])))
        clear hg hh
        go_enter Try.func44, Try.ntmps44
        go_wp2_with (go_at_call 20; go_loud ((with_reducible refine (hG.out _ nx).mono ?_); rintro e w1 ⟨rfl, hb1⟩; replace k0 := k0.step hb1; replace kr := kr.step hb1; replace nx := bgo nx hb1; clear e0 r0 z0 f0 e1 r1 z1 f1 e2 r2 z2 f2 e3 r3 z3 f3 e4 r4 z4 f4 e5 r5 z5 f5 e6 r6 z6 f6 e7 r7 z7 f7 e8 r8 z8 f8 e9 r9 z9 f9 l0' lr; have e0 := k0.cell 0; have e1 := k0.cell 1; have e2 := k0.cell 2; have e3 := k0.cell 3; have e4 := k0.cell 4; have e5 := k0.cell 5; have e6 := k0.cell 6; have e7 := k0.cell 7; have e8 := k0.cell 8; have e9 := k0.cell 9; have r0 := kr.cell 0; have z0 := kr.free 0; have f0 := k0.free 0; have r1 := kr.cell 1; have z1 := kr.free 1; have f1 := k0.free 1; have r2 := kr.cell 2; have z2 := kr.free 2; have f2 := k0.free 2; have r3 := kr.cell 3; have z3 := kr.free 3; have f3 := k0.free 3; have r4 := kr.cell 4; have z4 := kr.free 4; have f4 := k0.free 4; have r5 := kr.cell 5; have z5 := kr.free 5; have f5 := k0.free 5; have r6 := kr.cell 6; have z6 := kr.free 6; have f6 := k0.free 6; have r7 := kr.cell 7; have z7 := kr.free 7; have f7 := k0.free 7; have r8 := kr.cell 8; have z8 := kr.free 8; have f8 := k0.free 8; have r9 := kr.cell 9; have z9 := kr.free 9; have f9 := k0.free 9; simp only [List.getElem?_toArray, List.getElem?_cons_zero, List.getElem?_cons_succ] at e0 e1 e2 e3 e4 e5 e6 e7 e8 e9 r0 r1 r2 r3 r4 r5 r6 r7 r8 r9; have l0' := k0.lt; have lr := kr.lt))
        go_wp2_with (go_at_call 48; go_loud ((with_reducible refine (hH.out _).mono ?_); rintro e w1 ⟨rfl, rfl⟩))
        have nz := Wb.Below.setCells [(⟨w.heap.size + 1, 0, none⟩, .int .i64 seq), (⟨w.heap.size + 1, 1, none⟩, .slice am mt.length cm), (⟨w.heap.size + 1, 2, none⟩, .slice ad dt.length cd), (⟨w.heap.size + 1, 3, none⟩, .slice ar rev.length cr), (⟨w.heap.size + 1, 4, none⟩, .bool o0), (⟨w.heap.size + 1, 5, none⟩, .int .i64 l0), (⟨w.heap.size + 1, 6, none⟩, .bool false), (⟨w.heap.size + 1, 7, none⟩, .int .i64 l1), (⟨w.heap.size + 1, 8, none⟩, .bool o2), (⟨w.heap.size + 1, 9, none⟩, .int .i64 l2)] _ nx (by simp)
        exact bodyPost_ret (v := .tuple #[.agg #[.int .i64 seq, .slice am mt.length cm, .slice ad dt.length cd, .slice ar rev.length cr, .bool o0, .int .i64 l0, .bool false, .int .i64 l1, .bool o2, .int .i64 l2], .int .i64 4]) (by simp [results, Try.results44, go_sem, r0, r1, r2, r3, r4, r5, r6, r7, r8, r9]) rfl ⟨by rw [hv.out.1, hv.out.2] <;> (try rfl), nz⟩
      | true =>
        have hv := hid (stop_ok (h := 1) hg (by decide) (by simp [getH]))
        clear hg hh
        go_enter Try.func44, Try.ntmps44
        go_wp2_with (go_at_call 20; go_loud ((with_reducible refine (hG.out _ nx).mono ?_); rintro e w1 ⟨rfl, hb1⟩; replace k0 := k0.step hb1; replace kr := kr.step hb1; replace nx := bgo nx hb1; clear e0 r0 z0 f0 e1 r1 z1 f1 e2 r2 z2 f2 e3 r3 z3 f3 e4 r4 z4 f4 e5 r5 z5 f5 e6 r6 z6 f6 e7 r7 z7 f7 e8 r8 z8 f8 e9 r9 z9 f9 l0' lr; have e0 := k0.cell 0; have e1 := k0.cell 1; have e2 := k0.cell 2; have e3 := k0.cell 3; have e4 := k0.cell 4; have e5 := k0.cell 5; have e6 := k0.cell 6; have e7 := k0.cell 7; have e8 := k0.cell 8; have e9 := k0.cell 9; have r0 := kr.cell 0; have z0 := kr.free 0; have f0 := k0.free 0; have r1 := kr.cell 1; have z1 := kr.free 1; have f1 := k0.free 1; have r2 := kr.cell 2; have z2 := kr.free 2; have f2 := k0.free 2; have r3 := kr.cell 3; have z3 := kr.free 3; have f3 := k0.free 3; have r4 := kr.cell 4; have z4 := kr.free 4; have f4 := k0.free 4; have r5 := kr.cell 5; have z5 := kr.free 5; have f5 := k0.free 5; have r6 := kr.cell 6; have z6 := kr.free 6; have f6 := k0.free 6; have r7 := kr.cell 7; have z7 := kr.free 7; have f7 := k0.free 7; have r8 := kr.cell 8; have z8 := kr.free 8; have f8 := k0.free 8; have r9 := kr.cell 9; have z9 := kr.free 9; have f9 := k0.free 9; simp only [List.getElem?_toArray, List.getElem?_cons_zero, List.getElem?_cons_succ] at e0 e1 e2 e3 e4 e5 e6 e7 e8 e9 r0 r1 r2 r3 r4 r5 r6 r7 r8 r9; have l0' := k0.lt; have lr := kr.lt))
        go_wp2_with (go_at_call 48; go_loud ((with_reducible refine (hH.out _).mono ?_); rintro e w1 ⟨rfl, rfl⟩))
        have nz := Wb.Below.setCells [(⟨w.heap.size, 6, none⟩, .bool false), (⟨w.heap.size, 7, none⟩, .int .i64 0), (⟨w.heap.size + 1, 0, none⟩, .int .i64 seq), (⟨w.heap.size + 1, 1, none⟩, .slice am mt.length cm), (⟨w.heap.size + 1, 2, none⟩, .slice ad dt.length cd), (⟨w.heap.size + 1, 3, none⟩, .slice ar rev.length cr), (⟨w.heap.size + 1, 4, none⟩, .bool o0), (⟨w.heap.size + 1, 5, none⟩, .int .i64 l0), (⟨w.heap.size + 1, 6, none⟩, .bool false), (⟨w.heap.size + 1, 7, none⟩, .int .i64 0), (⟨w.heap.size + 1, 8, none⟩, .bool o2), (⟨w.heap.size + 1, 9, none⟩, .int .i64 l2)] _ nx (by simp)
        exact bodyPost_ret (v := .tuple #[.agg #[.int .i64 seq, .slice am mt.length cm, .slice ad dt.length cd, .slice ar rev.length cr, .bool o0, .int .i64 l0, .bool false, .int .i64 0, .bool o2, .int .i64 l2], .int .i64 0]) (by simp [results, Try.results44, go_sem, r0, r1, r2, r3, r4, r5, r6, r7, r8, r9]) rfl ⟨by rw [hv.out.1, hv.out.2] <;> (try rfl), nz⟩
    · cases o2 with
      | false =>
        have hv := hid (stop_none (h := 2) hg (.inr (by simp [getH])))
        clear hg hh
        go_enter Try.func44, Try.ntmps44
        go_wp2_with (go_at_call 20; go_loud ((with_reducible refine (hG.out _ nx).mono ?_); rintro e w1 ⟨rfl, hb1⟩; replace k0 := k0.step hb1; replace kr := kr.step hb1; replace nx := bgo nx hb1; clear e0 r0 z0 f0 e1 r1 z1 f1 e2 r2 z2 f2 e3 r3 z3 f3 e4 r4 z4 f4 e5 r5 z5 f5 e6 r6 z6 f6 e7 r7 z7 f7 e8 r8 z8 f8 e9 r9 z9 f9 l0' lr; have e0 := k0.cell 0; have e1 := k0.cell 1; have e2 := k0.cell 2; have e3 := k0.cell 3; have e4 := k0.cell 4; have e5 := k0.cell 5; have e6 := k0.cell 6; have e7 := k0.cell 7; have e8 := k0.cell 8; have e9 := k0.cell 9; have r0 := kr.cell 0; have z0 := kr.free 0; have f0 := k0.free 0; have r1 := kr.cell 1; have z1 := kr.free 1; have f1 := k0.free 1; have r2 := kr.cell 2; have z2 := kr.free 2; have f2 := k0.free 2; have r3 := kr.cell 3; have z3 := kr.free 3; have f3 := k0.free 3; have r4 := kr.cell 4; have z4 := kr.free 4; have f4 := k0.free 4; have r5 := kr.cell 5; have z5 := kr.free 5; have f5 := k0.free 5; have r6 := kr.cell 6; have z6 := kr.free 6; have f6 := k0.free 6; have r7 := kr.cell 7; have z7 := kr.free 7; have f7 := k0.free 7; have r8 := kr.cell 8; have z8 := kr.free 8; have f8 := k0.free 8; have r9 := kr.cell 9; have z9 := kr.free 9; have f9 := k0.free 9; simp only [List.getElem?_toArray, List.getElem?_cons_zero, List.getElem?_cons_succ] at e0 e1 e2 e3 e4 e5 e6 e7 e8 e9 r0 r1 r2 r3 r4 r5 r6 r7 r8 r9; have l0' := k0.lt; have lr := kr.lt))
        go_wp2_with (go_at_call 48; go_loud ((with_reducible refine (hH.out _).mono ?_); rintro e w1 ⟨rfl, rfl⟩))
        have nz := Wb.Below.setCells [(⟨w.heap.size + 1, 0, none⟩, .int .i64 seq), (⟨w.heap.size + 1, 1, none⟩, .slice am mt.length cm), (⟨w.heap.size + 1, 2, none⟩, .slice ad dt.length cd), (⟨w.heap.size + 1, 3, none⟩, .slice ar rev.length cr), (⟨w.heap.size + 1, 4, none⟩, .bool o0), (⟨w.heap.size + 1, 5, none⟩, .int .i64 l0), (⟨w.heap.size + 1, 6, none⟩, .bool o1), (⟨w.heap.size + 1, 7, none⟩, .int .i64 l1), (⟨w.heap.size + 1, 8, none⟩, .bool false), (⟨w.heap.size + 1, 9, none⟩, .int .i64 l2)] _ nx (by simp)
        exact bodyPost_ret (v := .tuple #[.agg #[.int .i64 seq, .slice am mt.length cm, .slice ad dt.length cd, .slice ar rev.length cr, .bool o0, .int .i64 l0, .bool o1, .int .i64 l1, .bool false, .int .i64 l2], .int .i64 4]) (by simp [results, Try.results44, go_sem, r0, r1, r2, r3, r4, r5, r6, r7, r8, r9]) rfl ⟨by rw [hv.out.1, hv.out.2] <;> (try rfl), nz⟩
      | true =>
        have hv := hid (stop_ok (h := 2) hg (by decide) (by simp [getH]))
        clear hg hh
        go_enter Try.func44, Try.ntmps44
        go_wp2_with (go_at_call 20; go_loud ((with_reducible refine (hG.out _ nx).mono ?_); rintro e w1 ⟨rfl, hb1⟩; replace k0 := k0.step hb1; replace kr := kr.step hb1; replace nx := bgo nx hb1; clear e0 r0 z0 f0 e1 r1 z1 f1 e2 r2 z2 f2 e3 r3 z3 f3 e4 r4 z4 f4 e5 r5 z5 f5 e6 r6 z6 f6 e7 r7 z7 f7 e8 r8 z8 f8 e9 r9 z9 f9 l0' lr; have e0 := k0.cell 0; have e1 := k0.cell 1; have e2 := k0.cell 2; have e3 := k0.cell 3; have e4 := k0.cell 4; have e5 := k0.cell 5; have e6 := k0.cell 6; have e7 := k0.cell 7; have e8 := k0.cell 8; have e9 := k0.cell 9; have r0 := kr.cell 0; have z0 := kr.free 0; have f0 := k0.free 0; have r1 := kr.cell 1; have z1 := kr.free 1; have f1 := k0.free 1; have r2 := kr.cell 2; have z2 := kr.free 2; have f2 := k0.free 2; have r3 := kr.cell 3; have z3 := kr.free 3; have f3 := k0.free 3; have r4 := kr.cell 4; have z4 := kr.free 4; have f4 := k0.free 4; have r5 := kr.cell 5; have z5 := kr.free 5; have f5 := k0.free 5; have r6 := kr.cell 6; have z6 := kr.free 6; have f6 := k0.free 6; have r7 := kr.cell 7; have z7 := kr.free 7; have f7 := k0.free 7; have r8 := kr.cell 8; have z8 := kr.free 8; have f8 := k0.free 8; have r9 := kr.cell 9; have z9 := kr.free 9; have f9 := k0.free 9; simp only [List.getElem?_toArray, List.getElem?_cons_zero, List.getElem?_cons_succ] at e0 e1 e2 e3 e4 e5 e6 e7 e8 e9 r0 r1 r2 r3 r4 r5 r6 r7 r8 r9; have l0' := k0.lt; have lr := kr.lt))
        go_wp2_with (go_at_call 48; go_loud ((with_reducible refine (hH.out _).mono ?_); rintro e w1 ⟨rfl, rfl⟩))
        have nz := Wb.Below.setCells [(⟨w.heap.size, 8, none⟩, .bool false), (⟨w.heap.size, 9, none⟩, .int .i64 0), (⟨w.heap.size + 1, 0, none⟩, .int .i64 seq), (⟨w.heap.size + 1, 1, none⟩, .slice am mt.length cm), (⟨w.heap.size + 1, 2, none⟩, .slice ad dt.length cd), (⟨w.heap.size + 1, 3, none⟩, .slice ar rev.length cr), (⟨w.heap.size + 1, 4, none⟩, .bool o0), (⟨w.heap.size + 1, 5, none⟩, .int .i64 l0), (⟨w.heap.size + 1, 6, none⟩, .bool o1), (⟨w.heap.size + 1, 7, none⟩, .int .i64 l1), (⟨w.heap.size + 1, 8, none⟩, .bool false), (⟨w.heap.size + 1, 9, none⟩, .int .i64 0)] _ nx (by simp)
        exact bodyPost_ret (v := .tuple #[.agg #[.int .i64 seq, .slice am mt.length cm, .slice ad dt.length cd, .slice ar rev.length cr, .bool o0, .int .i64 l0, .bool o1, .int .i64 l1, .bool false, .int .i64 0], .int .i64 0]) (by simp [results, Try.results44, go_sem, r0, r1, r2, r3, r4, r5, r6, r7, r8, r9]) rfl ⟨by rw [hv.out.1, hv.out.2] <;> (try rfl), nz⟩
end Go.Proofs.Ytjhmfljlclajnac
