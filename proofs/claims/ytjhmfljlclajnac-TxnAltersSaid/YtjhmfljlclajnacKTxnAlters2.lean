/- The walks of package slices: Clone, Index, Contains, IndexFunc. Rows of elements: copies onto owned rows, for the walk. No program in sight. The walks of package slices: Insert. Altering a transaction, plainly: lists that rise, a copy put among others, a block put among numbers. No program in sight. What Good's parts, Asked, Begin, Stop and may compute. No program in sight. -/
import Derived.Test.YtjhmfljlclajnacKTxnAlters1
namespace Wb
open Go Go.RowKit
/-- The place of the first element of key b, or -1. -/
def idxK {α : Type} (key : α → Int) (l : List α) (b : Int) : Int := match l.findIdx? (fun x => key x == b) with
  | some k => (k : Int)
  | none => -1
section
variable {α : Type} {key : α → Int} {l : List α} {b : Int}
theorem idxK_hit {k : Nat} (hk : k < l.length) (h1 : key l[k] = b) (h2 : ∀ i (hi : i < k), ¬ key l[i] = b) : idxK key l b = k := by
  have : l.findIdx? (fun x => key x == b) = some k := List.findIdx?_eq_some_iff_getElem.2 ⟨hk, by simpa using h1, fun j hj => by simpa using h2 j hj⟩
  unfold idxK; rw [this]
theorem idxK_none (h2 : ∀ i (hi : i < l.length), ¬ key l[i] = b) : idxK key l b = -1 := by
  have : l.findIdx? (fun x => key x == b) = none := List.findIdx?_eq_none_iff.2 (fun x hx => by
    obtain ⟨i, hi, rfl⟩ := List.getElem_of_mem hx
    simpa using h2 i hi)
  unfold idxK; rw [this]
theorem idxK_spec (key : α → Int) (l : List α) (b : Int) : (idxK key l b = -1 ∧ ∀ i (hi : i < l.length), ¬ key l[i] = b) ∨ ∃ k : Nat, idxK key l b = k ∧ ∃ hk : k < l.length, key l[k] = b ∧ ∀ i (hi : i < k), ¬ key l[i] = b := by
  cases e : l.findIdx? (fun x => key x == b) with
  | none =>
    refine .inl ⟨by unfold idxK; rw [e], fun i hi hb => ?_⟩
    have := List.findIdx?_eq_none_iff.1 e _ (List.getElem_mem hi)
    simp [hb] at this
  | some k =>
    obtain ⟨hk, h1, h2⟩ := List.findIdx?_eq_some_iff_getElem.1 e
    exact .inr ⟨k, by unfold idxK; rw [e], hk, by simpa using h1, fun i hi => by simpa using h2 i hi⟩
end
end Wb
namespace Go.Proofs.Ytjhmfljlclajnac
open Go.RowKit Wb
set_option linter.unusedVariables false
set_option linter.unusedSimpArgs false
set_option maxRecDepth 100000
set_option maxHeartbeats 8000000
theorem slices_CloneI (l : List Int) (v : Value) (w : World) (h : RL intC w v l) (hl : l.length ≤ 17592186044160) :
    Calls Try.prog 27 #[v] w fun e w' => ∃ v', e = .returned v' ∧ Own intC w.heap.size 3 1 w' v' l ∧ Below w.heap.size w w' := by
  have hh := h
  obtain ⟨a, cap, rfl, _, _, h3⟩ := hh
  cases a with
  | none =>
    have h0 : l = [] := by
      rcases h3 with h3 | ⟨_, _, h4, _⟩
      · have hl2 := flat_len intC_flat.len l
        rw [h3] at hl2
        exact List.length_eq_zero_iff.1 (by simp at hl2; omega)
      · cases h4
    subst h0
    have heq := Lib.run_eql_slice_nil (P := Try.prog) w 23 3 none 0 cap 0 0 elemIntT.under
    clear h h3 hl
    go_enter Try.func27, Try.ntmps27
    go_wp2
    go_ret
    exact ⟨_, rfl, Own.nil _ _ _ _ _, b0 w⟩
  | some p =>
    obtain ⟨pb, po, ps⟩ := p
    replace h := hid h
    clear h3
    have h0 : Own intC w.heap.size 3 1 (w.alloc (.cells #[] 3)) (.slice (some ⟨w.heap.size, 0, none⟩) 0 0) [] := Own.ofRow (l := ([] : List Int)) intC_flat (Nat.le_refl _) (Blk.new w #[] _) (Nat.le_refl _) (by unfold maxLen; omega) rfl rfl
    have nx := bal (b0 w) (.cells #[] 3)
    have heq := Lib.run_eql_slice_nil (P := Try.prog) w 23 3 (some ⟨pb, po, ps⟩) l.length cap 0 0 elemIntT.under
    replace h0 := hid h0
    go_enter Try.func27, Try.ntmps27
    go_wp2_with (at_builtin; refine wpList_app rfl _ _ 23 rfl w.heap.size _ 1 8 intC_flat elemIntT h0.out rfl l (h.out.below nx) rfl (by simp; omega) (by simp; unfold maxLen; omega) (by simp) ?_; intro v1 w1 hown1 hg1; obtain ⟨a1, cap1, rfl⟩ := hown1.form; have nx2 := nx.trans (h0.out.belowGrown (by simp) hg1); simp only [List.nil_append, List.length_nil, Nat.zero_add] at hown1 nx2)
    go_ret
    exact ⟨_, rfl, hown1, nx2⟩
theorem slices_CloneC (l : List Cpy) (v : Value) (w : World) (h : RL cpyC w v l) (hl : l.length ≤ 5864062014805) :
    Calls Try.prog 51 #[v] w fun e w' => ∃ v', e = .returned v' ∧ Own cpyC w.heap.size 68 2 w' v' l ∧ Below w.heap.size w w' := by
  have hh := h
  obtain ⟨a, cap, rfl, _, _, h3⟩ := hh
  cases a with
  | none =>
    have h0 : l = [] := by
      rcases h3 with h3 | ⟨_, _, h4, _⟩
      · have hl2 := flat_len cpyC_flat.len l
        rw [h3] at hl2
        exact List.length_eq_zero_iff.1 (by simp at hl2; omega)
      · cases h4
    subst h0
    have heq := Lib.run_eql_slice_nil (P := Try.prog) w 22 68 none 0 cap 0 0 elemCpy.under
    clear h h3 hl
    go_enter Try.func51, Try.ntmps51
    go_wp2
    go_ret
    exact ⟨_, rfl, Own.nil _ _ _ _ _, b0 w⟩
  | some p =>
    obtain ⟨pb, po, ps⟩ := p
    replace h := hid h
    clear h3
    have h0 : Own cpyC w.heap.size 68 2 (w.alloc (.cells #[] 68)) (.slice (some ⟨w.heap.size, 0, none⟩) 0 0) [] := Own.ofRow (l := ([] : List Cpy)) cpyC_flat (Nat.le_refl _) (Blk.new w #[] _) (Nat.le_refl _) (by unfold maxLen; omega) rfl rfl
    have nx := bal (b0 w) (.cells #[] 68)
    have heq := Lib.run_eql_slice_nil (P := Try.prog) w 22 68 (some ⟨pb, po, ps⟩) l.length cap 0 0 elemCpy.under
    replace h0 := hid h0
    go_enter Try.func51, Try.ntmps51
    go_wp2_with (at_builtin; refine wpList_app rfl _ _ 22 rfl w.heap.size _ 2 24 cpyC_flat elemCpy h0.out rfl l (h.out.below nx) rfl (by simp; omega) (by simp; unfold maxLen; omega) (by simp) ?_; intro v1 w1 hown1 hg1; obtain ⟨a1, cap1, rfl⟩ := hown1.form; have nx2 := nx.trans (h0.out.belowGrown (by simp) hg1); simp only [List.nil_append, List.length_nil, Nat.zero_add] at hown1 nx2)
    go_ret
    exact ⟨_, rfl, hown1, nx2⟩
theorem slices_IndexI (l : List Int) (b : Int) (v : Value) (w : World) (h : RL intC w v l) (hl : l.length ≤ 17592186044160) :
    Calls Try.prog 54 #[v, .int .i64 b] w fun e w' => ∃ r : Int, e = .returned (.int .i64 r) ∧ (inI l b = decide (0 ≤ r)) ∧ w = w' := by
  obtain ⟨a, cap, rfl, _⟩ := h.form
  have hst := fun k (hk : k < l.length) => inI_step (l := l) (b := b) hk
  have hft := fun k (hk : ¬ k < l.length) => inI_full (l := l) (b := b) hk
  have hht := fun k (hk : k < l.length) (hb : l[k] = b) => inI_hit hk hb
  replace h := hid h; replace hst := hid hst; replace hft := hid hft; replace hht := hid hht
  go_enter Try.func54, Try.ntmps54
  go_wp2
  go_loop [8] (fun i => ∃ k : Nat, k ≤ l.length ∧ i = .int .i64 k ∧ Hid (inI (l.take k) b = false)) (fun i => l.length - (intOf i).toNat)
  case atStart => exact ⟨0, Nat.zero_le _, rfl, hid (by simp [inI])⟩
  case round =>
    obtain ⟨k, hk, rfl, hno⟩ := hrel
    by_cases hlt : k < l.length
    · obtain ⟨b1, o1, rfl, c0⟩ := RL.at1 (fun x => .int .i64 x) (fun _ => rfl) h.out hlt
      by_cases hb : l[k] = b
      · have hv := hid (hht.out k hlt hb)
        have e1 : (l[k] == b) = true := beq_iff_eq.2 hb
        have e2 : (b == l[k]) = true := beq_iff_eq.2 hb.symm
        clear hb
        generalize l[k] = x at *
        go_wp2
        go_ret
        exact ⟨_, rfl, by rw [hv.out]; exact (decide_eq_true (by omega)).symm, rfl⟩
      · have hs := hst.out k hlt
        have e1 : (l[k] == b) = false := beq_eq_false_iff_ne.2 hb
        have e2 : (b == l[k]) = false := beq_eq_false_iff_ne.2 (fun x => hb x.symm)
        rw [e1, hno.out] at hs
        replace hs := hid hs
        clear hb
        generalize l[k] = x at *
        go_wp2
        go_round
        case rel => exact ⟨k + 1, by omega, by go_num, hs⟩
        case measure => simp [intOf]; omega
    · have hv := hid (hft.out k hlt)
      obtain rfl : k = l.length := by omega
      rw [hno.out] at hv
      clear hno
      go_wp2
      go_ret
      exact ⟨_, rfl, by rw [← hv.out]; rfl, rfl⟩
theorem slices_ContainsI (l : List Int) (b : Int) (v : Value) (w : World) (h : RL intC w v l) (hl : l.length ≤ 17592186044160) :
    Calls Try.prog 37 #[v, .int .i64 b] w fun e w' => e = .returned (.bool (inI l b)) ∧ w = w' := by
  have hI := hid (slices_IndexI l b v w h hl)
  obtain ⟨a, cap, rfl, _⟩ := h.form
  clear h
  go_enter Try.func37, Try.ntmps37
  go_wp2_with (go_at_call 54; go_loud ((with_reducible refine hI.out.mono ?_); rintro e w1 ⟨r, rfl, hr, rfl⟩; replace hr := hid hr))
  go_ret
  exact ⟨ret_b hr.out.symm, rfl⟩
theorem txn_Change1 (x b : Int) (gb : Nat) (w : World) (hc : w.cell? ⟨gb, 0, none⟩ = some (.int .i64 b)) :
    Calls Try.prog 28 #[.int .i64 x, .pointer (some ⟨gb, 0, none⟩)] w fun e w' => e = .returned (.bool (x == b)) ∧ Below w.heap.size w w' := by
  by_cases hb : x = b
  · have e1 : (x == b) = true := beq_iff_eq.2 hb
    rw [e1]
    subst hb
    go_enter Try.func28, Try.ntmps28
    go_wp2
    go_ret
    exact ⟨rfl, b0 w⟩
  · have e1 : (x == b) = false := beq_eq_false_iff_ne.2 hb
    rw [e1]
    go_enter Try.func28, Try.ntmps28
    go_wp2
    go_ret
    exact ⟨rfl, b0 w⟩
theorem slices_IndexFuncI (l : List Int) (b : Int) (v : Value) (gb : Nat) (w : World) (h : RL intC w v l) (hc : w.cell? ⟨gb, 0, none⟩ = some (.int .i64 b)) (hl : l.length ≤ 17592186044160) :
    Calls Try.prog 50 #[v, .func (.func 28) #[] #[.pointer (some ⟨gb, 0, none⟩)]] w fun e w' => e = .returned (.int .i64 (idxK (fun x => x) l b)) ∧ Below w.heap.size w w' := by
  obtain ⟨a, cap, rfl, _⟩ := h.form
  have hit := hid (fun k (hk : k < l.length) (h1 : l[k] = b) h2 => idxK_hit (key := fun x => x) (b := b) hk h1 h2)
  have non := hid (fun h2 => idxK_none (key := fun x => x) (l := l) (b := b) h2)
  have hC := hid (fun x w hc => txn_Change1 x b gb w hc)
  generalize idxK (fun x => x) l b = r at *
  replace h := hid h; replace hc := hid hc
  go_enter Try.func50, Try.ntmps50
  go_wp2
  go_loopw [8] (fun i wr => ∃ k : Nat, k ≤ l.length ∧ i = .int .i64 k ∧ Below w.heap.size w wr ∧ Hid (∀ i (hi : i < l.length), i < k → ¬ l[i] = b)) (fun i _ => l.length - (intOf i).toNat)
  case atStart => exact ⟨0, Nat.zero_le _, rfl, b0 w, hid (fun i _ h => absurd h (Nat.not_lt_zero i))⟩
  case round =>
    obtain ⟨k, hk, rfl, nx, hno⟩ := hrel
    by_cases hlt : k < l.length
    · obtain ⟨b1, o1, rfl, c0⟩ := RL.at1 (fun x => .int .i64 x) (fun _ => rfl) (h.out.below nx) hlt
      have hcw := hid (cell_below nx hc.out)
      by_cases hb : l[k] = b
      · have hv := hid (hit.out k hlt hb (fun i hi => hno.out i (by omega) hi))
        have hCx := hC.out l[k] wr hcw.out
        have e1 : (l[k] == b) = true := beq_iff_eq.2 hb
        rw [e1] at hCx
        replace hCx := hid hCx
        clear hb e1 hno hit non
        generalize l[k] = x at *
        go_wp2_with (go_at_call 28; go_loud ((with_reducible refine hCx.out.mono ?_); rintro e w1 ⟨rfl, hb1⟩))
        go_ret
        exact ⟨ret_i hv.out.symm, bgo nx hb1⟩
      · have hno2 : Hid (∀ i (hi : i < l.length), i < k + 1 → ¬ l[i] = b) := hid (fun i hi h2 => by
          by_cases e : i = k
          · subst e; exact hb
          · exact hno.out i hi (by omega))
        have hCx := hC.out l[k] wr hcw.out
        have e1 : (l[k] == b) = false := beq_eq_false_iff_ne.2 hb
        rw [e1] at hCx
        replace hCx := hid hCx
        clear hb e1 hno hit non
        generalize l[k] = x at *
        go_wp2_with (go_at_call 28; go_loud ((with_reducible refine hCx.out.mono ?_); rintro e w1 ⟨rfl, hb1⟩))
        go_roundw
        case rel => first | exact ⟨k + 1, by omega, by go_num, bgo nx hb1, hno2⟩ | ((repeat apply Exists.intro); exact ⟨⟨k + 1, by omega, by go_num, bgo nx hb1, hno2⟩, rfl⟩)
        case measure => simp [intOf]; omega
    · obtain rfl : k = l.length := by omega
      have hv := hid (non.out (fun i hi => hno.out i hi hi))
      clear hno hit non
      go_wp2
      go_ret
      exact ⟨ret_i hv.out.symm, nx⟩
theorem txn_drop1 (x : Cpy) (b : Int) (gb : Nat) (w : World) (hc : w.cell? ⟨gb, 0, none⟩ = some (.int .i64 b)) :
    Calls Try.prog 56 #[.agg #[.int .i64 x.block, .string x.text], .pointer (some ⟨gb, 0, none⟩)] w fun e w' => e = .returned (.bool (x.block == b)) ∧ Below w.heap.size w w' := by
  obtain ⟨x, s⟩ := x
  have k0 := Blk.new w #[.int .i64 x, .string s] 68
  have c0 := k0.cell 0; have c1 := k0.cell 1
  have hc2 := cell_below (bal (b0 w) (.cells #[.int .i64 x, .string s] 68)) hc
  simp only [List.getElem?_toArray, List.getElem?_cons_zero, List.getElem?_cons_succ] at c0 c1
  dsimp only
  by_cases hb : x = b
  · have e1 : (x == b) = true := beq_iff_eq.2 hb
    rw [e1]
    subst hb
    go_enter Try.func56, Try.ntmps56
    go_wp2
    go_ret
    exact ⟨rfl, bal (b0 w) _⟩
  · have e1 : (x == b) = false := beq_eq_false_iff_ne.2 hb
    rw [e1]
    go_enter Try.func56, Try.ntmps56
    go_wp2
    go_ret
    exact ⟨rfl, bal (b0 w) _⟩
theorem slices_IndexFuncC (l : List Cpy) (b : Int) (v : Value) (gb : Nat) (w : World) (h : RL cpyC w v l) (hc : w.cell? ⟨gb, 0, none⟩ = some (.int .i64 b)) (hl : l.length ≤ 5864062014805) :
    Calls Try.prog 74 #[v, .func (.func 56) #[] #[.pointer (some ⟨gb, 0, none⟩)]] w fun e w' => e = .returned (.int .i64 (idxK (fun x => x.block) l b)) ∧ Below w.heap.size w w' := by
  obtain ⟨a, cap, rfl, _⟩ := h.form
  have hit := hid (fun k (hk : k < l.length) (h1 : l[k].block = b) h2 => idxK_hit (key := fun x => x.block) (b := b) hk h1 h2)
  have non := hid (fun h2 => idxK_none (key := fun x => x.block) (l := l) (b := b) h2)
  have hC := hid (fun x w hc => txn_drop1 x b gb w hc)
  generalize idxK (fun x => x.block) l b = r at *
  replace h := hid h; replace hc := hid hc
  go_enter Try.func74, Try.ntmps74
  go_wp2
  go_loopw [8] (fun i wr => ∃ k : Nat, k ≤ l.length ∧ i = .int .i64 k ∧ Below w.heap.size w wr ∧ Hid (∀ i (hi : i < l.length), i < k → ¬ l[i].block = b)) (fun i _ => l.length - (intOf i).toNat)
  case atStart => exact ⟨0, Nat.zero_le _, rfl, b0 w, hid (fun i _ h => absurd h (Nat.not_lt_zero i))⟩
  case round =>
    obtain ⟨k, hk, rfl, nx, hno⟩ := hrel
    by_cases hlt : k < l.length
    · obtain ⟨b1, o1, rfl, c0, c1⟩ := RL.at2 (fun x => .int .i64 x.block) (fun x => .string x.text) (fun _ => rfl) (h.out.below nx) hlt
      have hcw := hid (cell_below nx hc.out)
      by_cases hb : l[k].block = b
      · have hv := hid (hit.out k hlt hb (fun i hi => hno.out i (by omega) hi))
        have hCx := hC.out l[k] wr hcw.out
        have e1 : (l[k].block == b) = true := beq_iff_eq.2 hb
        rw [e1] at hCx
        replace hCx := hid hCx
        clear hb e1 hno hit non
        generalize l[k] = x at *
        go_wp2_with (go_at_call 56; go_loud ((with_reducible refine hCx.out.mono ?_); rintro e w1 ⟨rfl, hb1⟩))
        go_ret
        exact ⟨ret_i hv.out.symm, bgo nx hb1⟩
      · have hno2 : Hid (∀ i (hi : i < l.length), i < k + 1 → ¬ l[i].block = b) := hid (fun i hi h2 => by
          by_cases e : i = k
          · subst e; exact hb
          · exact hno.out i hi (by omega))
        have hCx := hC.out l[k] wr hcw.out
        have e1 : (l[k].block == b) = false := beq_eq_false_iff_ne.2 hb
        rw [e1] at hCx
        replace hCx := hid hCx
        clear hb e1 hno hit non
        generalize l[k] = x at *
        go_wp2_with (go_at_call 56; go_loud ((with_reducible refine hCx.out.mono ?_); rintro e w1 ⟨rfl, hb1⟩))
        go_roundw
        case rel => first | exact ⟨k + 1, by omega, by go_num, bgo nx hb1, hno2⟩ | ((repeat apply Exists.intro); exact ⟨⟨k + 1, by omega, by go_num, bgo nx hb1, hno2⟩, rfl⟩)
        case measure => simp [intOf]; omega
    · obtain rfl : k = l.length := by omega
      have hv := hid (non.out (fun i hi => hno.out i hi hi))
      clear hno hit non
      go_wp2
      go_ret
      exact ⟨ret_i hv.out.symm, nx⟩
end Go.Proofs.Ytjhmfljlclajnac

namespace Wb
open Go Go.RowKit
set_option linter.unusedVariables false
set_option linter.unusedSimpArgs false
section
variable {P : Program} {w : World} {ops : Array Oper} {rest : List Oper} {o : Oper} {a : Act} {Q : Exit → Act → World → Prop}
theorem wpList_copyR (hgd : o.guard = none) (d s : Operand) (t t' : TypeId) (ho : o.op = .call { callee := .builtin .copy, args := #[d, s], argTypes := #[t, t'] }) {v u v' : Value} {w' : World}
    (hr : (Builtin.copy_ #[t, t'] o.type #[v, u]).run P w = .ok v' w') (hd : a.eval d = v) (hs : a.eval s = u) (h : wpList P ops Q rest (a.put o.dst v') w') : wpList P ops Q (o :: rest) a w := by
  refine wpList_plain hgd fun K hK => ?_
  unfold Oper.wp execOp
  simp only [ho, resolve, invoke, builtin, Sem.run_bind, Sem.run_pure, Result.andThen_ok, List.map_toArray, List.map_cons, List.map_nil, hd, hs, hr]
  exact hK _ _ h
theorem wpList_appR (hgd : o.guard = none) (d s : Operand) (t t' : TypeId) (ho : o.op = .call { callee := .builtin .append, args := #[d, s], argTypes := #[t, t'] }) {v u v' : Value} {w' : World}
    (hr : (Builtin.append_ #[t, t'] o.type #[v, u]).run P w = .ok v' w') (hd : a.eval d = v) (hs : a.eval s = u) (h : wpList P ops Q rest (a.put o.dst v') w') : wpList P ops Q (o :: rest) a w := by
  refine wpList_plain hgd fun K hK => ?_
  unfold Oper.wp execOp
  simp only [ho, resolve, invoke, builtin, Sem.run_bind, Sem.run_pure, Result.andThen_ok, List.map_toArray, List.map_cons, List.map_nil, hd, hs, hr]
  exact hK _ _ h
theorem wpList_clearR (hgd : o.guard = none) (s : Operand) (t : TypeId) (ho : o.op = .call { callee := .builtin .clear, args := #[s], argTypes := #[t] }) (u : Value) (hs : a.eval s = u) {v' : Value} {w' : World}
    (hr : (Builtin.clear_ #[t] o.type #[u]).run P w = .ok v' w') (h : wpList P ops Q rest (a.put o.dst v') w') : wpList P ops Q (o :: rest) a w := by
  refine wpList_plain hgd fun K hK => ?_
  unfold Oper.wp execOp
  simp only [ho, resolve, invoke, builtin, Sem.run_bind, Sem.run_pure, Result.andThen_ok, List.map_toArray, List.map_cons, List.map_nil, hs, hr]
  exact hK _ _ h
theorem step_copyR {K : Act → World → Prop} {E : Prop} (hg : o.guard = none) (d s : Operand) (t t' : TypeId) (ho : o.op = .call { callee := .builtin .copy, args := #[d, s], argTypes := #[t, t'] }) {v u v' : Value} {w' : World}
    (hr : (Builtin.copy_ #[t, t'] o.type #[v, u]).run P w = .ok v' w') (hd : a.eval d = v) (hs : a.eval s = u) (hK : K (a.put o.dst v') w') : if Region.wanted o (yielded ops a.tmps) = true then Oper.wp P o a w K Q else E := by
  have hw : Region.wanted o (yielded ops a.tmps) = true := by simp [Region.wanted, hg]
  rw [if_pos hw]
  unfold Oper.wp execOp
  simp only [ho, resolve, invoke, builtin, Sem.run_bind, Sem.run_pure, Result.andThen_ok, List.map_toArray, List.map_cons, List.map_nil, hd, hs, hr]
  exact hK
theorem run_copy_blk {dT elem : TypeId} {c bytes : Nat} (hT : Elem P dT elem c bytes) (w : World) (sT ty : TypeId) {g : Nat} {cur : Array Value} (hk : Blk w g cur elem) (off dLen dCap : Nat) (b soff sLen sCap : Nat) (cs : List Value)
    (hn : cs.length = Nat.min sLen dLen * c) (hsrc : ∀ j v, cs[j]? = some v → w.cell? ⟨b, soff + j, none⟩ = some v) (hfit : off + cs.length ≤ cur.size) (h1 : ∀ v ∈ cs, v.oneCell' = true) :
    (Builtin.copy_ #[dT, sT] ty #[.slice (some ⟨g, off, none⟩) dLen dCap, .slice (some ⟨b, soff, none⟩) sLen sCap]).run P w = .ok (goInt (Nat.min sLen dLen : Nat)) (w.setCells g off cs) := by
  obtain ⟨hu, i, z, hi, hz, hsz, hby, hzs⟩ := hT
  exact run_copy_c w dT sT ty elem c g off dLen dCap ⟨b, soff, none⟩ sLen sCap cs hu (by rw [hi]; simp [hsz]) hn (fun j v hj => by rw [Addr.add_lit]; exact hsrc j v hj) (fun j hj => by rw [hk.cell, Array.getElem?_eq_getElem (by omega)]; rfl) (fun j hj => hk.free _) h1
end
section
variable {α : Type} {f : α → List Value} {base : Nat} {e : TypeId} {c : Nat} {l : List α}
theorem flat_one (hF : Flat f c) (l : List α) : ∀ u ∈ l.flatMap f, u.oneCell' = true := fun u hu => by obtain ⟨x, _, hx⟩ := List.mem_flatMap.1 hu; exact hF.one x u hx
theorem insLen {i : Nat} (x : α) (hi : i ≤ l.length) : (l.take i ++ x :: l.drop i).length = l.length + 1 := by
  rw [List.length_append, List.length_take, List.length_cons, List.length_drop]; omega
theorem ins_shift (hF : Flat f c) {g cap i : Nat} {cur : Array Value} (hbg : base ≤ g) (hmax : cap ≤ maxLen) (hsz : cur.size = cap * c) (htk : cur.toList.take (l.length * c) = l.flatMap f) (hi : i ≤ l.length) (hc : l.length + 1 ≤ cap) (x : α) {w0 : World} (hk : Blk w0 g cur e) :
    ∃ cur1 : Array Value, cur1.size = cap * c ∧ Blk (w0.setCells g ((i + 1) * c) ((l.drop i).flatMap f)) g cur1 e ∧ ∀ w1, Blk w1 g cur1 e → Own f base e c (w1.setCells g (i * c) (f x)) (.slice (some ⟨g, 0, none⟩) (l.length + 1) cap) (l.take i ++ x :: l.drop i) := by
  have hd := flat_dropLen hF.len l i
  have hm := mul_split (c := c) hi
  have hm2 : (l.length + 1) * c ≤ cap * c := Nat.mul_le_mul_right _ hc
  rw [Nat.succ_mul] at hm2
  have b1 := Blk.sets ((l.drop i).flatMap f) ((i + 1) * c) w0 cur hk (by rw [hd, hsz, Nat.succ_mul]; omega)
  have hs1 : (cur.toList.take ((i + 1) * c) ++ (l.drop i).flatMap f ++ cur.toList.drop ((i + 1) * c + ((l.drop i).flatMap f).length)).length = cap * c := by
    simp only [List.length_append, List.length_take, List.length_drop, Array.length_toList, hsz, hd, Nat.succ_mul]
    omega
  refine ⟨_, by simpa using hs1, b1, fun w1 k1 => ?_⟩
  have b2 := Blk.sets (f x) (i * c) w1 _ k1 (by rw [hF.len, List.size_toArray, hs1]; omega)
  obtain ⟨h1, h2⟩ := ins_room hF.len cur.toList l i cap x (by rw [Array.length_toList]; exact hsz) htk hi hc rfl rfl
  have := Own.ofRow (l := l.take i ++ x :: l.drop i) (base := base) hF hbg b2 (by rw [insLen x hi]; exact hc) hmax (by rw [List.size_toArray]; exact h1) (by rw [insLen x hi]; exact h2)
  rw [insLen x hi] at this
  exact this
theorem ins_grown (hF : Flat f c) {g cap i : Nat} {cur : Array Value} (Z : List Value) (hbg : base ≤ g) (hmax : cap ≤ maxLen) (hZ : Z.length = (cap - i) * c) (hcur : cur = ((l.take i).flatMap f ++ Z).toArray) (hi : i ≤ l.length) (hc : l.length + 1 ≤ cap) (x : α) {w0 : World} (hk : Blk w0 g cur e) :
    cur.size = cap * c ∧ ∃ cur1 : Array Value, cur1.size = cap * c ∧ Blk (w0.setCells g (i * c) (f x)) g cur1 e ∧ ∀ w1, Blk w1 g cur1 e → Own f base e c (w1.setCells g ((i + 1) * c) ((l.drop i).flatMap f)) (.slice (some ⟨g, 0, none⟩) (l.length + 1) cap) (l.take i ++ x :: l.drop i) := by
  have hd := flat_dropLen hF.len l i
  have hm := mul_split (c := c) hi
  have hm2 : (l.length + 1) * c ≤ cap * c := Nat.mul_le_mul_right _ hc
  have hm3 := mul_split (c := c) (n := cap) (i := i) (by omega)
  have h4 := flat_len hF.len (l.take i)
  rw [List.length_take, Nat.min_eq_left hi] at h4
  rw [Nat.succ_mul] at hm2
  have hs0 : cur.size = cap * c := by rw [hcur, List.size_toArray, List.length_append, h4, hZ]; exact hm3
  refine ⟨hs0, ?_⟩
  have b1 := Blk.sets (f x) (i * c) w0 cur hk (by rw [hF.len, hs0]; omega)
  have hs1 : (cur.toList.take (i * c) ++ f x ++ cur.toList.drop (i * c + (f x).length)).length = cap * c := by
    simp only [List.length_append, List.length_take, List.length_drop, Array.length_toList, hs0, hF.len]
    omega
  refine ⟨_, by simpa using hs1, b1, fun w1 k1 => ?_⟩
  have b2 := Blk.sets ((l.drop i).flatMap f) ((i + 1) * c) w1 _ k1 (by rw [hd, List.size_toArray, hs1, Nat.succ_mul]; omega)
  obtain ⟨h1, h2⟩ := ins_grow hF.len Z l i cap x hZ hi hc (L := cur.toList) (by rw [hcur]) rfl rfl
  have := Own.ofRow (l := l.take i ++ x :: l.drop i) (base := base) hF hbg b2 (by rw [insLen x hi]; exact hc) hmax (by rw [List.size_toArray]; exact h1) (by rw [insLen x hi]; exact h2)
  rw [insLen x hi] at this
  exact this
/-- append(s[:i], make(.., m)...), no room: a new row. -/
theorem run_app_make {P : Program} {t tn : TypeId} {bytes : Nat} (hF : Flat f c) (hT : Elem P t e c bytes) (htn : P.underlying tn = some (.int .i64)) (w : World) {g cap i m : Nat} {cur : Array Value} (hk : Blk w g cur e) (htk : cur.toList.take (l.length * c) = l.flatMap f) (hi : i ≤ l.length) (hm : 0 < m) (hg : cap < i + m)
    (hroom : (i + m) * bytes ≤ 140737488355328) (h63 : i + m ≤ maxLen) :
    ∃ Z : List Value, Z.length = (grownCap w (i + m) cap e - i) * c ∧ ∀ ty, (Builtin.append_ #[t, tn] ty #[.slice (some ⟨g, 0, none⟩) i cap, .int .i64 m]).run P w =
      .ok (.slice (some ⟨w.heap.size, 0, none⟩) (i + m) (grownCap w (i + m) cap e)) (w.drew.alloc (.cells ((l.take i).flatMap f ++ Z).toArray e)) := by
  obtain ⟨hu, io, z, hio, hz, hsz, hby, hzs⟩ := hT
  have hold : (Builtin.firstCells io.size i (.slice (some ⟨g, 0, none⟩) i cap)).run P w.drew = .ok ((l.take i).flatMap f).toArray w.drew := by
    have h4 := flat_len hF.len (l.take i)
    rw [List.length_take, Nat.min_eq_left hi] at h4
    refine run_firstCells_some w.drew io.size i ⟨g, 0, none⟩ i cap _ (by rw [h4, hsz]) (fun j u hj => ?_)
    have hlt : j < ((l.take i).flatMap f).length := (List.getElem?_eq_some_iff.1 hj).1
    rw [Addr.add_lit, Nat.zero_add]
    have h5 : (l.flatMap f)[j]? = some u := by
      conv => lhs; rw [← List.take_append_drop i l]
      rw [List.flatMap_append, List.getElem?_append_left hlt]
      exact hj
    rw [← htk, List.getElem?_take] at h5
    split at h5
    · show w.cell? _ = _
      rw [hk.cell, ← h5]
      simp
    · cases h5
  have hby' : m * bytes ≤ (i + m) * bytes := Nat.mul_le_mul_right _ (by omega)
  have hr := fun ty => Lib.run_append_grow_zeros w t tn ty e io z .i64 .i64 hu htn hio hz (some ⟨g, 0, none⟩) i cap _ hold m hm (by rw [hsz]; exact hF.pos) hg (by unfold maxLen at h63; omega) (by rw [hby]; omega) (by rw [hby]; exact growslice_fits hg hroom)
  have hge := grownCap_ge w (i + m) cap e
  refine ⟨(Builtin.zeroCells z.cells m).toList ++ (Builtin.zeroCells z.cells (grownCap w (i + m) cap e - (i + m))).toList, ?_, ?_⟩
  · rw [List.length_append, Array.length_toList, Array.length_toList, size_zeroCells, size_zeroCells, hzs, ← Nat.add_mul]
    congr 1
    omega
  · intro ty
    rw [hr]
    congr 3
    apply Array.ext'
    simp [List.append_assoc]
end
end Wb

namespace Go.Proofs.Ytjhmfljlclajnac
open Go.RowKit Wb
set_option linter.unusedVariables false
set_option linter.unusedSimpArgs false
set_option maxRecDepth 100000
set_option maxHeartbeats 8000000
theorem slices_InsertC (l : List Cpy) (i : Nat) (x : Cpy) (v : Value) (vb base : Nat) (w : World) (h : Own cpyC base 68 2 w v l) (hbase : base ≤ w.heap.size) (hx : Blk w vb #[.int .i64 x.block, .string x.text] 68) (hvb : v.ownBlock ≠ some vb) (hi : i ≤ l.length) (hl : l.length ≤ 1000000) :
    Calls Try.prog 52 #[v, .int .i64 i, .slice (some ⟨vb, 0, none⟩) 1 1] w fun e w' => ∃ v', e = .returned v' ∧ Own cpyC base 68 2 w' v' (l.take i ++ x :: l.drop i) ∧ Below base w w' := by
  have hrx : RL cpyC w (.slice (some ⟨vb, 0, none⟩) 1 1) [x] := RL.ofBlk (e := 68) [x] (by simpa [cpyC] using hx) (by simp [maxLen])
  by_cases hn : i = l.length
  · subst hn
    have e1 : l.take l.length ++ x :: l.drop l.length = l ++ [x] := by simp
    rw [e1]
    obtain ⟨a, cap, rfl, hc1, hc2⟩ := h.reads.form
    have hg : a = none ∧ cap = 0 ∨ ∃ g, a = some ⟨g, 0, none⟩ := by
      rcases h.2 with ⟨h1, _⟩ | ⟨g, cap', cur, h1, _⟩
      · simp only [Value.slice.injEq] at h1
        exact .inl ⟨h1.1, h1.2.2⟩
      · simp only [Value.slice.injEq] at h1
        exact .inr ⟨g, h1.1⟩
    replace h := hid h; replace hrx := hid hrx
    clear hx hvb e1
    rcases hg with ⟨rfl, rfl⟩ | ⟨g, rfl⟩
    · go_enter Try.func52, Try.ntmps52
      go_wp2_with (at_builtin; refine wpList_app rfl _ _ 22 rfl base _ 2 24 cpyC_flat elemCpy h.out rfl [x] hrx.out rfl (by simp; omega) (by simp; unfold maxLen; omega) hbase ?_; intro v1 w1 hown1 hg1; obtain ⟨a1, cap1, rfl⟩ := hown1.form; have nx := h.out.belowGrown hbase hg1; simp only [len1] at hown1)
      go_ret
      exact ⟨_, rfl, hown1, nx⟩
    · by_cases hcc : cap = l.length
      · subst hcc
        go_enter Try.func52, Try.ntmps52
        go_wp2_with (at_builtin; refine wpList_app rfl _ _ 22 rfl base _ 2 24 cpyC_flat elemCpy h.out rfl [x] hrx.out rfl (by simp; omega) (by simp; unfold maxLen; omega) hbase ?_; intro v1 w1 hown1 hg1; obtain ⟨a1, cap1, rfl⟩ := hown1.form; have nx := h.out.belowGrown hbase hg1; simp only [len1] at hown1)
        go_ret
        exact ⟨_, rfl, hown1, nx⟩
      · go_enter Try.func52, Try.ntmps52
        go_wp2_with (at_builtin; refine wpList_app rfl _ _ 22 rfl base _ 2 24 cpyC_flat elemCpy h.out rfl [x] hrx.out rfl (by simp; omega) (by simp; unfold maxLen; omega) hbase ?_; intro v1 w1 hown1 hg1; obtain ⟨a1, cap1, rfl⟩ := hown1.form; have nx := h.out.belowGrown hbase hg1; simp only [len1] at hown1)
        go_ret
        exact ⟨_, rfl, hown1, nx⟩
  · have hlt : i < l.length := by omega
    obtain ⟨g, cap, cur, rfl, hbg, hkk, hcap, hmax, hsz, htk⟩ := h.row (by omega)
    have hne : vb ≠ g := fun h2 => hvb (by rw [h2]; rfl)
    have hn1 : ¬ ((i : Int) = (l.length : Int)) := by omega
    have hcells := row_from cpyC_flat.len hkk htk hi
    have hxc := fun j u (hj : (cpyC x)[j]? = some u) => (show w.cell? ⟨vb, 0 + j, none⟩ = some u by rw [hx.cell, Nat.zero_add, ← hj]; simp [cpyC])
    have hdl := flat_dropLen cpyC_flat.len l i
    have hfx := cpyC_flat.len x
    have hci : ¬ (cap = i) := by omega
    have hin : (i : Int) ≤ (l.length : Int) := by omega
    have hw1 : IntKind.i64.wrap ((i : Int) + 1) = (i : Int) + 1 := IntWalk.i64_in _ (by omega)
    have hw2 : IntKind.i64.wrap ((l.length : Int) + 1) = (l.length : Int) + 1 := IntWalk.i64_in _ (by omega)
    have ht1 : ((i : Int) + 1).toNat = i + 1 := by omega
    have hb1 : (0 : Int) ≤ (i : Int) + 1 := by omega
    have hb3 : (i : Int) ≤ (l.length : Int) + 1 := by omega
    have ht2 : ((l.length : Int) + 1).toNat = l.length + 1 := by omega
    by_cases hroom : l.length + 1 ≤ cap
    · have hci2 : ¬ (cap = i + 1) := by omega
      have hz : ∀ w, (Go.sizeOf 68).run Try.prog w = .ok 2 w := fun w => by
        obtain ⟨io, z, h1, h2, h3, _⟩ := elemCpy.info
        simp [Go.sizeOf, typeInfo, h1, h3]
      have hcz : cur.size ≠ 0 := by rw [hsz]; have := Nat.mul_le_mul_right 2 hroom; omega
      have hov : ∀ off lb cb, (callFunc 72 #[.slice (some ⟨vb, 0, none⟩) 1 1, .slice (some ⟨g, off, none⟩) lb cb]).run Try.prog w = .ok (.value (.bool false)) w := fun off lb cb => by
        rw [run_callFunc_extern Try.func72 (by kernel_rfl) (by kernel_rfl) (by kernel_rfl) (e := Extern.SlicesOverlaps.overlaps #[22, 22] #[4]) (by kernel_rfl),
          Lib.run_overlaps_apart w 22 4 68 elemCpy.under 2 hz ⟨vb, 0, none⟩ ⟨g, off, none⟩ 1 1 lb cb hne 68 68 _ _ (by show w.shape? vb = _; unfold World.shape?; rw [show w.heap[vb]? = _ from hx]) (by show w.shape? g = _; unfold World.shape?; rw [show w.heap[g]? = _ from hkk]) hcz (hx.free _) (hx.free _)]
        rfl
      obtain ⟨cur1, hs1, hk1, hfin⟩ := ins_shift (base := base) cpyC_flat hbg hmax hsz htk hi hroom x (w0 := w.drew) hkk
      have hcp1 : ∀ ty dc sc, (Builtin.copy_ #[22, 22] ty #[.slice (some ⟨g, (i + 1) * 2, none⟩) (l.length - i) dc, .slice (some ⟨g, i * 2, none⟩) (l.length + 1 - i) sc]).run Try.prog w.drew = .ok _ (w.drew.setCells g ((i + 1) * 2) ((l.drop i).flatMap cpyC)) := fun ty dc sc =>
        run_copy_blk elemCpy w.drew _ ty (cur := cur) hkk _ _ dc g _ _ sc _ (by rw [hdl]; congr 1; show l.length - i = min (l.length + 1 - i) (l.length - i); omega) hcells (by rw [hdl, hsz]; have h5 := mul_split (c := 2) (n := l.length + 1) (i := i + 1) (by omega); have h6 := Nat.mul_le_mul_right 2 hroom; rw [show l.length + 1 - (i + 1) = l.length - i by omega] at h5; omega) (flat_one cpyC_flat _)
      have hcp2 : ∀ ty dc (w1 : World), Blk w1 g cur1 68 → (∀ j u, (cpyC x)[j]? = some u → w1.cell? ⟨vb, 0 + j, none⟩ = some u) → (Builtin.copy_ #[22, 22] ty #[.slice (some ⟨g, i * 2, none⟩) (l.length + 1 - i) dc, .slice (some ⟨vb, 0, none⟩) 1 1]).run Try.prog w1 = .ok _ (w1.setCells g (i * 2) (cpyC x)) := fun ty dc w1 k1 hs2 =>
        run_copy_blk elemCpy w1 _ ty (cur := cur1) k1 _ _ dc vb 0 1 1 _ (by rw [hfx, show Nat.min 1 (l.length + 1 - i) = 1 from Nat.min_eq_left (by omega)]) hs2 (by rw [hfx, hs1]; have h5 := mul_split (c := 2) (n := cap) (i := i) (by omega); have h6 : 1 * 2 ≤ (cap - i) * 2 := Nat.mul_le_mul_right _ (by omega); omega) (fun u hu => cpyC_flat.one x u hu)
      have hk1 : Blk (w.drew.setCells g ((i + 1) * 2) ((l.drop i).flatMap cpyC)) g cur1 68 := hk1
      have hs2 := fun j u hj => (show (w.drew.setCells g ((i + 1) * 2) ((l.drop i).flatMap cpyC)).cell? ⟨vb, 0 + j, none⟩ = some u by rw [Blk.cell (Blk.sets_other hne _ _ _ hx.drew), ← hxc j u hj, hx.cell])
      have nz1 := Wb.Below.sets g hbg ((l.drop i).flatMap cpyC) ((i + 1) * 2) _ (Below.refl base w).drew
      have nz2 := Wb.Below.sets g hbg (cpyC x) (i * 2) _ nz1
      replace hfin := hid hfin; replace nz2 := hid nz2; replace hxc := hid hxc; replace hs2 := hid hs2; replace hk1 := hid hk1; replace hcp1 := hid hcp1; replace hcp2 := hid hcp2
      clear hcells hdl htk hsz hkk hcz hz hx h nz1
      have hcp2x := fun ty dc => hcp2.out ty dc _ hk1.out hs2.out
      go_enter Try.func52, Try.ntmps52
      go_wp2_with (simp only [hov])
      go_region_law (refine step_copyR rfl _ _ 22 22 rfl (hcp1.out 3 (cap - (i + 1)) (cap - i)) (by simp [Act.eval, Act.put]) (by simp [Act.eval, Act.put]) ?_)
      all_goals go_wp2
      all_goals go_ret
      all_goals exact ⟨_, rfl, hfin.out _ hk1.out, nz2.out⟩
    · obtain rfl : cap = l.length := by omega
      obtain ⟨Z, hZ, hrz⟩ : ∃ Z : List Value, Z.length = (grownCap w (l.length + 1) l.length 68 - i) * 2 ∧ ∀ ty, (Builtin.append_ #[22, 3] ty #[.slice (some ⟨g, 0, none⟩) i l.length, .int .i64 ((l.length : Int) + 1 - (i : Int))]).run Try.prog w = .ok (.slice (some ⟨w.heap.size, 0, none⟩) (l.length + 1) (grownCap w (l.length + 1) l.length 68)) (w.drew.alloc (.cells ((l.take i).flatMap cpyC ++ Z).toArray 68)) := by
        have e1 : i + (l.length + 1 - i) = l.length + 1 := by omega
        have e2 : ((l.length + 1 - i : Nat) : Int) = (l.length : Int) + 1 - (i : Int) := by omega
        obtain ⟨Z, hZ, hq⟩ := run_app_make (P := Try.prog) (tn := 3) (cap := l.length) cpyC_flat elemCpy (by kernel_rfl) w hkk htk hi (show 0 < l.length + 1 - i by omega) (by omega) (by rw [e1]; omega) (by rw [e1]; unfold maxLen; omega)
        rw [e1] at hZ hq
        rw [e2] at hq
        exact ⟨Z, hZ, hq⟩
      have hGn : l.length + 1 ≤ grownCap w (l.length + 1) l.length 68 := grownCap_ge w _ _ _
      have hGm : grownCap w (l.length + 1) l.length 68 ≤ maxLen := grownCap_le_maxLen w _ _ _ (by unfold maxLen; omega)
      obtain ⟨G, hG⟩ : ∃ G, G = grownCap w (l.length + 1) l.length 68 := ⟨_, rfl⟩
      rw [← hG] at hZ hrz hGn hGm
      clear hG
      obtain ⟨row, hrow⟩ : ∃ row : Array Value, row = ((l.take i).flatMap cpyC ++ Z).toArray := ⟨_, rfl⟩
      rw [← hrow] at hrz
      have hbw : g < w.heap.size := Blk.lt (cs := cur) hkk
      have hbv : vb < w.heap.size := hx.lt
      have hk0 : Blk (w.drew.alloc (.cells row 68)) w.heap.size row 68 := Blk.new w.drew row _
      have hk0' : Blk ((w.alloc (.cells row 68)).drew) w.heap.size row 68 := (Blk.new w row _).drew
      have hGi : ¬ (G = i) := by omega
      have hGi2 : ¬ (G = i + 1) := by omega
      have hgt : (l.length : Int) < (l.length : Int) + 1 := by omega
      have hin2 : i ≤ l.length + 1 := by omega
      obtain ⟨hs0, cur1, hs1, hk1, hfin⟩ := ins_grown (base := base) cpyC_flat Z hbase hGm hZ hrow hi hGn x (w0 := w.drew.alloc (.cells row 68)) hk0
      obtain ⟨W1, hW1⟩ : ∃ W1, W1 = w.drew.alloc (.cells row 68) := ⟨_, rfl⟩
      have hxc1 : ∀ j u, (cpyC x)[j]? = some u → W1.cell? ⟨vb, 0 + j, none⟩ = some u := fun j u hj => by rw [hW1, Blk.cell (hx.drew.alloc _), ← hxc j u hj, hx.cell]
      have hk0w : Blk W1 w.heap.size row 68 := by rw [hW1]; exact hk0
      have hcpA : ∀ ty dc, (Builtin.copy_ #[22, 22] ty #[.slice (some ⟨w.heap.size, i * 2, none⟩) (l.length + 1 - i) dc, .slice (some ⟨vb, 0, none⟩) 1 1]).run Try.prog W1 = .ok _ (W1.setCells w.heap.size (i * 2) (cpyC x)) := fun ty dc =>
        run_copy_blk elemCpy W1 _ ty (cur := row) hk0w _ _ dc vb 0 1 1 _ (by rw [hfx, show Nat.min 1 (l.length + 1 - i) = 1 from Nat.min_eq_left (by omega)]) hxc1 (by rw [hfx, hs0]; have h5 := mul_split (c := 2) (n := G) (i := i) (by omega); have h6 : 1 * 2 ≤ (G - i) * 2 := Nat.mul_le_mul_right _ (by omega); omega) (fun u hu => cpyC_flat.one x u hu)
      have hk1w : Blk (W1.setCells w.heap.size (i * 2) (cpyC x)).drew w.heap.size cur1 68 := by rw [hW1]; exact hk1
      have hcells1 : ∀ j u, ((l.drop i).flatMap cpyC)[j]? = some u → (W1.setCells w.heap.size (i * 2) (cpyC x)).drew.cell? ⟨g, i * 2 + j, none⟩ = some u := fun j u hj => by
        rw [show (W1.setCells w.heap.size (i * 2) (cpyC x)).drew.cell? ⟨g, i * 2 + j, none⟩ = (W1.setCells w.heap.size (i * 2) (cpyC x)).cell? ⟨g, i * 2 + j, none⟩ from rfl, hW1, Blk.cell (Blk.sets_other (by omega) _ _ _ ((show Blk w.drew g cur 68 from hkk).alloc _)), ← Blk.cell hkk]
        exact hcells j u hj
      have hcpB : ∀ ty dc sc, (Builtin.copy_ #[22, 22] ty #[.slice (some ⟨w.heap.size, (i + 1) * 2, none⟩) (l.length - i) dc, .slice (some ⟨g, i * 2, none⟩) (l.length - i) sc]).run Try.prog (W1.setCells w.heap.size (i * 2) (cpyC x)).drew = .ok _ ((W1.setCells w.heap.size (i * 2) (cpyC x)).drew.setCells w.heap.size ((i + 1) * 2) ((l.drop i).flatMap cpyC)) := fun ty dc sc =>
        run_copy_blk elemCpy (W1.setCells w.heap.size (i * 2) (cpyC x)).drew _ ty (cur := cur1) hk1w _ _ dc g _ _ sc _ (by rw [hdl]; congr 1; show l.length - i = min (l.length - i) (l.length - i); omega) hcells1 (by rw [hdl, hs1]; have h5 := mul_split (c := 2) (n := l.length + 1) (i := i + 1) (by omega); have h6 := Nat.mul_le_mul_right 2 hGn; rw [show l.length + 1 - (i + 1) = l.length - i by omega] at h5; omega) (flat_one cpyC_flat _)
      have hfinw := hfin _ (show Blk (W1.setCells w.heap.size (i * 2) (cpyC x)).drew w.heap.size cur1 68 from hk1w)
      have nx1 : Below base w W1 := by rw [hW1]; exact (Below.refl base w).drew.alloc (by simpa using hbase) _
      have nz2 := Wb.Below.sets w.heap.size hbase ((l.drop i).flatMap cpyC) ((i + 1) * 2) _ (Wb.Below.sets w.heap.size hbase (cpyC x) (i * 2) _ nx1).drew
      rw [← hW1] at hrz
      replace hfinw := hid hfinw; replace nz2 := hid nz2; replace hW1 := hid hW1; replace hcpB := hid hcpB
      clear hcells hcells1 hdl htk hsz hkk hx h hfin hxc hxc1 hk0 hk0' hk0w hk1 hk1w hs0 hs1 nx1 hrow hZ
      go_enter Try.func52, Try.ntmps52
      go_wp2_with (at_builtin; refine wpList_appR rfl _ _ _ _ rfl (hrz _) rfl rfl ?_)
      go_region_law (refine step_copyR rfl _ _ 22 22 rfl (hcpB.out 3 (G - (i + 1)) (l.length - i)) (by simp [Act.eval, Act.put]) (by simp [Act.eval, Act.put]) ?_)
      all_goals go_wp2
      all_goals go_ret
      all_goals exact ⟨_, rfl, hfinw.out, nz2.out⟩
theorem slices_InsertI (l : List Int) (i : Nat) (x : Int) (v : Value) (vb base : Nat) (w : World) (h : Own intC base 3 1 w v l) (hbase : base ≤ w.heap.size) (hx : Blk w vb #[.int .i64 x] 3) (hvb : v.ownBlock ≠ some vb) (hi : i ≤ l.length) (hl : l.length ≤ 1000000) :
    Calls Try.prog 40 #[v, .int .i64 i, .slice (some ⟨vb, 0, none⟩) 1 1] w fun e w' => ∃ v', e = .returned v' ∧ Own intC base 3 1 w' v' (l.take i ++ x :: l.drop i) ∧ Below base w w' := by
  have hrx : RL intC w (.slice (some ⟨vb, 0, none⟩) 1 1) [x] := RL.ofBlk (e := 3) [x] (by simpa [intC] using hx) (by simp [maxLen])
  by_cases hn : i = l.length
  · subst hn
    have e1 : l.take l.length ++ x :: l.drop l.length = l ++ [x] := by simp
    rw [e1]
    obtain ⟨a, cap, rfl, hc1, hc2⟩ := h.reads.form
    have hg : a = none ∧ cap = 0 ∨ ∃ g, a = some ⟨g, 0, none⟩ := by
      rcases h.2 with ⟨h1, _⟩ | ⟨g, cap', cur, h1, _⟩
      · simp only [Value.slice.injEq] at h1
        exact .inl ⟨h1.1, h1.2.2⟩
      · simp only [Value.slice.injEq] at h1
        exact .inr ⟨g, h1.1⟩
    replace h := hid h; replace hrx := hid hrx
    clear hx hvb e1
    rcases hg with ⟨rfl, rfl⟩ | ⟨g, rfl⟩
    · go_enter Try.func40, Try.ntmps40
      go_wp2_with (at_builtin; refine wpList_app rfl _ _ 23 rfl base _ 1 8 intC_flat elemIntT h.out rfl [x] hrx.out rfl (by simp; omega) (by simp; unfold maxLen; omega) hbase ?_; intro v1 w1 hown1 hg1; obtain ⟨a1, cap1, rfl⟩ := hown1.form; have nx := h.out.belowGrown hbase hg1; simp only [len1] at hown1)
      go_ret
      exact ⟨_, rfl, hown1, nx⟩
    · by_cases hcc : cap = l.length
      · subst hcc
        go_enter Try.func40, Try.ntmps40
        go_wp2_with (at_builtin; refine wpList_app rfl _ _ 23 rfl base _ 1 8 intC_flat elemIntT h.out rfl [x] hrx.out rfl (by simp; omega) (by simp; unfold maxLen; omega) hbase ?_; intro v1 w1 hown1 hg1; obtain ⟨a1, cap1, rfl⟩ := hown1.form; have nx := h.out.belowGrown hbase hg1; simp only [len1] at hown1)
        go_ret
        exact ⟨_, rfl, hown1, nx⟩
      · go_enter Try.func40, Try.ntmps40
        go_wp2_with (at_builtin; refine wpList_app rfl _ _ 23 rfl base _ 1 8 intC_flat elemIntT h.out rfl [x] hrx.out rfl (by simp; omega) (by simp; unfold maxLen; omega) hbase ?_; intro v1 w1 hown1 hg1; obtain ⟨a1, cap1, rfl⟩ := hown1.form; have nx := h.out.belowGrown hbase hg1; simp only [len1] at hown1)
        go_ret
        exact ⟨_, rfl, hown1, nx⟩
  · have hlt : i < l.length := by omega
    obtain ⟨g, cap, cur, rfl, hbg, hkk, hcap, hmax, hsz, htk⟩ := h.row (by omega)
    have hne : vb ≠ g := fun h2 => hvb (by rw [h2]; rfl)
    have hn1 : ¬ ((i : Int) = (l.length : Int)) := by omega
    have hcells := row_from intC_flat.len hkk htk hi
    have hxc := fun j u (hj : (intC x)[j]? = some u) => (show w.cell? ⟨vb, 0 + j, none⟩ = some u by rw [hx.cell, Nat.zero_add, ← hj]; simp [intC])
    have hdl := flat_dropLen intC_flat.len l i
    have hfx := intC_flat.len x
    have hci : ¬ (cap = i) := by omega
    have hin : (i : Int) ≤ (l.length : Int) := by omega
    have hw1 : IntKind.i64.wrap ((i : Int) + 1) = (i : Int) + 1 := IntWalk.i64_in _ (by omega)
    have hw2 : IntKind.i64.wrap ((l.length : Int) + 1) = (l.length : Int) + 1 := IntWalk.i64_in _ (by omega)
    have ht1 : ((i : Int) + 1).toNat = i + 1 := by omega
    have hb1 : (0 : Int) ≤ (i : Int) + 1 := by omega
    have hb3 : (i : Int) ≤ (l.length : Int) + 1 := by omega
    have ht2 : ((l.length : Int) + 1).toNat = l.length + 1 := by omega
    by_cases hroom : l.length + 1 ≤ cap
    · have hci2 : ¬ (cap = i + 1) := by omega
      have hz : ∀ w, (Go.sizeOf 3).run Try.prog w = .ok 1 w := fun w => by
        obtain ⟨io, z, h1, h2, h3, _⟩ := elemIntT.info
        simp [Go.sizeOf, typeInfo, h1, h3]
      have hcz : cur.size ≠ 0 := by rw [hsz]; have := Nat.mul_le_mul_right 1 hroom; omega
      have hov : ∀ off lb cb, (callFunc 59 #[.slice (some ⟨vb, 0, none⟩) 1 1, .slice (some ⟨g, off, none⟩) lb cb]).run Try.prog w = .ok (.value (.bool false)) w := fun off lb cb => by
        rw [run_callFunc_extern Try.func59 (by kernel_rfl) (by kernel_rfl) (by kernel_rfl) (e := Extern.SlicesOverlaps.overlaps #[23, 23] #[4]) (by kernel_rfl),
          Lib.run_overlaps_apart w 23 4 3 elemIntT.under 1 hz ⟨vb, 0, none⟩ ⟨g, off, none⟩ 1 1 lb cb hne 3 3 _ _ (by show w.shape? vb = _; unfold World.shape?; rw [show w.heap[vb]? = _ from hx]) (by show w.shape? g = _; unfold World.shape?; rw [show w.heap[g]? = _ from hkk]) hcz (hx.free _) (hx.free _)]
        rfl
      obtain ⟨cur1, hs1, hk1, hfin⟩ := ins_shift (base := base) intC_flat hbg hmax hsz htk hi hroom x (w0 := w.drew) hkk
      have hcp1 : ∀ ty dc sc, (Builtin.copy_ #[23, 23] ty #[.slice (some ⟨g, (i + 1) * 1, none⟩) (l.length - i) dc, .slice (some ⟨g, i * 1, none⟩) (l.length + 1 - i) sc]).run Try.prog w.drew = .ok _ (w.drew.setCells g ((i + 1) * 1) ((l.drop i).flatMap intC)) := fun ty dc sc =>
        run_copy_blk elemIntT w.drew _ ty (cur := cur) hkk _ _ dc g _ _ sc _ (by rw [hdl]; congr 1; show l.length - i = min (l.length + 1 - i) (l.length - i); omega) hcells (by rw [hdl, hsz]; have h5 := mul_split (c := 1) (n := l.length + 1) (i := i + 1) (by omega); have h6 := Nat.mul_le_mul_right 1 hroom; rw [show l.length + 1 - (i + 1) = l.length - i by omega] at h5; omega) (flat_one intC_flat _)
      have hcp2 : ∀ ty dc (w1 : World), Blk w1 g cur1 3 → (∀ j u, (intC x)[j]? = some u → w1.cell? ⟨vb, 0 + j, none⟩ = some u) → (Builtin.copy_ #[23, 23] ty #[.slice (some ⟨g, i * 1, none⟩) (l.length + 1 - i) dc, .slice (some ⟨vb, 0, none⟩) 1 1]).run Try.prog w1 = .ok _ (w1.setCells g (i * 1) (intC x)) := fun ty dc w1 k1 hs2 =>
        run_copy_blk elemIntT w1 _ ty (cur := cur1) k1 _ _ dc vb 0 1 1 _ (by rw [hfx, show Nat.min 1 (l.length + 1 - i) = 1 from Nat.min_eq_left (by omega)]) hs2 (by rw [hfx, hs1]; have h5 := mul_split (c := 1) (n := cap) (i := i) (by omega); have h6 : 1 * 1 ≤ (cap - i) * 1 := Nat.mul_le_mul_right _ (by omega); omega) (fun u hu => intC_flat.one x u hu)
      have hk1 : Blk (w.drew.setCells g ((i + 1) * 1) ((l.drop i).flatMap intC)) g cur1 3 := hk1
      have hs2 := fun j u hj => (show (w.drew.setCells g ((i + 1) * 1) ((l.drop i).flatMap intC)).cell? ⟨vb, 0 + j, none⟩ = some u by rw [Blk.cell (Blk.sets_other hne _ _ _ hx.drew), ← hxc j u hj, hx.cell])
      have nz1 := Wb.Below.sets g hbg ((l.drop i).flatMap intC) ((i + 1) * 1) _ (Below.refl base w).drew
      have nz2 := Wb.Below.sets g hbg (intC x) (i * 1) _ nz1
      (try simp only [Nat.mul_one] at hfin); (try simp only [Nat.mul_one] at nz2); (try simp only [Nat.mul_one] at hs2); (try simp only [Nat.mul_one] at hk1); (try simp only [Nat.mul_one] at hcp1); (try simp only [Nat.mul_one] at hcp2)
      replace hfin := hid hfin; replace nz2 := hid nz2; replace hxc := hid hxc; replace hs2 := hid hs2; replace hk1 := hid hk1; replace hcp1 := hid hcp1; replace hcp2 := hid hcp2
      clear hcells hdl htk hsz hkk hcz hz hx h nz1
      have hcp2x := fun ty dc => hcp2.out ty dc _ hk1.out hs2.out
      go_enter Try.func40, Try.ntmps40
      go_wp2_with (simp only [hov])
      go_region_law (refine step_copyR rfl _ _ 23 23 rfl (hcp1.out 3 (cap - (i + 1)) (cap - i)) (by simp [Act.eval, Act.put]) (by simp [Act.eval, Act.put]) ?_)
      all_goals go_wp2
      all_goals go_ret
      all_goals exact ⟨_, rfl, hfin.out _ hk1.out, nz2.out⟩
    · obtain rfl : cap = l.length := by omega
      obtain ⟨Z, hZ, hrz⟩ : ∃ Z : List Value, Z.length = (grownCap w (l.length + 1) l.length 3 - i) * 1 ∧ ∀ ty, (Builtin.append_ #[23, 3] ty #[.slice (some ⟨g, 0, none⟩) i l.length, .int .i64 ((l.length : Int) + 1 - (i : Int))]).run Try.prog w = .ok (.slice (some ⟨w.heap.size, 0, none⟩) (l.length + 1) (grownCap w (l.length + 1) l.length 3)) (w.drew.alloc (.cells ((l.take i).flatMap intC ++ Z).toArray 3)) := by
        have e1 : i + (l.length + 1 - i) = l.length + 1 := by omega
        have e2 : ((l.length + 1 - i : Nat) : Int) = (l.length : Int) + 1 - (i : Int) := by omega
        obtain ⟨Z, hZ, hq⟩ := run_app_make (P := Try.prog) (tn := 3) (cap := l.length) intC_flat elemIntT (by kernel_rfl) w hkk htk hi (show 0 < l.length + 1 - i by omega) (by omega) (by rw [e1]; omega) (by rw [e1]; unfold maxLen; omega)
        rw [e1] at hZ hq
        rw [e2] at hq
        exact ⟨Z, hZ, hq⟩
      have hGn : l.length + 1 ≤ grownCap w (l.length + 1) l.length 3 := grownCap_ge w _ _ _
      have hGm : grownCap w (l.length + 1) l.length 3 ≤ maxLen := grownCap_le_maxLen w _ _ _ (by unfold maxLen; omega)
      obtain ⟨G, hG⟩ : ∃ G, G = grownCap w (l.length + 1) l.length 3 := ⟨_, rfl⟩
      rw [← hG] at hZ hrz hGn hGm
      clear hG
      obtain ⟨row, hrow⟩ : ∃ row : Array Value, row = ((l.take i).flatMap intC ++ Z).toArray := ⟨_, rfl⟩
      rw [← hrow] at hrz
      have hbw : g < w.heap.size := Blk.lt (cs := cur) hkk
      have hbv : vb < w.heap.size := hx.lt
      have hk0 : Blk (w.drew.alloc (.cells row 3)) w.heap.size row 3 := Blk.new w.drew row _
      have hk0' : Blk ((w.alloc (.cells row 3)).drew) w.heap.size row 3 := (Blk.new w row _).drew
      have hGi : ¬ (G = i) := by omega
      have hGi2 : ¬ (G = i + 1) := by omega
      have hgt : (l.length : Int) < (l.length : Int) + 1 := by omega
      have hin2 : i ≤ l.length + 1 := by omega
      obtain ⟨hs0, cur1, hs1, hk1, hfin⟩ := ins_grown (base := base) intC_flat Z hbase hGm hZ hrow hi hGn x (w0 := w.drew.alloc (.cells row 3)) hk0
      obtain ⟨W1, hW1⟩ : ∃ W1, W1 = w.drew.alloc (.cells row 3) := ⟨_, rfl⟩
      have hxc1 : ∀ j u, (intC x)[j]? = some u → W1.cell? ⟨vb, 0 + j, none⟩ = some u := fun j u hj => by rw [hW1, Blk.cell (hx.drew.alloc _), ← hxc j u hj, hx.cell]
      have hk0w : Blk W1 w.heap.size row 3 := by rw [hW1]; exact hk0
      have hcpA : ∀ ty dc, (Builtin.copy_ #[23, 23] ty #[.slice (some ⟨w.heap.size, i * 1, none⟩) (l.length + 1 - i) dc, .slice (some ⟨vb, 0, none⟩) 1 1]).run Try.prog W1 = .ok _ (W1.setCells w.heap.size (i * 1) (intC x)) := fun ty dc =>
        run_copy_blk elemIntT W1 _ ty (cur := row) hk0w _ _ dc vb 0 1 1 _ (by rw [hfx, show Nat.min 1 (l.length + 1 - i) = 1 from Nat.min_eq_left (by omega)]) hxc1 (by rw [hfx, hs0]; have h5 := mul_split (c := 1) (n := G) (i := i) (by omega); have h6 : 1 * 1 ≤ (G - i) * 1 := Nat.mul_le_mul_right _ (by omega); omega) (fun u hu => intC_flat.one x u hu)
      have hk1w : Blk (W1.setCells w.heap.size (i * 1) (intC x)).drew w.heap.size cur1 3 := by rw [hW1]; exact hk1
      have hcells1 : ∀ j u, ((l.drop i).flatMap intC)[j]? = some u → (W1.setCells w.heap.size (i * 1) (intC x)).drew.cell? ⟨g, i * 1 + j, none⟩ = some u := fun j u hj => by
        rw [show (W1.setCells w.heap.size (i * 1) (intC x)).drew.cell? ⟨g, i * 1 + j, none⟩ = (W1.setCells w.heap.size (i * 1) (intC x)).cell? ⟨g, i * 1 + j, none⟩ from rfl, hW1, Blk.cell (Blk.sets_other (by omega) _ _ _ ((show Blk w.drew g cur 3 from hkk).alloc _)), ← Blk.cell hkk]
        exact hcells j u hj
      have hcpB : ∀ ty dc sc, (Builtin.copy_ #[23, 23] ty #[.slice (some ⟨w.heap.size, (i + 1) * 1, none⟩) (l.length - i) dc, .slice (some ⟨g, i * 1, none⟩) (l.length - i) sc]).run Try.prog (W1.setCells w.heap.size (i * 1) (intC x)).drew = .ok _ ((W1.setCells w.heap.size (i * 1) (intC x)).drew.setCells w.heap.size ((i + 1) * 1) ((l.drop i).flatMap intC)) := fun ty dc sc =>
        run_copy_blk elemIntT (W1.setCells w.heap.size (i * 1) (intC x)).drew _ ty (cur := cur1) hk1w _ _ dc g _ _ sc _ (by rw [hdl]; congr 1; show l.length - i = min (l.length - i) (l.length - i); omega) hcells1 (by rw [hdl, hs1]; have h5 := mul_split (c := 1) (n := l.length + 1) (i := i + 1) (by omega); have h6 := Nat.mul_le_mul_right 1 hGn; rw [show l.length + 1 - (i + 1) = l.length - i by omega] at h5; omega) (flat_one intC_flat _)
      have hfinw := hfin _ (show Blk (W1.setCells w.heap.size (i * 1) (intC x)).drew w.heap.size cur1 3 from hk1w)
      have nx1 : Below base w W1 := by rw [hW1]; exact (Below.refl base w).drew.alloc (by simpa using hbase) _
      have nz2 := Wb.Below.sets w.heap.size hbase ((l.drop i).flatMap intC) ((i + 1) * 1) _ (Wb.Below.sets w.heap.size hbase (intC x) (i * 1) _ nx1).drew
      rw [← hW1] at hrz
      (try simp only [Nat.mul_one] at hfinw); (try simp only [Nat.mul_one] at nz2); (try simp only [Nat.mul_one] at hcpA); (try simp only [Nat.mul_one] at hcpB)
      replace hfinw := hid hfinw; replace nz2 := hid nz2; replace hW1 := hid hW1; replace hcpB := hid hcpB
      clear hcells hcells1 hdl htk hsz hkk hx h hfin hxc hxc1 hk0 hk0' hk0w hk1 hk1w hs0 hs1 nx1 hrow hZ
      go_enter Try.func40, Try.ntmps40
      go_wp2_with (at_builtin; refine wpList_appR rfl _ _ _ _ rfl (hrz _) rfl rfl ?_)
      go_region_law (refine step_copyR rfl _ _ 23 23 rfl (hcpB.out 3 (G - (i + 1)) (l.length - i)) (by simp [Act.eval, Act.put]) (by simp [Act.eval, Act.put]) ?_)
      all_goals go_wp2
      all_goals go_ret
      all_goals exact ⟨_, rfl, hfinw.out, nz2.out⟩
end Go.Proofs.Ytjhmfljlclajnac

namespace Wb
open Go Go.RowKit

/-! ### Lists that rise are told by what is in them -/
theorem pw_ext {α : Type} (key : α → Int) : ∀ (l m : List α), (l.map key).Pairwise (· < ·) → (m.map key).Pairwise (· < ·) → (∀ x, x ∈ l ↔ x ∈ m) → l = m
  | [], [], _, _, _ => rfl
  | [], y :: m, _, _, h => absurd ((h y).2 List.mem_cons_self) List.not_mem_nil
  | x :: l, [], _, _, h => absurd ((h x).1 List.mem_cons_self) List.not_mem_nil
  | x :: l, y :: m, hl, hm, h => by
    rw [List.map_cons, List.pairwise_cons] at hl hm
    have hx := (h x).1 List.mem_cons_self
    have hy := (h y).2 List.mem_cons_self
    have e : x = y := by
      rcases List.mem_cons.1 hx with e | e
      · exact e
      · rcases List.mem_cons.1 hy with e2 | e2
        · exact e2.symm
        · have a := hl.1 (key y) (List.mem_map_of_mem e2)
          have b := hm.1 (key x) (List.mem_map_of_mem e)
          omega
    subst e
    congr 1
    refine pw_ext key l m hl.2 hm.2 fun z => ⟨fun hz => ?_, fun hz => ?_⟩
    · rcases List.mem_cons.1 ((h z).1 (List.mem_cons_of_mem _ hz)) with e | e
      · subst e; have := hl.1 (key z) (List.mem_map_of_mem hz); omega
      · exact e
    · rcases List.mem_cons.1 ((h z).2 (List.mem_cons_of_mem _ hz)) with e | e
      · subst e; have := hm.1 (key z) (List.mem_map_of_mem hz); omega
      · exact e
theorem rise_pw (l : List Int) : rise l = true ↔ l.Pairwise (· < ·) ∧ ∀ x ∈ l, 0 ≤ x ∧ x < 12 := by
  constructor
  · intro h
    refine ⟨List.pairwise_iff_getElem.2 fun i j hi hj hij => (rise_get h hj).2.2 i hij, fun x hx => ?_⟩
    obtain ⟨k, hk, rfl⟩ := List.mem_iff_getElem.1 hx
    exact ⟨(rise_get h hk).1, (rise_get h hk).2.1⟩
  · rintro ⟨h1, h2⟩
    rw [rise_iff]
    intro k hk
    have e := h2 l[k] (List.getElem_mem hk)
    refine ⟨by simpa [List.getD_eq_getElem?_getD, hk] using e.1, by simpa [List.getD_eq_getElem?_getD, hk] using e.2, fun h0 => ?_⟩
    have := List.pairwise_iff_getElem.1 h1 (k - 1) k (by omega) hk (by omega)
    simpa [List.getD_eq_getElem?_getD, hk, show k - 1 < l.length by omega] using this
theorem copies_pw (l : List Cpy) : copiesB l = true ↔ (blks l).Pairwise (· < ·) ∧ ∀ c ∈ l, isBlk c.block = true ∧ c.text.size = 32 := by
  unfold copiesB
  rw [Bool.and_eq_true, rise_pw, List.all_eq_true]
  constructor
  · rintro ⟨⟨h1, h2⟩, h3⟩
    exact ⟨h1, fun c hc => ⟨decide_eq_true (h2 _ (List.mem_map_of_mem hc)), of_decide_eq_true (h3 c hc)⟩⟩
  · rintro ⟨h1, h2⟩
    refine ⟨⟨h1, fun x hx => ?_⟩, fun c hc => decide_eq_true (h2 c hc).2⟩
    obtain ⟨c, hc, rfl⟩ := List.mem_map.1 hx
    exact of_decide_eq_true (h2 c hc).1
theorem mem_getC : ∀ {l : List Cpy}, (blks l).Pairwise (· < ·) → ∀ c : Cpy, c ∈ l ↔ getC l c.block = some c.text
  | [], _, c => by simp [getC]
  | x :: l, h, c => by
    rw [blks, List.map_cons, List.pairwise_cons] at h
    have ih := mem_getC (l := l) h.2 c
    rw [List.mem_cons]
    by_cases e : x.block = c.block
    · have hg : getC (x :: l) c.block = some x.text := by simp [getC, e]
      rw [hg]
      constructor
      · rintro (rfl | hc)
        · rfl
        · have := h.1 c.block (List.mem_map_of_mem hc); omega
      · intro ht
        left
        obtain ⟨b, t⟩ := x; obtain ⟨b', t'⟩ := c
        simp only [Option.some.injEq] at ht
        simp only at e
        rw [e, ht]
    · have hg : getC (x :: l) c.block = getC l c.block := by
        unfold getC
        rw [List.find?_cons_of_neg (by simpa using e)]
      rw [hg, ← ih]
      constructor
      · rintro (rfl | hc)
        · exact absurd rfl e
        · exact hc
      · exact .inr
theorem getC_of_mem {l : List Cpy} (h : (blks l).Pairwise (· < ·)) {c : Cpy} (hc : c ∈ l) : getC l c.block = some c.text := (mem_getC h c).1 hc
theorem hasB_iff {l : List Cpy} {b : Int} : hasB l b = true ↔ ∃ c ∈ l, c.block = b := by simp [hasB]
theorem inI_iff {l : List Int} {b : Int} : inI l b = true ↔ b ∈ l := by simp [inI]
theorem inI_no {l : List Int} {b : Int} : inI l b = false ↔ b ∉ l := by rw [← inI_iff]; simp
/-- Two lists of good copies that have the same text of each block are the same. -/
theorem copies_ext {l m : List Cpy} (hl : copiesB l = true) (hm : copiesB m = true) (h : ∀ b, isBlk b = true → getC l b = getC m b) : l = m := by
  obtain ⟨h1, h2⟩ := (copies_pw l).1 hl
  obtain ⟨h3, h4⟩ := (copies_pw m).1 hm
  refine pw_ext Cpy.block l m h1 h3 fun c => ?_
  constructor
  · intro hc
    rw [mem_getC h3, ← h _ (h2 c hc).1, ← mem_getC h1]; exact hc
  · intro hc
    rw [mem_getC h1, h _ (h4 c hc).1, ← mem_getC h3]; exact hc
theorem viewN_pw (f : Int → Option ByteArray) (n : Nat) : (blks (viewN f n)).Pairwise (· < ·) := by
  induction n with
  | zero => exact List.Pairwise.nil
  | succ n ih =>
    rw [viewN_succ, blks, List.map_append]
    refine List.pairwise_append.2 ⟨ih, ?_, ?_⟩
    · cases f n <;> simp
    · intro a ha b hb
      obtain ⟨c, hc, rfl⟩ := List.mem_map.1 ha
      obtain ⟨d, hd, rfl⟩ := List.mem_map.1 hb
      obtain ⟨k, hk, he, _⟩ := viewN_mem.1 hc
      cases hf : f n with
      | none => rw [hf] at hd; simp at hd
      | some t => rw [hf] at hd; simp at hd; subst hd; simp only; omega
theorem viewL_copies {f : Int → Option ByteArray} (h : ∀ b t, isBlk b = true → f b = some t → t.size = 32) : copiesB (viewL f) = true := by
  rw [copies_pw]
  refine ⟨viewN_pw f 12, fun c hc => ?_⟩
  obtain ⟨k, hk, he, ht⟩ := viewN_mem.1 hc
  have hb : isBlk c.block = true := decide_eq_true (by omega)
  exact ⟨hb, h c.block c.text hb (by rw [he]; exact ht)⟩
theorem getC_blk {l : List Cpy} (h : copiesB l = true) {b : Int} {t : ByteArray} (hg : getC l b = some t) : isBlk b = true ∧ t.size = 32 := by
  obtain ⟨h1, h2⟩ := (copies_pw l).1 h
  have := (mem_getC h1 ⟨b, t⟩).2 hg
  exact h2 _ this
theorem view_self {l : List Cpy} (h : copiesB l = true) : viewL (getC l) = l := by
  refine copies_ext (viewL_copies fun b t _ ht => (getC_blk h ht).2) h fun b hb => ?_
  have := of_decide_eq_true hb
  exact getC_viewL this.1 this.2
theorem withL_is (l : List Cpy) (b : Int) (s : ByteArray) : withL l b s = viewL (fun x => if x = b then some s else getC l x) := by
  unfold withL withN viewL viewN
  congr 1
  funext k
  unfold withK
  by_cases e : (k : Int) = b
  · show (if (k : Int) = b then _ else _) = Option.map _ (if (k : Int) = b then _ else _)
    rw [if_pos e, if_pos e, ← e]; rfl
  · show (if (k : Int) = b then _ else _) = Option.map _ (if (k : Int) = b then _ else _)
    rw [if_neg e, if_neg e]

/-! ### A copy put among others -/
theorem pos_at {l : List Cpy} (b : Int) (h : rise (blks l) = true) : (∀ k (hk : k < l.length), k < posB l b → l[k].block < b) ∧ (∀ k (hk : k < l.length), posB l b ≤ k → b ≤ l[k].block) ∧ posB l b ≤ l.length := by
  have hr := rises h
  have hle : l.findIdx (fun c => !decide (c.block < b)) ≤ l.length := List.findIdx_le_length
  have h1 : ∀ k (hk : k < l.length), k < l.findIdx (fun c => !decide (c.block < b)) → l[k].block < b := fun k hk hlt => by
    have := List.not_of_lt_findIdx hlt
    simpa using this
  have h2 : ∀ k (hk : k < l.length), l.findIdx (fun c => !decide (c.block < b)) ≤ k → b ≤ l[k].block := fun k hk hge => by
    have hlt : l.findIdx (fun c => !decide (c.block < b)) < l.length := by omega
    have h3 := List.findIdx_getElem (w := hlt)
    have h4 : b ≤ l[l.findIdx (fun c => !decide (c.block < b))].block := by simpa using h3
    by_cases e : l.findIdx (fun c => !decide (c.block < b)) = k
    · simp only [e] at h4; exact h4
    · have := hr k hk _ (show l.findIdx (fun c => !decide (c.block < b)) < k by omega)
      omega
  rw [pos_of hle h1 h2]
  exact ⟨h1, h2, hle⟩
theorem has_at {l : List Cpy} {b : Int} (h : rise (blks l) = true) : hasB l b = true ↔ ∃ hk : posB l b < l.length, l[posB l b].block = b := by
  obtain ⟨h1, h2, _⟩ := pos_at b h
  exact has_of (rises h) h1 h2
/-- The copies with a block's, as the program lays them. -/
def putL (l : List Cpy) (b : Int) (s : ByteArray) : List Cpy := if hasB l b then l.set (posB l b) ⟨b, s⟩ else l.take (posB l b) ++ ⟨b, s⟩ :: l.drop (posB l b)
theorem copies_rise {l : List Cpy} (h : copiesB l = true) : rise (blks l) = true := by
  unfold copiesB at h; rw [Bool.and_eq_true] at h; exact h.1
/-- The blocks that a list with a block put into it rises through. -/
theorem put_pw {l : List Cpy} (b : Int) (s : ByteArray) (h : copiesB l = true) : (blks (putL l b s)).Pairwise (· < ·) := by
  have hr := copies_rise h
  obtain ⟨h1, h2, hle⟩ := pos_at b hr
  have hpw := ((copies_pw l).1 h).1
  unfold putL
  cases hb : hasB l b with
  | true =>
    rw [if_pos rfl]
    obtain ⟨hk, he⟩ := (has_at hr).1 hb
    have e : blks (l.set (posB l b) ⟨b, s⟩) = blks l := by
      unfold blks
      rw [List.map_set]
      apply List.ext_getElem (by simp)
      intro i h3 h4
      rw [List.getElem_set]
      split
      · rename_i e; subst e; simp [he]
      · rfl
    rw [e]; exact hpw
  | false =>
    rw [if_neg (by decide)]
    have hne : ∀ c ∈ l, c.block ≠ b := fun c hc e => by
      rw [hasB_iff.2 ⟨c, hc, e⟩] at hb; cases hb
    have hsplit : (blks (l.take (posB l b)) ++ blks (l.drop (posB l b))).Pairwise (· < ·) := by
      unfold blks; rw [← List.map_append, List.take_append_drop]; exact hpw
    obtain ⟨p1, p2, p3⟩ := List.pairwise_append.1 hsplit
    have q1 : ∀ x ∈ blks (l.take (posB l b)), x < b := fun x hx => by
      obtain ⟨c, hc, rfl⟩ := List.mem_map.1 hx
      obtain ⟨k, hk, rfl⟩ := List.mem_iff_getElem.1 hc
      rw [List.length_take] at hk
      rw [List.getElem_take]; exact h1 k (by omega) (by omega)
    have q2 : ∀ x ∈ blks (l.drop (posB l b)), b < x := fun x hx => by
      obtain ⟨c, hc, rfl⟩ := List.mem_map.1 hx
      have hn := hne c (List.mem_of_mem_drop hc)
      obtain ⟨k, hk, rfl⟩ := List.mem_iff_getElem.1 hc
      rw [List.length_drop] at hk
      rw [List.getElem_drop] at hn ⊢
      have := h2 (posB l b + k) (by omega) (by omega)
      omega
    unfold blks at *
    rw [List.map_append, List.map_cons]
    refine List.pairwise_append.2 ⟨p1, List.pairwise_cons.2 ⟨q2, p2⟩, fun x hx y hy => ?_⟩
    rcases List.mem_cons.1 hy with rfl | hy
    · exact q1 x hx
    · exact p3 x hx y hy
theorem put_mem {l : List Cpy} (b : Int) (s : ByteArray) (h : copiesB l = true) (c : Cpy) : c ∈ putL l b s ↔ c = ⟨b, s⟩ ∨ (c ∈ l ∧ c.block ≠ b) := by
  have hr := copies_rise h
  have hpw := ((copies_pw l).1 h).1
  unfold putL
  cases hb : hasB l b with
  | true =>
    rw [if_pos rfl]
    obtain ⟨hk, he⟩ := (has_at hr).1 hb
    have hrs := rises hr
    rw [List.mem_iff_getElem]
    constructor
    · rintro ⟨i, hi, rfl⟩
      rw [List.length_set] at hi
      rw [List.getElem_set]
      split
      · exact .inl rfl
      · rename_i hne
        refine .inr ⟨List.getElem_mem hi, fun e => hne ?_⟩
        rcases Nat.lt_trichotomy i (posB l b) with hlt | heq | hgt
        · have := hrs _ hk i hlt; omega
        · exact heq.symm
        · have := hrs i hi _ hgt; omega
    · rintro (rfl | ⟨hc, hne⟩)
      · exact ⟨posB l b, by simpa using hk, by simp⟩
      · obtain ⟨i, hi, rfl⟩ := List.mem_iff_getElem.1 hc
        refine ⟨i, by simpa using hi, ?_⟩
        rw [List.getElem_set, if_neg]
        intro e; subst e; exact hne he
  | false =>
    rw [if_neg (by decide)]
    have hne : ∀ c ∈ l, c.block ≠ b := fun c hc e => by
      rw [hasB_iff.2 ⟨c, hc, e⟩] at hb; cases hb
    have hl : c ∈ l ↔ c ∈ l.take (posB l b) ∨ c ∈ l.drop (posB l b) := by
      rw [← List.mem_append, List.take_append_drop]
    rw [List.mem_append, List.mem_cons, hl]
    constructor
    · rintro (hc | rfl | hc)
      · exact .inr ⟨.inl hc, hne c (List.mem_of_mem_take hc)⟩
      · exact .inl rfl
      · exact .inr ⟨.inr hc, hne c (List.mem_of_mem_drop hc)⟩
    · rintro (rfl | ⟨hc | hc, _⟩)
      · exact .inr (.inl rfl)
      · exact .inl hc
      · exact .inr (.inr hc)
theorem put_copies {l : List Cpy} {b : Int} {s : ByteArray} (h : copiesB l = true) (hb : isBlk b = true) (hs : s.size = 32) : copiesB (putL l b s) = true := by
  rw [copies_pw]
  refine ⟨put_pw b s h, fun c hc => ?_⟩
  rcases (put_mem b s h c).1 hc with rfl | ⟨hc, _⟩
  · exact ⟨hb, hs⟩
  · exact ((copies_pw l).1 h).2 c hc
theorem put_get {l : List Cpy} (b : Int) (s : ByteArray) (h : copiesB l = true) (x : Int) : getC (putL l b s) x = if x = b then some s else getC l x := by
  have hp := put_pw b s h
  have hpw := ((copies_pw l).1 h).1
  have hm := mem_getC hp
  by_cases e : x = b
  · subst e
    rw [if_pos rfl]
    exact (hm ⟨x, s⟩).1 ((put_mem x s h _).2 (.inl rfl))
  · rw [if_neg e]
    cases hg : getC l x with
    | some t =>
      exact (hm ⟨x, t⟩).1 ((put_mem b s h _).2 (.inr ⟨(mem_getC hpw ⟨x, t⟩).2 hg, e⟩))
    | none =>
      cases hg2 : getC (putL l b s) x with
      | none => rfl
      | some t =>
        rcases (put_mem b s h _).1 ((hm ⟨x, t⟩).2 hg2) with e2 | ⟨hc, _⟩
        · exact absurd (congrArg Cpy.block e2) e
        · rw [(mem_getC hpw ⟨x, t⟩).1 hc] at hg; cases hg
theorem put_with {l : List Cpy} {b : Int} {s : ByteArray} (h : copiesB l = true) (hb : isBlk b = true) (hs : s.size = 32) : putL l b s = withL l b s := by
  rw [withL_is, ← view_self (put_copies h hb hs)]
  exact viewL_congr fun k _ => put_get b s h k
theorem put_len {l : List Cpy} (b : Int) (s : ByteArray) (h : copiesB l = true) : (putL l b s).length = l.length + (if hasB l b then 0 else 1) := by
  have := (pos_at b (copies_rise h)).2.2
  unfold putL
  cases hasB l b
  · simp; omega
  · simp
theorem put_has {l : List Cpy} (b : Int) (s : ByteArray) (h : copiesB l = true) (x : Int) : hasB (putL l b s) x = (decide (x = b) || hasB l x) := by
  rw [hasB_get, hasB_get, put_get b s h]
  by_cases e : x = b
  · simp [e]
  · simp [e]

/-! ### A copy dropped -/
theorem drop_copies {l : List Cpy} (b : Int) (h : copiesB l = true) : copiesB (dropC l b) = true := by
  obtain ⟨h1, h2⟩ := (copies_pw l).1 h
  rw [copies_pw]
  unfold dropC
  refine ⟨?_, fun c hc => h2 c (List.mem_filter.1 hc).1⟩
  exact h1.sublist (List.Sublist.map _ List.filter_sublist)
theorem drop_has (l : List Cpy) (b x : Int) : hasB (dropC l b) x = (hasB l x && decide (x ≠ b)) := by
  rw [Bool.eq_iff_iff, Bool.and_eq_true, hasB_iff, hasB_iff, decide_eq_true_eq]
  unfold dropC
  constructor
  · rintro ⟨c, hc, rfl⟩
    rw [List.mem_filter] at hc
    exact ⟨⟨c, hc.1, rfl⟩, by simpa using hc.2⟩
  · rintro ⟨⟨c, hc, rfl⟩, hne⟩
    exact ⟨c, List.mem_filter.2 ⟨hc, by simpa using hne⟩, rfl⟩
theorem drop_get (l : List Cpy) (b x : Int) : getC (dropC l b) x = if x = b then none else getC l x := by
  by_cases e : x = b
  · rw [if_pos e]
    refine getC_none ?_
    rw [drop_has]; simp [e]
  · rw [if_neg e]
    unfold getC dropC
    rw [List.find?_filter]
    congr 1
    congr 1
    funext c
    by_cases e2 : c.block = x
    · subst e2; simp [e]
    · simp [e2]

/-! ### A number put among others -/
def posI (l : List Int) (b : Int) : Nat := (l.filter (fun x => decide (x < b))).length
def insI (l : List Int) (b : Int) : List Int := l.take (posI l b) ++ b :: l.drop (posI l b)
/-- Of the blocks 0 to n - 1: b itself if 'two', and those other ones that are in l. -/
def revK (two : Bool) (l : List Int) (b : Int) (n : Nat) : List Int := ((List.range n).map fun (k : Nat) => (k : Int)).filter (fun k => (k == b && two) || (k != b && inI l k))
theorem revK_pw (two : Bool) (l : List Int) (b : Int) (n : Nat) : (revK two l b n).Pairwise (· < ·) := by
  unfold revK
  refine List.Pairwise.filter _ ?_
  rw [List.pairwise_map]
  exact List.pairwise_lt_range.imp fun h => by omega
theorem revK_mem (two : Bool) (l : List Int) (b x : Int) (n : Nat) : x ∈ revK two l b n ↔ (0 ≤ x ∧ x < n) ∧ ((x = b ∧ two = true) ∨ (x ≠ b ∧ x ∈ l)) := by
  unfold revK
  rw [List.mem_filter]
  simp only [List.mem_map, List.mem_range, Bool.or_eq_true, Bool.and_eq_true, beq_iff_eq, bne_iff_ne, inI_iff]
  constructor
  · rintro ⟨⟨k, hk, rfl⟩, h⟩
    exact ⟨by omega, h⟩
  · rintro ⟨⟨h0, h1⟩, h⟩
    exact ⟨⟨x.toNat, by omega, by omega⟩, h⟩
theorem revK_succ (two : Bool) (l : List Int) (b : Int) (n : Nat) : revK two l b (n + 1) = revK two l b n ++ (if ((n : Int) == b && two) || ((n : Int) != b && inI l n) then [(n : Int)] else []) := by
  unfold revK
  rw [List.range_succ, List.map_append, List.filter_append]
  congr 1
  rw [List.map_singleton, List.filter_cons, List.filter_nil]
theorem revK_len (two : Bool) (l : List Int) (b : Int) (n : Nat) : (revK two l b n).length ≤ n := by
  unfold revK
  exact Nat.le_trans (List.length_filter_le _ _) (by simp)
theorem posI_at {l : List Int} (b : Int) (h : l.Pairwise (· < ·)) : l.take (posI l b) = l.filter (fun x => decide (x < b)) ∧ l.drop (posI l b) = l.filter (fun x => !decide (x < b)) := by
  induction l with
  | nil => exact ⟨rfl, rfl⟩
  | cons x l ih =>
    rw [List.pairwise_cons] at h
    obtain ⟨i1, i2⟩ := ih h.2
    by_cases e : x < b
    · have hp : posI (x :: l) b = posI l b + 1 := by simp [posI, e]
      rw [hp, List.take_succ_cons, List.drop_succ_cons, i1, i2]
      simp [e]
    · have hf : l.filter (fun x => decide (x < b)) = [] := List.filter_eq_nil_iff.2 fun y hy => by
        have := h.1 y hy; simp; omega
      have hp : posI (x :: l) b = 0 := by simp [posI, e, hf]
      rw [hp]
      have hg : l.filter (fun x => !decide (x < b)) = l := List.filter_eq_self.2 fun y hy => by
        have := h.1 y hy; simp; omega
      simp [e, hf, hg]
theorem posI_le (l : List Int) (b : Int) : posI l b ≤ l.length := List.length_filter_le _ _
theorem ins_mem (l : List Int) (b x : Int) : x ∈ insI l b ↔ x = b ∨ x ∈ l := by
  unfold insI
  rw [List.mem_append, List.mem_cons]
  have : x ∈ l ↔ x ∈ l.take (posI l b) ∨ x ∈ l.drop (posI l b) := by rw [← List.mem_append, List.take_append_drop]
  rw [this]
  constructor
  · rintro (h | h | h) <;> simp [h]
  · rintro (h | h | h) <;> simp [h]
theorem ins_pw {l : List Int} {b : Int} (h : l.Pairwise (· < ·)) (hn : b ∉ l) : (insI l b).Pairwise (· < ·) := by
  obtain ⟨h1, h2⟩ := posI_at b h
  unfold insI
  rw [h1, h2]
  refine List.pairwise_append.2 ⟨h.filter _, List.pairwise_cons.2 ⟨fun y hy => ?_, h.filter _⟩, fun x hx y hy => ?_⟩
  · obtain ⟨hy, hy2⟩ := List.mem_filter.1 hy
    have : y ≠ b := fun e => hn (e ▸ hy)
    simp at hy2; omega
  · obtain ⟨_, hx2⟩ := List.mem_filter.1 hx
    rcases List.mem_cons.1 hy with rfl | hy
    · simpa using hx2
    · obtain ⟨_, hy2⟩ := List.mem_filter.1 hy
      simp at hx2 hy2; omega
theorem ins_rise {l : List Int} {b : Int} (h : rise l = true) (hb : isBlk b = true) (hn : inI l b = false) : rise (insI l b) = true := by
  obtain ⟨h1, h2⟩ := (rise_pw l).1 h
  rw [rise_pw]
  refine ⟨ins_pw h1 (inI_no.1 hn), fun x hx => ?_⟩
  rcases (ins_mem l b x).1 hx with rfl | hx
  · exact of_decide_eq_true hb
  · exact h2 x hx
theorem ins_is {l : List Int} {b : Int} (h : rise l = true) (hb : isBlk b = true) (hn : inI l b = false) : insI l b = revK true l b 12 := by
  obtain ⟨h1, h2⟩ := (rise_pw l).1 h
  have hb := of_decide_eq_true hb
  refine pw_ext id _ _ (by simpa using ins_pw h1 (inI_no.1 hn)) (by simpa using revK_pw true l b 12) fun x => ?_
  rw [ins_mem, revK_mem]
  constructor
  · rintro (rfl | hx)
    · exact ⟨by omega, .inl ⟨rfl, rfl⟩⟩
    · exact ⟨h2 x hx, .inr ⟨fun e => inI_no.1 hn (e ▸ hx), hx⟩⟩
  · rintro ⟨_, ⟨rfl, _⟩ | ⟨_, hx⟩⟩
    · exact .inl rfl
    · exact .inr hx
theorem ins_len (l : List Int) (b : Int) : (insI l b).length = l.length + 1 := by
  have := posI_le l b
  unfold insI; simp; omega
def offI (l : List Int) (b : Int) : List Int := l.filter (fun x => !decide (x = b))
theorem off_mem (l : List Int) (b x : Int) : x ∈ offI l b ↔ x ∈ l ∧ x ≠ b := by simp [offI, List.mem_filter]
theorem off_rise {l : List Int} (b : Int) (h : rise l = true) : rise (offI l b) = true := by
  obtain ⟨h1, h2⟩ := (rise_pw l).1 h
  rw [rise_pw]
  exact ⟨h1.filter _, fun x hx => h2 x ((off_mem l b x).1 hx).1⟩
theorem off_is {l : List Int} (b : Int) (h : rise l = true) : offI l b = revK false l b 12 := by
  obtain ⟨h1, h2⟩ := (rise_pw l).1 h
  refine pw_ext id _ _ (by rw [List.map_id]; exact h1.filter _) (by simpa using revK_pw false l b 12) fun x => ?_
  rw [off_mem, revK_mem]
  constructor
  · rintro ⟨hx, hne⟩; exact ⟨h2 x hx, .inr ⟨hne, hx⟩⟩
  · rintro ⟨_, ⟨_, hf⟩ | ⟨hne, hx⟩⟩
    · cases hf
    · exact ⟨hx, hne⟩
theorem off_len {l : List Int} (b : Int) (h : rise l = true) : (offI l b).length + (if inI l b then 1 else 0) = l.length := by
  have h1 := ((rise_pw l).1 h).1
  clear h
  induction l with
  | nil => rfl
  | cons x l ih =>
    rw [List.pairwise_cons] at h1
    have := ih h1.2
    by_cases e : x = b
    · have hn : inI l b = false := inI_no.2 fun hb => by have := h1.1 b hb; omega
      rw [hn] at this
      have hi : inI (x :: l) b = true := inI_iff.2 (by simp [e])
      rw [hi]
      simp [offI, e] at this ⊢
      exact this
    · have hi : inI (x :: l) b = inI l b := by
        unfold inI; rw [List.any_cons]; simp [e]
      rw [hi]
      simp [offI, e] at this ⊢
      omega
theorem off_in (l : List Int) (b x : Int) : inI (offI l b) x = (inI l x && decide (x ≠ b)) := by
  rw [Bool.eq_iff_iff, Bool.and_eq_true, inI_iff, inI_iff, off_mem, decide_eq_true_eq]
theorem ins_in (l : List Int) (b x : Int) : inI (insI l b) x = (decide (x = b) || inI l x) := by
  rw [Bool.eq_iff_iff, Bool.or_eq_true, inI_iff, inI_iff, ins_mem, decide_eq_true_eq]
end Wb

namespace Wb
open Go Go.RowKit
def askedI (t : Txn) : Int := IntKind.i64.wrap (IntKind.i64.wrap (IntKind.i64.wrap (((t.mt.length + t.rev.length : Nat) : Int) + t.h0.left) + t.h1.left) + t.h2.left)
def openB (t : Txn) : Bool := t.h0.on || t.h1.on || t.h2.on
def isHnd (h : Int) : Bool := decide (0 ≤ h ∧ h < 3)
theorem notGood' {t : Txn} (h : seqOk t.seq = false ∨ copiesB t.mt = false ∨ copiesB t.dt = false ∨ rise t.rev = false ∨ apart t = false ∨ hOk t.h0 = false ∨ hOk t.h1 = false ∨ hOk t.h2 = false) : goodT t = false := by
  cases hg : goodT t
  · rfl
  · obtain ⟨h1, h2, h3, h4, h5, h6, h7, h8⟩ := (goodT_iff t).1 hg
    rw [h1, h2, h3, h4, h5, h6, h7, h8] at h
    simp at h
theorem hOk_iff' (h : Hnd) : hOk h = true ↔ 0 ≤ h.left ∧ h.left ≤ 24 ∧ (h.on = true ∨ h.left = 0) := by
  unfold hOk; simp [and_assoc]
def getH (t : Txn) (h : Int) : Hnd := if h = 0 then t.h0 else if h = 1 then t.h1 else t.h2
def setH (t : Txn) (h : Int) (x : Hnd) : Txn := if h = 0 then { t with h0 := x } else if h = 1 then { t with h1 := x } else { t with h2 := x }
def stopE (t : Txn) (h : Int) : Int := if goodT t = false then 2 else if ¬ (0 ≤ h ∧ h ≤ 2) ∨ (getH t h).on = false then 4 else 0
def stopT (t : Txn) (h : Int) : Txn := if stopE t h = 0 then setH t h hnd0 else t
theorem stop_bad {t : Txn} {h : Int} (hg : goodT t = false) : stopE t h = 2 ∧ stopT t h = t := by
  have e : stopE t h = 2 := by unfold stopE; rw [if_pos hg]
  exact ⟨e, by unfold stopT; rw [e, if_neg (by decide)]⟩
theorem stop_none {t : Txn} {h : Int} (hg : goodT t = true) (hn : ¬ (0 ≤ h ∧ h ≤ 2) ∨ (getH t h).on = false) : stopE t h = 4 ∧ stopT t h = t := by
  have e : stopE t h = 4 := by unfold stopE; rw [if_neg (by rw [hg]; decide), if_pos hn]
  exact ⟨e, by unfold stopT; rw [e, if_neg (by decide)]⟩
theorem stop_ok {t : Txn} {h : Int} (hg : goodT t = true) (hh : 0 ≤ h ∧ h ≤ 2) (hn : (getH t h).on = true) : stopE t h = 0 ∧ stopT t h = setH t h hnd0 := by
  have e : stopE t h = 0 := by unfold stopE; rw [if_neg (by rw [hg]; decide), if_neg (by rintro (h1 | h1); exact h1 hh; rw [hn] at h1; cases h1)]
  exact ⟨e, by unfold stopT; rw [if_pos e]⟩
def begE (t : Txn) (h n free : Int) : Int := if goodT t = false then 2 else if ¬ (0 ≤ h ∧ h ≤ 2) then 4 else if (getH t h).on = true then 5 else if n < 0 ∨ 12 < n then 2 else if 24 < askedI t + n ∨ free < mostN (askedI t + n) then 6 else 0
def begT (t : Txn) (h n free : Int) : Txn := if begE t h n free = 0 then setH t h ⟨true, n⟩ else t
theorem begT_not {t : Txn} {h n free : Int} {k : Int} (hk : k ≠ 0) (e : begE t h n free = k) : begE t h n free = k ∧ begT t h n free = t := ⟨e, by unfold begT; rw [e, if_neg hk]⟩
theorem beg_bad {t : Txn} {h n free : Int} (hg : goodT t = false) : begE t h n free = 2 ∧ begT t h n free = t :=
  begT_not (by decide) (by unfold begE; rw [if_pos hg])
theorem beg_none {t : Txn} {h n free : Int} (hg : goodT t = true) (hn : ¬ (0 ≤ h ∧ h ≤ 2)) : begE t h n free = 4 ∧ begT t h n free = t :=
  begT_not (by decide) (by unfold begE; rw [if_neg (by rw [hg]; decide), if_pos hn])
theorem beg_on {t : Txn} {h n free : Int} (hg : goodT t = true) (hh : 0 ≤ h ∧ h ≤ 2) (ho : (getH t h).on = true) : begE t h n free = 5 ∧ begT t h n free = t :=
  begT_not (by decide) (by unfold begE; rw [if_neg (by rw [hg]; decide), if_neg (fun x => x hh), if_pos ho])
theorem beg_far {t : Txn} {h n free : Int} (hg : goodT t = true) (hh : 0 ≤ h ∧ h ≤ 2) (ho : (getH t h).on = false) (hn : n < 0 ∨ 12 < n) : begE t h n free = 2 ∧ begT t h n free = t :=
  begT_not (by decide) (by unfold begE; rw [if_neg (by rw [hg]; decide), if_neg (fun x => x hh), if_neg (by rw [ho]; decide), if_pos hn])
theorem beg_full {t : Txn} {h n free : Int} (hg : goodT t = true) (hh : 0 ≤ h ∧ h ≤ 2) (ho : (getH t h).on = false) (hn : ¬ (n < 0 ∨ 12 < n)) (hf : 24 < askedI t + n ∨ free < mostN (askedI t + n)) : begE t h n free = 6 ∧ begT t h n free = t :=
  begT_not (by decide) (by unfold begE; rw [if_neg (by rw [hg]; decide), if_neg (fun x => x hh), if_neg (by rw [ho]; decide), if_neg hn, if_pos hf])
theorem beg_ok {t : Txn} {h n free : Int} (hg : goodT t = true) (hh : 0 ≤ h ∧ h ≤ 2) (ho : (getH t h).on = false) (hn : ¬ (n < 0 ∨ 12 < n)) (hf : ¬ (24 < askedI t + n ∨ free < mostN (askedI t + n))) : begE t h n free = 0 ∧ begT t h n free = setH t h ⟨true, n⟩ := by
  have e : begE t h n free = 0 := by unfold begE; rw [if_neg (by rw [hg]; decide), if_neg (fun x => x hh), if_neg (by rw [ho]; decide), if_neg hn, if_neg hf]
  exact ⟨e, by unfold begT; rw [if_pos e]⟩
theorem hnd_of_good {t : Txn} (h : goodT t = true) : (0 ≤ t.h0.left ∧ t.h0.left ≤ 24) ∧ (0 ≤ t.h1.left ∧ t.h1.left ≤ 24) ∧ (0 ≤ t.h2.left ∧ t.h2.left ≤ 24) := by
  have no : ∀ {x : Bool}, x ≠ false → x = true := fun {x} hx => by cases x; exact absurd rfl hx; rfl
  have a0 := (hOk_iff' _).1 (no fun hf => by rw [notGood' (.inr (.inr (.inr (.inr (.inr (.inl hf))))))] at h; cases h)
  have a1 := (hOk_iff' _).1 (no fun hf => by rw [notGood' (.inr (.inr (.inr (.inr (.inr (.inr (.inl hf)))))))] at h; cases h)
  have a2 := (hOk_iff' _).1 (no fun hf => by rw [notGood' (.inr (.inr (.inr (.inr (.inr (.inr (.inr hf)))))))] at h; cases h)
  exact ⟨⟨a0.1, a0.2.1⟩, ⟨a1.1, a1.2.1⟩, a2.1, a2.2.1⟩
theorem asked_sum {t : Txn} (h : goodT t = true) (h1 : t.mt.length ≤ 5864062014805) (h2 : t.rev.length ≤ 17592186044160) : askedI t = (t.mt.length : Int) + t.rev.length + t.h0.left + t.h1.left + t.h2.left := by
  obtain ⟨⟨a0, a0'⟩, ⟨a1, a1'⟩, a2, a2'⟩ := hnd_of_good h
  unfold askedI
  rw [IntWalk.i64_in (((t.mt.length + t.rev.length : Nat) : Int) + t.h0.left) (by omega), IntWalk.i64_in (((t.mt.length + t.rev.length : Nat) : Int) + t.h0.left + t.h1.left) (by omega), IntWalk.i64_in _ (by omega)]
  omega
theorem asked_low {t : Txn} (h : goodT t = true) (h1 : t.mt.length ≤ 5864062014805) (h2 : t.rev.length ≤ 17592186044160) : 0 ≤ askedI t ∧ askedI t ≤ 30000000000000 := by
  obtain ⟨⟨a0, a0'⟩, ⟨a1, a1'⟩, a2, a2'⟩ := hnd_of_good h
  rw [asked_sum h h1 h2]
  omega
def mayE (t : Txn) (h b : Int) : Int := if goodT t = false then 2 else if ¬ (0 ≤ h ∧ h ≤ 2) ∨ (getH t h).on = false ∨ isBlk b = false then 4 else 0
theorem may_bad {t : Txn} {h b : Int} (hg : goodT t = false) : mayE t h b = 2 := by unfold mayE; rw [if_pos hg]
theorem may_none {t : Txn} {h b : Int} (hg : goodT t = true) (hn : ¬ (0 ≤ h ∧ h ≤ 2) ∨ (getH t h).on = false ∨ isBlk b = false) : mayE t h b = 4 := by unfold mayE; rw [if_neg (by rw [hg]; decide), if_pos hn]
theorem may_ok {t : Txn} {h b : Int} (hg : goodT t = true) (hh : 0 ≤ h ∧ h ≤ 2) (ho : (getH t h).on = true) (hb : isBlk b = true) : mayE t h b = 0 := by
  unfold mayE; rw [if_neg (by rw [hg]; decide), if_neg]
  rintro (h1 | h1 | h1)
  · exact h1 hh
  · rw [ho] at h1; cases h1
  · rw [hb] at h1; cases h1
end Wb
