/- Parts of the proof: RowJ SlcB TxnQ TxnS Pay SlcD. -/
import Derived.Test.YtjhmfljlclajnacGreatDoorKTopSpace8
import Derived.Test.YtjhmfljlclajnacGreatDoorKTopSpace10
import Derived.Test.YtjhmfljlclajnacGreatDoorKTopSpace0
import Derived.Test.YtjhmfljlclajnacGreatDoorKTopSpace5
set_option linter.unusedVariables false
set_option linter.unusedSimpArgs false
namespace Wb
open Go Go.RowKit
section
variable {P : Program} {w : World} {ops : Array Oper} {rest : List Oper} {o : Oper} {a : Act} {Q : Exit → Act → World → Prop}
theorem wpList_appR (hgd : o.guard = none) (d s : Operand) (t t' : TypeId) (ho : o.op = .call { callee := .builtin .append, args := #[d, s], argTypes := #[t, t'] }) {v u v' : Value} {w' : World}
    (hr : (Builtin.append_ #[t, t'] o.type #[v, u]).run P w = .ok v' w') (hd : a.eval d = v) (hs : a.eval s = u) (h : wpList P ops Q rest (a.put o.dst v') w') : wpList P ops Q (o :: rest) a w := by
  refine wpList_plain hgd fun K hK => ?_
  unfold Oper.wp execOp
  simp only [ho, resolve, invoke, builtin, Sem.run_bind, Sem.run_pure, Result.andThen_ok, List.map_toArray, List.map_cons, List.map_nil, hd, hs, hr]
  exact hK _ _ h
theorem step_copyR {K : Act → World → Prop} {E : Prop} (hg : o.guard = none) (d s : Operand) (t t' : TypeId) (ho : o.op = .call { callee := .builtin .copy, args := #[d, s], argTypes := #[t, t'] }) {v u v' : Value} {w' : World}
    (hr : (Builtin.copy_ #[t, t'] o.type #[v, u]).run P w = .ok v' w') (hd : a.eval d = v) (hs : a.eval s = u) (hK : K (a.put o.dst v') w') : if Region.wanted o (yielded ops a.tmps) = true then Oper.wp P o a w K Q else E := by
  have hw : Region.wanted o (yielded ops a.tmps) = true := by simp [Region.wanted, hg]
  rw [if_pos hw]
  unfold Oper.wp execOp
  simp only [ho, resolve, invoke, builtin, Sem.run_bind, Sem.run_pure, Result.andThen_ok, List.map_toArray, List.map_cons, List.map_nil, hd, hs, hr]
  exact hK
theorem run_copy_blk {dT elem : TypeId} {c bytes : Nat} (hT : Elem P dT elem c bytes) (w : World) (sT ty : TypeId) {g : Nat} {cur : Array Value} (hk : Blk w g cur elem) (off dLen dCap : Nat) (b soff sLen sCap : Nat) (cs : List Value)
    (hn : cs.length = Nat.min sLen dLen * c) (hsrc : ∀ j v, cs[j]? = some v → w.cell? ⟨b, soff + j, none⟩ = some v) (hfit : off + cs.length ≤ cur.size) (h1 : ∀ v ∈ cs, v.oneCell' = true) :
    (Builtin.copy_ #[dT, sT] ty #[.slice (some ⟨g, off, none⟩) dLen dCap, .slice (some ⟨b, soff, none⟩) sLen sCap]).run P w = .ok (goInt (Nat.min sLen dLen : Nat)) (w.setCells g off cs) := by
  obtain ⟨hu, i, z, hi, hz, hsz, hby, hzs⟩ := hT
  exact run_copy_c w dT sT ty elem c g off dLen dCap ⟨b, soff, none⟩ sLen sCap cs hu (by rw [hi]; simp [hsz]) hn (fun j v hj => by rw [Addr.add_lit]; exact hsrc j v hj) (fun j hj => by rw [hk.cell, Array.getElem?_eq_getElem (by omega)]; rfl) (fun j hj => hk.free _) h1
end
section
variable {α : Type} {f : α → List Value} {base : Nat} {e : TypeId} {c : Nat} {l : List α}
theorem flat_one (hF : Flat f c) (l : List α) : ∀ u ∈ l.flatMap f, u.oneCell' = true := fun u hu => by obtain ⟨x, _, hx⟩ := List.mem_flatMap.1 hu; exact hF.one x u hx
theorem insLen {i : Nat} (x : α) (hi : i ≤ l.length) : (l.take i ++ x :: l.drop i).length = l.length + 1 := by
  rw [List.length_append, List.length_take, List.length_cons, List.length_drop]; omega
theorem ins_shift (hF : Flat f c) {g cap i : Nat} {cur : Array Value} (hbg : base ≤ g) (hmax : cap ≤ maxLen) (hsz : cur.size = cap * c) (htk : cur.toList.take (l.length * c) = l.flatMap f) (hi : i ≤ l.length) (hc : l.length + 1 ≤ cap) (x : α) {w0 : World} (hk : Blk w0 g cur e) :
    ∃ cur1 : Array Value, cur1.size = cap * c ∧ Blk (w0.setCells g ((i + 1) * c) ((l.drop i).flatMap f)) g cur1 e ∧ ∀ w1, Blk w1 g cur1 e → Own f base e c (w1.setCells g (i * c) (f x)) (.slice (some ⟨g, 0, none⟩) (l.length + 1) cap) (l.take i ++ x :: l.drop i) := by
  have hd := flat_dropLen hF.len l i
  have hm := mul_split (c := c) hi
  have hm2 : (l.length + 1) * c ≤ cap * c := Nat.mul_le_mul_right _ hc
  rw [Nat.succ_mul] at hm2
  have b1 := Blk.sets ((l.drop i).flatMap f) ((i + 1) * c) w0 cur hk (by rw [hd, hsz, Nat.succ_mul]; omega)
  have hs1 : (cur.toList.take ((i + 1) * c) ++ (l.drop i).flatMap f ++ cur.toList.drop ((i + 1) * c + ((l.drop i).flatMap f).length)).length = cap * c := by
    simp only [List.length_append, List.length_take, List.length_drop, Array.length_toList, hsz, hd, Nat.succ_mul]
    omega
  refine ⟨_, by simpa using hs1, b1, fun w1 k1 => ?_⟩
  have b2 := Blk.sets (f x) (i * c) w1 _ k1 (by rw [hF.len, List.size_toArray, hs1]; omega)
  obtain ⟨h1, h2⟩ := ins_room hF.len cur.toList l i cap x (by rw [Array.length_toList]; exact hsz) htk hi hc rfl rfl
  have := Own.ofRow (l := l.take i ++ x :: l.drop i) (base := base) hF hbg b2 (by rw [insLen x hi]; exact hc) hmax (by rw [List.size_toArray]; exact h1) (by rw [insLen x hi]; exact h2)
  rw [insLen x hi] at this
  exact this
theorem ins_grown (hF : Flat f c) {g cap i : Nat} {cur : Array Value} (Z : List Value) (hbg : base ≤ g) (hmax : cap ≤ maxLen) (hZ : Z.length = (cap - i) * c) (hcur : cur = ((l.take i).flatMap f ++ Z).toArray) (hi : i ≤ l.length) (hc : l.length + 1 ≤ cap) (x : α) {w0 : World} (hk : Blk w0 g cur e) :
    cur.size = cap * c ∧ ∃ cur1 : Array Value, cur1.size = cap * c ∧ Blk (w0.setCells g (i * c) (f x)) g cur1 e ∧ ∀ w1, Blk w1 g cur1 e → Own f base e c (w1.setCells g ((i + 1) * c) ((l.drop i).flatMap f)) (.slice (some ⟨g, 0, none⟩) (l.length + 1) cap) (l.take i ++ x :: l.drop i) := by
  have hd := flat_dropLen hF.len l i
  have hm := mul_split (c := c) hi
  have hm2 : (l.length + 1) * c ≤ cap * c := Nat.mul_le_mul_right _ hc
  have hm3 := mul_split (c := c) (n := cap) (i := i) (by omega)
  have h4 := flat_len hF.len (l.take i)
  rw [List.length_take, Nat.min_eq_left hi] at h4
  rw [Nat.succ_mul] at hm2
  have hs0 : cur.size = cap * c := by rw [hcur, List.size_toArray, List.length_append, h4, hZ]; exact hm3
  refine ⟨hs0, ?_⟩
  have b1 := Blk.sets (f x) (i * c) w0 cur hk (by rw [hF.len, hs0]; omega)
  have hs1 : (cur.toList.take (i * c) ++ f x ++ cur.toList.drop (i * c + (f x).length)).length = cap * c := by
    simp only [List.length_append, List.length_take, List.length_drop, Array.length_toList, hs0, hF.len]
    omega
  refine ⟨_, by simpa using hs1, b1, fun w1 k1 => ?_⟩
  have b2 := Blk.sets ((l.drop i).flatMap f) ((i + 1) * c) w1 _ k1 (by rw [hd, List.size_toArray, hs1, Nat.succ_mul]; omega)
  obtain ⟨h1, h2⟩ := ins_grow hF.len Z l i cap x hZ hi hc (L := cur.toList) (by rw [hcur]) rfl rfl
  have := Own.ofRow (l := l.take i ++ x :: l.drop i) (base := base) hF hbg b2 (by rw [insLen x hi]; exact hc) hmax (by rw [List.size_toArray]; exact h1) (by rw [insLen x hi]; exact h2)
  rw [insLen x hi] at this
  exact this
theorem run_app_make {P : Program} {t tn : TypeId} {bytes : Nat} (hF : Flat f c) (hT : Elem P t e c bytes) (htn : P.underlying tn = some (.int .i64)) (w : World) {g cap i m : Nat} {cur : Array Value} (hk : Blk w g cur e) (htk : cur.toList.take (l.length * c) = l.flatMap f) (hi : i ≤ l.length) (hm : 0 < m) (hg : cap < i + m)
    (hroom : (i + m) * bytes ≤ 140737488355328) (h63 : i + m ≤ maxLen) :
    ∃ Z : List Value, Z.length = (grownCap w (i + m) cap e - i) * c ∧ ∀ ty, (Builtin.append_ #[t, tn] ty #[.slice (some ⟨g, 0, none⟩) i cap, .int .i64 m]).run P w =
      .ok (.slice (some ⟨w.heap.size, 0, none⟩) (i + m) (grownCap w (i + m) cap e)) (w.drew.alloc (.cells ((l.take i).flatMap f ++ Z).toArray e)) := by
  obtain ⟨hu, io, z, hio, hz, hsz, hby, hzs⟩ := hT
  have hold : (Builtin.firstCells io.size i (.slice (some ⟨g, 0, none⟩) i cap)).run P w.drew = .ok ((l.take i).flatMap f).toArray w.drew := by
    have h4 := flat_len hF.len (l.take i)
    rw [List.length_take, Nat.min_eq_left hi] at h4
    refine run_firstCells_some w.drew io.size i ⟨g, 0, none⟩ i cap _ (by rw [h4, hsz]) (fun j u hj => ?_)
    have hlt : j < ((l.take i).flatMap f).length := (List.getElem?_eq_some_iff.1 hj).1
    rw [Addr.add_lit, Nat.zero_add]
    have h5 : (l.flatMap f)[j]? = some u := by
      conv => lhs; rw [← List.take_append_drop i l]
      rw [List.flatMap_append, List.getElem?_append_left hlt]
      exact hj
    rw [← htk, List.getElem?_take] at h5
    split at h5
    · show w.cell? _ = _
      rw [hk.cell, ← h5]
      simp
    · cases h5
  have hby' : m * bytes ≤ (i + m) * bytes := Nat.mul_le_mul_right _ (by omega)
  have hr := fun ty => Lib.run_append_grow_zeros w t tn ty e io z .i64 .i64 hu htn hio hz (some ⟨g, 0, none⟩) i cap _ hold m hm (by rw [hsz]; exact hF.pos) hg (by unfold maxLen at h63; omega) (by rw [hby]; omega) (by rw [hby]; exact growslice_fits hg hroom)
  have hge := grownCap_ge w (i + m) cap e
  refine ⟨(Builtin.zeroCells z.cells m).toList ++ (Builtin.zeroCells z.cells (grownCap w (i + m) cap e - (i + m))).toList, ?_, ?_⟩
  · rw [List.length_append, Array.length_toList, Array.length_toList, size_zeroCells, size_zeroCells, hzs, ← Nat.add_mul]
    congr 1
    omega
  · intro ty
    rw [hr]
    congr 3
    apply Array.ext'
    simp [List.append_assoc]
end
end Wb
namespace Go.Proofs.YtjhmfljlclajnacGreatDoor
open Go.RowKit Wb
set_option maxRecDepth 100000
set_option maxHeartbeats 8000000
theorem slices_InsertC (l : List Cpy) (i : Nat) (x : Cpy) (v : Value) (vb base : Nat) (w : World) (h : Wb.Own cpyC base 92 2 w v l) (hbase : base ≤ w.heap.size) (hx : Blk w vb #[.int .i64 x.block, .string x.text] 92) (hvb : v.ownBlock ≠ some vb) (hi : i ≤ l.length) (hl : l.length ≤ 1000000) :
    Calls Tryz.prog 165 #[v, .int .i64 i, .slice (some ⟨vb, 0, none⟩) 1 1] w fun e w' => ∃ v', e = .returned v' ∧ Wb.Own cpyC base 92 2 w' v' (l.take i ++ x :: l.drop i) ∧ Below base w w' := by
  have hrx : RL cpyC w (.slice (some ⟨vb, 0, none⟩) 1 1) [x] := RL.ofBlk (e := 92) [x] (by simpa [cpyC] using hx) (by simp [maxLen])
  by_cases hn : i = l.length
  · subst hn
    have e1 : l.take l.length ++ x :: l.drop l.length = l ++ [x] := by simp
    rw [e1]
    obtain ⟨a, cap, rfl, hc1, hc2⟩ := h.reads.form
    have hg : a = none ∧ cap = 0 ∨ ∃ g, a = some ⟨g, 0, none⟩ := by
      rcases h.2 with ⟨h1, _⟩ | ⟨g, cap', cur, h1, _⟩
      · simp only [Value.slice.injEq] at h1
        exact .inl ⟨h1.1, h1.2.2⟩
      · simp only [Value.slice.injEq] at h1
        exact .inr ⟨g, h1.1⟩
    replace h := hid h; replace hrx := hid hrx
    clear hx hvb e1
    rcases hg with ⟨rfl, rfl⟩ | ⟨g, rfl⟩
    · go_enter Tryz.func165, Tryz.ntmps165
      go_wp2_with (at_builtin; refine wpList_app rfl _ _ 34 rfl base _ 2 24 cpyC_flat elemCpy h.out rfl [x] hrx.out rfl (by simp; omega) (by simp; unfold maxLen; omega) hbase ?_; intro v1 w1 hown1 hg1; obtain ⟨a1, cap1, rfl⟩ := hown1.form; have nx := h.out.belowGrown hbase hg1; simp only [len1] at hown1)
      go_ret
      exact ⟨_, rfl, hown1, nx⟩
    · by_cases hcc : cap = l.length
      · subst hcc
        go_enter Tryz.func165, Tryz.ntmps165
        go_wp2_with (at_builtin; refine wpList_app rfl _ _ 34 rfl base _ 2 24 cpyC_flat elemCpy h.out rfl [x] hrx.out rfl (by simp; omega) (by simp; unfold maxLen; omega) hbase ?_; intro v1 w1 hown1 hg1; obtain ⟨a1, cap1, rfl⟩ := hown1.form; have nx := h.out.belowGrown hbase hg1; simp only [len1] at hown1)
        go_ret
        exact ⟨_, rfl, hown1, nx⟩
      · go_enter Tryz.func165, Tryz.ntmps165
        go_wp2_with (at_builtin; refine wpList_app rfl _ _ 34 rfl base _ 2 24 cpyC_flat elemCpy h.out rfl [x] hrx.out rfl (by simp; omega) (by simp; unfold maxLen; omega) hbase ?_; intro v1 w1 hown1 hg1; obtain ⟨a1, cap1, rfl⟩ := hown1.form; have nx := h.out.belowGrown hbase hg1; simp only [len1] at hown1)
        go_ret
        exact ⟨_, rfl, hown1, nx⟩
  · have hlt : i < l.length := by omega
    obtain ⟨g, cap, cur, rfl, hbg, hkk, hcap, hmax, hsz, htk⟩ := h.row (by omega)
    have hne : vb ≠ g := fun h2 => hvb (by rw [h2]; rfl)
    have hn1 : ¬ ((i : Int) = (l.length : Int)) := by omega
    have hcells := row_from cpyC_flat.len hkk htk hi
    have hxc := fun j u (hj : (cpyC x)[j]? = some u) => (show w.cell? ⟨vb, 0 + j, none⟩ = some u by rw [hx.cell, Nat.zero_add, ← hj]; simp [cpyC])
    have hdl := flat_dropLen cpyC_flat.len l i
    have hfx := cpyC_flat.len x
    have hci : ¬ (cap = i) := by omega
    have hin : (i : Int) ≤ (l.length : Int) := by omega
    have hw1 : IntKind.i64.wrap ((i : Int) + 1) = (i : Int) + 1 := IntWalk.i64_in _ (by omega)
    have hw2 : IntKind.i64.wrap ((l.length : Int) + 1) = (l.length : Int) + 1 := IntWalk.i64_in _ (by omega)
    have ht1 : ((i : Int) + 1).toNat = i + 1 := by omega
    have hb1 : (0 : Int) ≤ (i : Int) + 1 := by omega
    have hb3 : (i : Int) ≤ (l.length : Int) + 1 := by omega
    have ht2 : ((l.length : Int) + 1).toNat = l.length + 1 := by omega
    by_cases hroom : l.length + 1 ≤ cap
    · have hci2 : ¬ (cap = i + 1) := by omega
      have hz : ∀ w, (Go.sizeOf 92).run Tryz.prog w = .ok 2 w := fun w => by
        obtain ⟨io, z, h1, h2, h3, _⟩ := elemCpy.info
        simp [Go.sizeOf, typeInfo, h1, h3]
      have hcz : cur.size ≠ 0 := by rw [hsz]; have := Nat.mul_le_mul_right 2 hroom; omega
      have hov : ∀ off lb cb, (callFunc 180 #[.slice (some ⟨vb, 0, none⟩) 1 1, .slice (some ⟨g, off, none⟩) lb cb]).run Tryz.prog w = .ok (.value (.bool false)) w := fun off lb cb => by
        rw [run_callFunc_extern Tryz.func180 (by kernel_rfl) (by kernel_rfl) (by kernel_rfl) (e := Extern.SlicesOverlaps.overlaps #[34, 34] #[4]) (by kernel_rfl),
          Lib.run_overlaps_apart w 34 4 92 elemCpy.under 2 hz ⟨vb, 0, none⟩ ⟨g, off, none⟩ 1 1 lb cb hne 92 92 _ _ (by show w.shape? vb = _; unfold World.shape?; rw [show w.heap[vb]? = _ from hx]) (by show w.shape? g = _; unfold World.shape?; rw [show w.heap[g]? = _ from hkk]) hcz (hx.free _) (hx.free _)]
        rfl
      obtain ⟨cur1, hs1, hk1, hfin⟩ := ins_shift (base := base) cpyC_flat hbg hmax hsz htk hi hroom x (w0 := w.drew) hkk
      have hcp1 : ∀ ty dc sc, (Builtin.copy_ #[34, 34] ty #[.slice (some ⟨g, (i + 1) * 2, none⟩) (l.length - i) dc, .slice (some ⟨g, i * 2, none⟩) (l.length + 1 - i) sc]).run Tryz.prog w.drew = .ok _ (w.drew.setCells g ((i + 1) * 2) ((l.drop i).flatMap cpyC)) := fun ty dc sc =>
        run_copy_blk elemCpy w.drew _ ty (cur := cur) hkk _ _ dc g _ _ sc _ (by rw [hdl]; congr 1; show l.length - i = min (l.length + 1 - i) (l.length - i); omega) hcells (by rw [hdl, hsz]; have h5 := mul_split (c := 2) (n := l.length + 1) (i := i + 1) (by omega); have h6 := Nat.mul_le_mul_right 2 hroom; rw [show l.length + 1 - (i + 1) = l.length - i by omega] at h5; omega) (flat_one cpyC_flat _)
      have hcp2 : ∀ ty dc (w1 : World), Blk w1 g cur1 92 → (∀ j u, (cpyC x)[j]? = some u → w1.cell? ⟨vb, 0 + j, none⟩ = some u) → (Builtin.copy_ #[34, 34] ty #[.slice (some ⟨g, i * 2, none⟩) (l.length + 1 - i) dc, .slice (some ⟨vb, 0, none⟩) 1 1]).run Tryz.prog w1 = .ok _ (w1.setCells g (i * 2) (cpyC x)) := fun ty dc w1 k1 hs2 =>
        run_copy_blk elemCpy w1 _ ty (cur := cur1) k1 _ _ dc vb 0 1 1 _ (by rw [hfx, show Nat.min 1 (l.length + 1 - i) = 1 from Nat.min_eq_left (by omega)]) hs2 (by rw [hfx, hs1]; have h5 := mul_split (c := 2) (n := cap) (i := i) (by omega); have h6 : 1 * 2 ≤ (cap - i) * 2 := Nat.mul_le_mul_right _ (by omega); omega) (fun u hu => cpyC_flat.one x u hu)
      have hk1 : Blk (w.drew.setCells g ((i + 1) * 2) ((l.drop i).flatMap cpyC)) g cur1 92 := hk1
      have hs2 := fun j u hj => (show (w.drew.setCells g ((i + 1) * 2) ((l.drop i).flatMap cpyC)).cell? ⟨vb, 0 + j, none⟩ = some u by rw [Blk.cell (Blk.sets_other hne _ _ _ hx.drew), ← hxc j u hj, hx.cell])
      have nz1 := Wb.Below.sets g hbg ((l.drop i).flatMap cpyC) ((i + 1) * 2) _ (Below.refl base w).drew
      have nz2 := Wb.Below.sets g hbg (cpyC x) (i * 2) _ nz1
      replace hfin := hid hfin; replace nz2 := hid nz2; replace hxc := hid hxc; replace hs2 := hid hs2; replace hk1 := hid hk1; replace hcp1 := hid hcp1; replace hcp2 := hid hcp2
      clear hcells hdl htk hsz hkk hcz hz hx h nz1
      have hcp2x := fun ty dc => hcp2.out ty dc _ hk1.out hs2.out
      go_enter Tryz.func165, Tryz.ntmps165
      go_wp2_with (simp only [hov])
      go_region_law (refine step_copyR rfl _ _ 34 34 rfl (hcp1.out 3 (cap - (i + 1)) (cap - i)) (by simp [Act.eval, Act.put]) (by simp [Act.eval, Act.put]) ?_)
      all_goals go_wp2
      all_goals go_ret
      all_goals exact ⟨_, rfl, hfin.out _ hk1.out, nz2.out⟩
    · obtain rfl : cap = l.length := by omega
      obtain ⟨Z, hZ, hrz⟩ : ∃ Z : List Value, Z.length = (grownCap w (l.length + 1) l.length 92 - i) * 2 ∧ ∀ ty, (Builtin.append_ #[34, 3] ty #[.slice (some ⟨g, 0, none⟩) i l.length, .int .i64 ((l.length : Int) + 1 - (i : Int))]).run Tryz.prog w = .ok (.slice (some ⟨w.heap.size, 0, none⟩) (l.length + 1) (grownCap w (l.length + 1) l.length 92)) (w.drew.alloc (.cells ((l.take i).flatMap cpyC ++ Z).toArray 92)) := by
        have e1 : i + (l.length + 1 - i) = l.length + 1 := by omega
        have e2 : ((l.length + 1 - i : Nat) : Int) = (l.length : Int) + 1 - (i : Int) := by omega
        obtain ⟨Z, hZ, hq⟩ := run_app_make (P := Tryz.prog) (tn := 3) (cap := l.length) cpyC_flat elemCpy (by kernel_rfl) w hkk htk hi (show 0 < l.length + 1 - i by omega) (by omega) (by rw [e1]; omega) (by rw [e1]; unfold maxLen; omega)
        rw [e1] at hZ hq
        rw [e2] at hq
        exact ⟨Z, hZ, hq⟩
      have hGn : l.length + 1 ≤ grownCap w (l.length + 1) l.length 92 := grownCap_ge w _ _ _
      have hGm : grownCap w (l.length + 1) l.length 92 ≤ maxLen := grownCap_le_maxLen w _ _ _ (by unfold maxLen; omega)
      obtain ⟨G, hG⟩ : ∃ G, G = grownCap w (l.length + 1) l.length 92 := ⟨_, rfl⟩
      rw [← hG] at hZ hrz hGn hGm
      clear hG
      obtain ⟨row, hrow⟩ : ∃ row : Array Value, row = ((l.take i).flatMap cpyC ++ Z).toArray := ⟨_, rfl⟩
      rw [← hrow] at hrz
      have hbw : g < w.heap.size := Blk.lt (cs := cur) hkk
      have hbv : vb < w.heap.size := hx.lt
      have hk0 : Blk (w.drew.alloc (.cells row 92)) w.heap.size row 92 := Blk.new w.drew row _
      have hk0' : Blk ((w.alloc (.cells row 92)).drew) w.heap.size row 92 := (Blk.new w row _).drew
      have hGi : ¬ (G = i) := by omega
      have hGi2 : ¬ (G = i + 1) := by omega
      have hgt : (l.length : Int) < (l.length : Int) + 1 := by omega
      have hin2 : i ≤ l.length + 1 := by omega
      obtain ⟨hs0, cur1, hs1, hk1, hfin⟩ := ins_grown (base := base) cpyC_flat Z hbase hGm hZ hrow hi hGn x (w0 := w.drew.alloc (.cells row 92)) hk0
      obtain ⟨W1, hW1⟩ : ∃ W1, W1 = w.drew.alloc (.cells row 92) := ⟨_, rfl⟩
      have hxc1 : ∀ j u, (cpyC x)[j]? = some u → W1.cell? ⟨vb, 0 + j, none⟩ = some u := fun j u hj => by rw [hW1, Blk.cell (hx.drew.alloc _), ← hxc j u hj, hx.cell]
      have hk0w : Blk W1 w.heap.size row 92 := by rw [hW1]; exact hk0
      have hcpA : ∀ ty dc, (Builtin.copy_ #[34, 34] ty #[.slice (some ⟨w.heap.size, i * 2, none⟩) (l.length + 1 - i) dc, .slice (some ⟨vb, 0, none⟩) 1 1]).run Tryz.prog W1 = .ok _ (W1.setCells w.heap.size (i * 2) (cpyC x)) := fun ty dc =>
        run_copy_blk elemCpy W1 _ ty (cur := row) hk0w _ _ dc vb 0 1 1 _ (by rw [hfx, show Nat.min 1 (l.length + 1 - i) = 1 from Nat.min_eq_left (by omega)]) hxc1 (by rw [hfx, hs0]; have h5 := mul_split (c := 2) (n := G) (i := i) (by omega); have h6 : 1 * 2 ≤ (G - i) * 2 := Nat.mul_le_mul_right _ (by omega); omega) (fun u hu => cpyC_flat.one x u hu)
      have hk1w : Blk (W1.setCells w.heap.size (i * 2) (cpyC x)).drew w.heap.size cur1 92 := by rw [hW1]; exact hk1
      have hcells1 : ∀ j u, ((l.drop i).flatMap cpyC)[j]? = some u → (W1.setCells w.heap.size (i * 2) (cpyC x)).drew.cell? ⟨g, i * 2 + j, none⟩ = some u := fun j u hj => by
        rw [show (W1.setCells w.heap.size (i * 2) (cpyC x)).drew.cell? ⟨g, i * 2 + j, none⟩ = (W1.setCells w.heap.size (i * 2) (cpyC x)).cell? ⟨g, i * 2 + j, none⟩ from rfl, hW1, Blk.cell (Blk.sets_other (by omega) _ _ _ ((show Blk w.drew g cur 92 from hkk).alloc _)), ← Blk.cell hkk]
        exact hcells j u hj
      have hcpB : ∀ ty dc sc, (Builtin.copy_ #[34, 34] ty #[.slice (some ⟨w.heap.size, (i + 1) * 2, none⟩) (l.length - i) dc, .slice (some ⟨g, i * 2, none⟩) (l.length - i) sc]).run Tryz.prog (W1.setCells w.heap.size (i * 2) (cpyC x)).drew = .ok _ ((W1.setCells w.heap.size (i * 2) (cpyC x)).drew.setCells w.heap.size ((i + 1) * 2) ((l.drop i).flatMap cpyC)) := fun ty dc sc =>
        run_copy_blk elemCpy (W1.setCells w.heap.size (i * 2) (cpyC x)).drew _ ty (cur := cur1) hk1w _ _ dc g _ _ sc _ (by rw [hdl]; congr 1; show l.length - i = min (l.length - i) (l.length - i); omega) hcells1 (by rw [hdl, hs1]; have h5 := mul_split (c := 2) (n := l.length + 1) (i := i + 1) (by omega); have h6 := Nat.mul_le_mul_right 2 hGn; rw [show l.length + 1 - (i + 1) = l.length - i by omega] at h5; omega) (flat_one cpyC_flat _)
      have hfinw := hfin _ (show Blk (W1.setCells w.heap.size (i * 2) (cpyC x)).drew w.heap.size cur1 92 from hk1w)
      have nx1 : Below base w W1 := by rw [hW1]; exact (Below.refl base w).drew.alloc (by simpa using hbase) _
      have nz2 := Wb.Below.sets w.heap.size hbase ((l.drop i).flatMap cpyC) ((i + 1) * 2) _ (Wb.Below.sets w.heap.size hbase (cpyC x) (i * 2) _ nx1).drew
      rw [← hW1] at hrz
      replace hfinw := hid hfinw; replace nz2 := hid nz2; replace hW1 := hid hW1; replace hcpB := hid hcpB
      clear hcells hcells1 hdl htk hsz hkk hx h hfin hxc hxc1 hk0 hk0' hk0w hk1 hk1w hs0 hs1 nx1 hrow hZ
      go_enter Tryz.func165, Tryz.ntmps165
      go_wp2_with (at_builtin; refine wpList_appR rfl _ _ _ _ rfl (hrz _) rfl rfl ?_)
      go_region_law (refine step_copyR rfl _ _ 34 34 rfl (hcpB.out 3 (G - (i + 1)) (l.length - i)) (by simp [Act.eval, Act.put]) (by simp [Act.eval, Act.put]) ?_)
      all_goals go_wp2
      all_goals go_ret
      all_goals exact ⟨_, rfl, hfinw.out, nz2.out⟩
theorem slices_InsertI (l : List Int) (i : Nat) (x : Int) (v : Value) (vb base : Nat) (w : World) (h : Wb.Own intC base 3 1 w v l) (hbase : base ≤ w.heap.size) (hx : Blk w vb #[.int .i64 x] 3) (hvb : v.ownBlock ≠ some vb) (hi : i ≤ l.length) (hl : l.length ≤ 1000000) :
    Calls Tryz.prog 134 #[v, .int .i64 i, .slice (some ⟨vb, 0, none⟩) 1 1] w fun e w' => ∃ v', e = .returned v' ∧ Wb.Own intC base 3 1 w' v' (l.take i ++ x :: l.drop i) ∧ Below base w w' := by
  have hrx : RL intC w (.slice (some ⟨vb, 0, none⟩) 1 1) [x] := RL.ofBlk (e := 3) [x] (by simpa [intC] using hx) (by simp [maxLen])
  by_cases hn : i = l.length
  · subst hn
    have e1 : l.take l.length ++ x :: l.drop l.length = l ++ [x] := by simp
    rw [e1]
    obtain ⟨a, cap, rfl, hc1, hc2⟩ := h.reads.form
    have hg : a = none ∧ cap = 0 ∨ ∃ g, a = some ⟨g, 0, none⟩ := by
      rcases h.2 with ⟨h1, _⟩ | ⟨g, cap', cur, h1, _⟩
      · simp only [Value.slice.injEq] at h1
        exact .inl ⟨h1.1, h1.2.2⟩
      · simp only [Value.slice.injEq] at h1
        exact .inr ⟨g, h1.1⟩
    replace h := hid h; replace hrx := hid hrx
    clear hx hvb e1
    rcases hg with ⟨rfl, rfl⟩ | ⟨g, rfl⟩
    · go_enter Tryz.func134, Tryz.ntmps134
      go_wp2_with (at_builtin; refine wpList_app rfl _ _ 35 rfl base _ 1 8 intC_flat elemIntT h.out rfl [x] hrx.out rfl (by simp; omega) (by simp; unfold maxLen; omega) hbase ?_; intro v1 w1 hown1 hg1; obtain ⟨a1, cap1, rfl⟩ := hown1.form; have nx := h.out.belowGrown hbase hg1; simp only [len1] at hown1)
      go_ret
      exact ⟨_, rfl, hown1, nx⟩
    · by_cases hcc : cap = l.length
      · subst hcc
        go_enter Tryz.func134, Tryz.ntmps134
        go_wp2_with (at_builtin; refine wpList_app rfl _ _ 35 rfl base _ 1 8 intC_flat elemIntT h.out rfl [x] hrx.out rfl (by simp; omega) (by simp; unfold maxLen; omega) hbase ?_; intro v1 w1 hown1 hg1; obtain ⟨a1, cap1, rfl⟩ := hown1.form; have nx := h.out.belowGrown hbase hg1; simp only [len1] at hown1)
        go_ret
        exact ⟨_, rfl, hown1, nx⟩
      · go_enter Tryz.func134, Tryz.ntmps134
        go_wp2_with (at_builtin; refine wpList_app rfl _ _ 35 rfl base _ 1 8 intC_flat elemIntT h.out rfl [x] hrx.out rfl (by simp; omega) (by simp; unfold maxLen; omega) hbase ?_; intro v1 w1 hown1 hg1; obtain ⟨a1, cap1, rfl⟩ := hown1.form; have nx := h.out.belowGrown hbase hg1; simp only [len1] at hown1)
        go_ret
        exact ⟨_, rfl, hown1, nx⟩
  · have hlt : i < l.length := by omega
    obtain ⟨g, cap, cur, rfl, hbg, hkk, hcap, hmax, hsz, htk⟩ := h.row (by omega)
    have hne : vb ≠ g := fun h2 => hvb (by rw [h2]; rfl)
    have hn1 : ¬ ((i : Int) = (l.length : Int)) := by omega
    have hcells := row_from intC_flat.len hkk htk hi
    have hxc := fun j u (hj : (intC x)[j]? = some u) => (show w.cell? ⟨vb, 0 + j, none⟩ = some u by rw [hx.cell, Nat.zero_add, ← hj]; simp [intC])
    have hdl := flat_dropLen intC_flat.len l i
    have hfx := intC_flat.len x
    have hci : ¬ (cap = i) := by omega
    have hin : (i : Int) ≤ (l.length : Int) := by omega
    have hw1 : IntKind.i64.wrap ((i : Int) + 1) = (i : Int) + 1 := IntWalk.i64_in _ (by omega)
    have hw2 : IntKind.i64.wrap ((l.length : Int) + 1) = (l.length : Int) + 1 := IntWalk.i64_in _ (by omega)
    have ht1 : ((i : Int) + 1).toNat = i + 1 := by omega
    have hb1 : (0 : Int) ≤ (i : Int) + 1 := by omega
    have hb3 : (i : Int) ≤ (l.length : Int) + 1 := by omega
    have ht2 : ((l.length : Int) + 1).toNat = l.length + 1 := by omega
    by_cases hroom : l.length + 1 ≤ cap
    · have hci2 : ¬ (cap = i + 1) := by omega
      have hz : ∀ w, (Go.sizeOf 3).run Tryz.prog w = .ok 1 w := fun w => by
        obtain ⟨io, z, h1, h2, h3, _⟩ := elemIntT.info
        simp [Go.sizeOf, typeInfo, h1, h3]
      have hcz : cur.size ≠ 0 := by rw [hsz]; have := Nat.mul_le_mul_right 1 hroom; omega
      have hov : ∀ off lb cb, (callFunc 170 #[.slice (some ⟨vb, 0, none⟩) 1 1, .slice (some ⟨g, off, none⟩) lb cb]).run Tryz.prog w = .ok (.value (.bool false)) w := fun off lb cb => by
        rw [run_callFunc_extern Tryz.func170 (by kernel_rfl) (by kernel_rfl) (by kernel_rfl) (e := Extern.SlicesOverlaps.overlaps #[35, 35] #[4]) (by kernel_rfl),
          Lib.run_overlaps_apart w 35 4 3 elemIntT.under 1 hz ⟨vb, 0, none⟩ ⟨g, off, none⟩ 1 1 lb cb hne 3 3 _ _ (by show w.shape? vb = _; unfold World.shape?; rw [show w.heap[vb]? = _ from hx]) (by show w.shape? g = _; unfold World.shape?; rw [show w.heap[g]? = _ from hkk]) hcz (hx.free _) (hx.free _)]
        rfl
      obtain ⟨cur1, hs1, hk1, hfin⟩ := ins_shift (base := base) intC_flat hbg hmax hsz htk hi hroom x (w0 := w.drew) hkk
      have hcp1 : ∀ ty dc sc, (Builtin.copy_ #[35, 35] ty #[.slice (some ⟨g, (i + 1) * 1, none⟩) (l.length - i) dc, .slice (some ⟨g, i * 1, none⟩) (l.length + 1 - i) sc]).run Tryz.prog w.drew = .ok _ (w.drew.setCells g ((i + 1) * 1) ((l.drop i).flatMap intC)) := fun ty dc sc =>
        run_copy_blk elemIntT w.drew _ ty (cur := cur) hkk _ _ dc g _ _ sc _ (by rw [hdl]; congr 1; show l.length - i = min (l.length + 1 - i) (l.length - i); omega) hcells (by rw [hdl, hsz]; have h5 := mul_split (c := 1) (n := l.length + 1) (i := i + 1) (by omega); have h6 := Nat.mul_le_mul_right 1 hroom; rw [show l.length + 1 - (i + 1) = l.length - i by omega] at h5; omega) (flat_one intC_flat _)
      have hcp2 : ∀ ty dc (w1 : World), Blk w1 g cur1 3 → (∀ j u, (intC x)[j]? = some u → w1.cell? ⟨vb, 0 + j, none⟩ = some u) → (Builtin.copy_ #[35, 35] ty #[.slice (some ⟨g, i * 1, none⟩) (l.length + 1 - i) dc, .slice (some ⟨vb, 0, none⟩) 1 1]).run Tryz.prog w1 = .ok _ (w1.setCells g (i * 1) (intC x)) := fun ty dc w1 k1 hs2 =>
        run_copy_blk elemIntT w1 _ ty (cur := cur1) k1 _ _ dc vb 0 1 1 _ (by rw [hfx, show Nat.min 1 (l.length + 1 - i) = 1 from Nat.min_eq_left (by omega)]) hs2 (by rw [hfx, hs1]; have h5 := mul_split (c := 1) (n := cap) (i := i) (by omega); have h6 : 1 * 1 ≤ (cap - i) * 1 := Nat.mul_le_mul_right _ (by omega); omega) (fun u hu => intC_flat.one x u hu)
      have hk1 : Blk (w.drew.setCells g ((i + 1) * 1) ((l.drop i).flatMap intC)) g cur1 3 := hk1
      have hs2 := fun j u hj => (show (w.drew.setCells g ((i + 1) * 1) ((l.drop i).flatMap intC)).cell? ⟨vb, 0 + j, none⟩ = some u by rw [Blk.cell (Blk.sets_other hne _ _ _ hx.drew), ← hxc j u hj, hx.cell])
      have nz1 := Wb.Below.sets g hbg ((l.drop i).flatMap intC) ((i + 1) * 1) _ (Below.refl base w).drew
      have nz2 := Wb.Below.sets g hbg (intC x) (i * 1) _ nz1
      (try simp only [Nat.mul_one] at hfin); (try simp only [Nat.mul_one] at nz2); (try simp only [Nat.mul_one] at hs2); (try simp only [Nat.mul_one] at hk1); (try simp only [Nat.mul_one] at hcp1); (try simp only [Nat.mul_one] at hcp2)
      replace hfin := hid hfin; replace nz2 := hid nz2; replace hxc := hid hxc; replace hs2 := hid hs2; replace hk1 := hid hk1; replace hcp1 := hid hcp1; replace hcp2 := hid hcp2
      clear hcells hdl htk hsz hkk hcz hz hx h nz1
      have hcp2x := fun ty dc => hcp2.out ty dc _ hk1.out hs2.out
      go_enter Tryz.func134, Tryz.ntmps134
      go_wp2_with (simp only [hov])
      go_region_law (refine step_copyR rfl _ _ 35 35 rfl (hcp1.out 3 (cap - (i + 1)) (cap - i)) (by simp [Act.eval, Act.put]) (by simp [Act.eval, Act.put]) ?_)
      all_goals go_wp2
      all_goals go_ret
      all_goals exact ⟨_, rfl, hfin.out _ hk1.out, nz2.out⟩
    · obtain rfl : cap = l.length := by omega
      obtain ⟨Z, hZ, hrz⟩ : ∃ Z : List Value, Z.length = (grownCap w (l.length + 1) l.length 3 - i) * 1 ∧ ∀ ty, (Builtin.append_ #[35, 3] ty #[.slice (some ⟨g, 0, none⟩) i l.length, .int .i64 ((l.length : Int) + 1 - (i : Int))]).run Tryz.prog w = .ok (.slice (some ⟨w.heap.size, 0, none⟩) (l.length + 1) (grownCap w (l.length + 1) l.length 3)) (w.drew.alloc (.cells ((l.take i).flatMap intC ++ Z).toArray 3)) := by
        have e1 : i + (l.length + 1 - i) = l.length + 1 := by omega
        have e2 : ((l.length + 1 - i : Nat) : Int) = (l.length : Int) + 1 - (i : Int) := by omega
        obtain ⟨Z, hZ, hq⟩ := run_app_make (P := Tryz.prog) (tn := 3) (cap := l.length) intC_flat elemIntT (by kernel_rfl) w hkk htk hi (show 0 < l.length + 1 - i by omega) (by omega) (by rw [e1]; omega) (by rw [e1]; unfold maxLen; omega)
        rw [e1] at hZ hq
        rw [e2] at hq
        exact ⟨Z, hZ, hq⟩
      have hGn : l.length + 1 ≤ grownCap w (l.length + 1) l.length 3 := grownCap_ge w _ _ _
      have hGm : grownCap w (l.length + 1) l.length 3 ≤ maxLen := grownCap_le_maxLen w _ _ _ (by unfold maxLen; omega)
      obtain ⟨G, hG⟩ : ∃ G, G = grownCap w (l.length + 1) l.length 3 := ⟨_, rfl⟩
      rw [← hG] at hZ hrz hGn hGm
      clear hG
      obtain ⟨row, hrow⟩ : ∃ row : Array Value, row = ((l.take i).flatMap intC ++ Z).toArray := ⟨_, rfl⟩
      rw [← hrow] at hrz
      have hbw : g < w.heap.size := Blk.lt (cs := cur) hkk
      have hbv : vb < w.heap.size := hx.lt
      have hk0 : Blk (w.drew.alloc (.cells row 3)) w.heap.size row 3 := Blk.new w.drew row _
      have hk0' : Blk ((w.alloc (.cells row 3)).drew) w.heap.size row 3 := (Blk.new w row _).drew
      have hGi : ¬ (G = i) := by omega
      have hGi2 : ¬ (G = i + 1) := by omega
      have hgt : (l.length : Int) < (l.length : Int) + 1 := by omega
      have hin2 : i ≤ l.length + 1 := by omega
      obtain ⟨hs0, cur1, hs1, hk1, hfin⟩ := ins_grown (base := base) intC_flat Z hbase hGm hZ hrow hi hGn x (w0 := w.drew.alloc (.cells row 3)) hk0
      obtain ⟨W1, hW1⟩ : ∃ W1, W1 = w.drew.alloc (.cells row 3) := ⟨_, rfl⟩
      have hxc1 : ∀ j u, (intC x)[j]? = some u → W1.cell? ⟨vb, 0 + j, none⟩ = some u := fun j u hj => by rw [hW1, Blk.cell (hx.drew.alloc _), ← hxc j u hj, hx.cell]
      have hk0w : Blk W1 w.heap.size row 3 := by rw [hW1]; exact hk0
      have hcpA : ∀ ty dc, (Builtin.copy_ #[35, 35] ty #[.slice (some ⟨w.heap.size, i * 1, none⟩) (l.length + 1 - i) dc, .slice (some ⟨vb, 0, none⟩) 1 1]).run Tryz.prog W1 = .ok _ (W1.setCells w.heap.size (i * 1) (intC x)) := fun ty dc =>
        run_copy_blk elemIntT W1 _ ty (cur := row) hk0w _ _ dc vb 0 1 1 _ (by rw [hfx, show Nat.min 1 (l.length + 1 - i) = 1 from Nat.min_eq_left (by omega)]) hxc1 (by rw [hfx, hs0]; have h5 := mul_split (c := 1) (n := G) (i := i) (by omega); have h6 : 1 * 1 ≤ (G - i) * 1 := Nat.mul_le_mul_right _ (by omega); omega) (fun u hu => intC_flat.one x u hu)
      have hk1w : Blk (W1.setCells w.heap.size (i * 1) (intC x)).drew w.heap.size cur1 3 := by rw [hW1]; exact hk1
      have hcells1 : ∀ j u, ((l.drop i).flatMap intC)[j]? = some u → (W1.setCells w.heap.size (i * 1) (intC x)).drew.cell? ⟨g, i * 1 + j, none⟩ = some u := fun j u hj => by
        rw [show (W1.setCells w.heap.size (i * 1) (intC x)).drew.cell? ⟨g, i * 1 + j, none⟩ = (W1.setCells w.heap.size (i * 1) (intC x)).cell? ⟨g, i * 1 + j, none⟩ from rfl, hW1, Blk.cell (Blk.sets_other (by omega) _ _ _ ((show Blk w.drew g cur 3 from hkk).alloc _)), ← Blk.cell hkk]
        exact hcells j u hj
      have hcpB : ∀ ty dc sc, (Builtin.copy_ #[35, 35] ty #[.slice (some ⟨w.heap.size, (i + 1) * 1, none⟩) (l.length - i) dc, .slice (some ⟨g, i * 1, none⟩) (l.length - i) sc]).run Tryz.prog (W1.setCells w.heap.size (i * 1) (intC x)).drew = .ok _ ((W1.setCells w.heap.size (i * 1) (intC x)).drew.setCells w.heap.size ((i + 1) * 1) ((l.drop i).flatMap intC)) := fun ty dc sc =>
        run_copy_blk elemIntT (W1.setCells w.heap.size (i * 1) (intC x)).drew _ ty (cur := cur1) hk1w _ _ dc g _ _ sc _ (by rw [hdl]; congr 1; show l.length - i = min (l.length - i) (l.length - i); omega) hcells1 (by rw [hdl, hs1]; have h5 := mul_split (c := 1) (n := l.length + 1) (i := i + 1) (by omega); have h6 := Nat.mul_le_mul_right 1 hGn; rw [show l.length + 1 - (i + 1) = l.length - i by omega] at h5; omega) (flat_one intC_flat _)
      have hfinw := hfin _ (show Blk (W1.setCells w.heap.size (i * 1) (intC x)).drew w.heap.size cur1 3 from hk1w)
      have nx1 : Below base w W1 := by rw [hW1]; exact (Below.refl base w).drew.alloc (by simpa using hbase) _
      have nz2 := Wb.Below.sets w.heap.size hbase ((l.drop i).flatMap intC) ((i + 1) * 1) _ (Wb.Below.sets w.heap.size hbase (intC x) (i * 1) _ nx1).drew
      rw [← hW1] at hrz
      (try simp only [Nat.mul_one] at hfinw); (try simp only [Nat.mul_one] at nz2); (try simp only [Nat.mul_one] at hcpA); (try simp only [Nat.mul_one] at hcpB)
      replace hfinw := hid hfinw; replace nz2 := hid nz2; replace hW1 := hid hW1; replace hcpB := hid hcpB
      clear hcells hcells1 hdl htk hsz hkk hx h hfin hxc hxc1 hk0 hk0' hk0w hk1 hk1w hs0 hs1 nx1 hrow hZ
      go_enter Tryz.func134, Tryz.ntmps134
      go_wp2_with (at_builtin; refine wpList_appR rfl _ _ _ _ rfl (hrz _) rfl rfl ?_)
      go_region_law (refine step_copyR rfl _ _ 35 35 rfl (hcpB.out 3 (G - (i + 1)) (l.length - i)) (by simp [Act.eval, Act.put]) (by simp [Act.eval, Act.put]) ?_)
      all_goals go_wp2
      all_goals go_ret
      all_goals exact ⟨_, rfl, hfinw.out, nz2.out⟩
theorem txn_put (l : List Cpy) (b : Int) (s : ByteArray) (v : Value) (w : World) (hs : rise (blks l) = true) (h : RL cpyC w v l) (hl : l.length ≤ 1000000) :
    Calls Tryz.prog 131 #[v, .int .i64 b, .string s] w fun e w' => ∃ v', e = .returned v' ∧ Wb.Own cpyC w.heap.size 92 2 w' v' (putL l b s) ∧ Below w.heap.size w w' := by
  have hF := hid (txn_find l b v w hs h (by omega))
  have hC := hid (fun w' (hb : Below w.heap.size w w') => slices_CloneC l v w' (h.below hb) (by omega))
  have hha := has_at (b := b) hs
  obtain ⟨_, _, hp⟩ := pos_at b hs
  obtain ⟨a, cap, rfl, _⟩ := h.form
  unfold putL
  generalize posB l b = p at *
  cases hb : hasB l b with
  | true =>
    rw [hb] at hF
    obtain ⟨hk, hkb⟩ := hha.1 hb
    rw [if_pos rfl]
    have hy : cpyC ⟨b, s⟩ = (cpyC l[p]).set 1 (.string s) := by simp [cpyC, hkb]
    replace hy := hid hy
    clear hs h hha hb hp
    go_enter Tryz.func131, Tryz.ntmps131
    go_wp2_with (first
      | (go_at_call 114; go_loud ((with_reducible refine hF.out.mono ?_); rintro e w1 ⟨rfl, hb1⟩))
      | (go_at_call 43; go_loud ((with_reducible refine (hC.out _ hb1).mono ?_); rintro e w2 ⟨v2, rfl, ho2, hb2⟩; obtain ⟨g, cap2, rfl, hbg, hgw, hq, hnew⟩ := Own.poke cpyC_flat ho2 hk; have q0 := (hq 1 (by decide)).1; have q1 := (hq 1 (by decide)).2; have hn2 := hid (hnew 1 _ _ (by decide) hy.out); have nx := hb1.trans (hb2.mono hb1.size); have hgs := Nat.le_trans hb1.size hbg; simp only [cpyC, List.getElem?_cons_succ, List.getElem?_cons_zero] at q1; replace nx := hid nx; clear hq hnew ho2)))
    go_ret
    exact ⟨_, rfl, hn2.out.mono hb1.size, nx.out.setCell hgs _⟩
  | false =>
    rw [hb] at hF
    rw [if_neg (by decide)]
    clear hs h hha hb
    go_enter Tryz.func131, Tryz.ntmps131
    go_wp2_with (first
      | (go_at_call 114; go_loud ((with_reducible refine hF.out.mono ?_); rintro e w1 ⟨rfl, hb1⟩))
      | (go_at_call 43; go_loud ((with_reducible refine (hC.out _ hb1).mono ?_); rintro e w2 ⟨v2, rfl, ho2, hb2⟩; have hlt2 := World.ownsRow.lt ho2; have hbase := hb1.trans (hb2.mono hb1.size); have ho3 := hid (ho2.mono hb1.size); have hI := hid (slices_InsertC l p ⟨b, s⟩ v2 w2.heap.size w.heap.size (w2.alloc (.cells #[.int .i64 b, .string s] 92)) (ho3.out.alloc _) (by have := hbase.size; simp; omega) (Blk.new w2 _ _) (fun hh => by have := (hlt2 _ hh).2; omega) hp hl); obtain ⟨a2, cap2, rfl⟩ := ho2.form; replace hbase := hid hbase; clear hlt2 ho2))
      | (go_at_call 165; go_loud ((with_reducible refine hI.out.mono ?_); rintro e w3 ⟨v3, rfl, ho4, hb3⟩)))
    go_ret
    exact ⟨_, rfl, ho4, (hbase.out.alloc (by have := hbase.out.size; omega) _).trans hb3⟩
theorem txn_may (t : Txn) (h b : Int) (v : Value) (w : World) (ht : RTxn w v t) :
    Calls Tryz.prog 127 #[v, .int .i64 h, .int .i64 b] w fun e w' => e = .returned (.int .i64 (mayE t h b)) ∧ Below w.heap.size w w' := by
  have hG0 := fun w' (hh : Below w.heap.size w w') => txn_Good t _ w' (ht.below hh)
  obtain ⟨vm, vd, vr, rfl, hm, hd, hr, n1, n2, n3⟩ := ht
  obtain ⟨am, cm, rfl, _⟩ := hm.form
  obtain ⟨ad, cd, rfl, _⟩ := hd.form
  obtain ⟨ar, cr, rfl, _⟩ := hr.form
  have hH := fun w => txn_handle h w
  have hB := fun w => txn_block b w
  obtain ⟨seq, mt, dt, rev, ⟨o0, l0⟩, ⟨o1, l1⟩, ⟨o2, l2⟩⟩ := t
  unfold txnV at hG0 ⊢
  dsimp only at *
  have k0 : Blk (w.alloc (.cells #[.int .i64 seq, .slice am mt.length cm, .slice ad dt.length cd, .slice ar rev.length cr, .bool o0, .int .i64 l0, .bool o1, .int .i64 l1, .bool o2, .int .i64 l2] 40)) w.heap.size #[.int .i64 seq, .slice am mt.length cm, .slice ad dt.length cd, .slice ar rev.length cr, .bool o0, .int .i64 l0, .bool o1, .int .i64 l1, .bool o2, .int .i64 l2] 40 := Blk.new w _ _
  have nx := bal (b0 w) (.cells #[.int .i64 seq, .slice am mt.length cm, .slice ad dt.length cd, .slice ar rev.length cr, .bool o0, .int .i64 l0, .bool o1, .int .i64 l1, .bool o2, .int .i64 l2] 40)
  have e0 := k0.cell 0; have e1 := k0.cell 1; have e2 := k0.cell 2; have e3 := k0.cell 3; have e4 := k0.cell 4; have e5 := k0.cell 5; have e6 := k0.cell 6; have e7 := k0.cell 7; have e8 := k0.cell 8; have e9 := k0.cell 9; simp only [Zga, Zgb, Zgc] at e0 e1 e2 e3 e4 e5 e6 e7 e8 e9; have l0' := k0.lt
  clear hm hd hr
  cases hg : goodT ⟨seq, mt, dt, rev, ⟨o0, l0⟩, ⟨o1, l1⟩, ⟨o2, l2⟩⟩ with
  | false =>
    have hv := hid (may_bad (h := h) (b := b) hg)
    rw [hg] at hG0
    have hG := hid hG0
    clear hg hG0 hH hB
    go_enter Tryz.func127, Tryz.ntmps127
    go_wp2_with (go_at_call 30; go_loud ((with_reducible refine (hG.out _ nx).mono ?_); rintro e w1 ⟨rfl, hb1⟩; replace k0 := k0.step hb1; replace nx := bgo nx hb1; clear e0 e1 e2 e3 e4 e5 e6 e7 e8 e9 l0'; have e0 := k0.cell 0; have e1 := k0.cell 1; have e2 := k0.cell 2; have e3 := k0.cell 3; have e4 := k0.cell 4; have e5 := k0.cell 5; have e6 := k0.cell 6; have e7 := k0.cell 7; have e8 := k0.cell 8; have e9 := k0.cell 9; simp only [Zga, Zgb, Zgc] at e0 e1 e2 e3 e4 e5 e6 e7 e8 e9; have l0' := k0.lt))
    go_ret
    exact ⟨ret_i hv.out.symm, nx⟩
  | true =>
    rw [hg] at hG0
    have hG := hid hG0
    clear hG0
    by_cases hh : 0 ≤ h ∧ h ≤ 2
    rotate_left
    · have hv := hid (may_none (b := b) hg (.inl hh))
      have hhf : isHnd h = false := decide_eq_false (by omega)
      rw [hhf] at hH
      replace hH := hid hH
      clear hhf hg hB
      by_cases hneg : h < 0
      · clear hh
        go_enter Tryz.func127, Tryz.ntmps127
        go_wp2_with (go_at_call 30; go_loud ((with_reducible refine (hG.out _ nx).mono ?_); rintro e w1 ⟨rfl, hb1⟩; replace k0 := k0.step hb1; replace nx := bgo nx hb1; clear e0 e1 e2 e3 e4 e5 e6 e7 e8 e9 l0'; have e0 := k0.cell 0; have e1 := k0.cell 1; have e2 := k0.cell 2; have e3 := k0.cell 3; have e4 := k0.cell 4; have e5 := k0.cell 5; have e6 := k0.cell 6; have e7 := k0.cell 7; have e8 := k0.cell 8; have e9 := k0.cell 9; simp only [Zga, Zgb, Zgc] at e0 e1 e2 e3 e4 e5 e6 e7 e8 e9; have l0' := k0.lt))
        go_wp2_with (first | (go_at_call 126; go_loud ((with_reducible refine (hH.out _).mono ?_); rintro e w1 ⟨rfl, rfl⟩)) | (go_at_call 71; go_loud ((with_reducible refine (hB.out _).mono ?_); rintro e w1 ⟨rfl, rfl⟩)))
        go_ret
        exact ⟨ret_i hv.out.symm, nx⟩
      · have hgt : 2 < h := by omega
        clear hh
        go_enter Tryz.func127, Tryz.ntmps127
        go_wp2_with (go_at_call 30; go_loud ((with_reducible refine (hG.out _ nx).mono ?_); rintro e w1 ⟨rfl, hb1⟩; replace k0 := k0.step hb1; replace nx := bgo nx hb1; clear e0 e1 e2 e3 e4 e5 e6 e7 e8 e9 l0'; have e0 := k0.cell 0; have e1 := k0.cell 1; have e2 := k0.cell 2; have e3 := k0.cell 3; have e4 := k0.cell 4; have e5 := k0.cell 5; have e6 := k0.cell 6; have e7 := k0.cell 7; have e8 := k0.cell 8; have e9 := k0.cell 9; simp only [Zga, Zgb, Zgc] at e0 e1 e2 e3 e4 e5 e6 e7 e8 e9; have l0' := k0.lt))
        go_wp2_with (first | (go_at_call 126; go_loud ((with_reducible refine (hH.out _).mono ?_); rintro e w1 ⟨rfl, rfl⟩)) | (go_at_call 71; go_loud ((with_reducible refine (hB.out _).mono ?_); rintro e w1 ⟨rfl, rfl⟩)))
        go_ret
        exact ⟨ret_i hv.out.symm, nx⟩
    have hht : isHnd h = true := decide_eq_true (by omega)
    rw [hht] at hH
    replace hH := hid hH
    clear hht
    obtain (rfl | rfl | rfl) : h = 0 ∨ h = 1 ∨ h = 2 := by omega
    · cases o0 with
      | false =>
        have hv := hid (may_none (h := 0) (b := b) hg (.inr (.inl (by simp [getH]))))
        clear hg hh hB
        go_enter Tryz.func127, Tryz.ntmps127
        go_wp2_with (go_at_call 30; go_loud ((with_reducible refine (hG.out _ nx).mono ?_); rintro e w1 ⟨rfl, hb1⟩; replace k0 := k0.step hb1; replace nx := bgo nx hb1; clear e0 e1 e2 e3 e4 e5 e6 e7 e8 e9 l0'; have e0 := k0.cell 0; have e1 := k0.cell 1; have e2 := k0.cell 2; have e3 := k0.cell 3; have e4 := k0.cell 4; have e5 := k0.cell 5; have e6 := k0.cell 6; have e7 := k0.cell 7; have e8 := k0.cell 8; have e9 := k0.cell 9; simp only [Zga, Zgb, Zgc] at e0 e1 e2 e3 e4 e5 e6 e7 e8 e9; have l0' := k0.lt))
        go_wp2_with (first | (go_at_call 126; go_loud ((with_reducible refine (hH.out _).mono ?_); rintro e w1 ⟨rfl, rfl⟩)) | (go_at_call 71; go_loud ((with_reducible refine (hB.out _).mono ?_); rintro e w1 ⟨rfl, rfl⟩)))
        go_ret
        exact ⟨ret_i hv.out.symm, nx⟩
      | true =>
        cases hbb : isBlk b with
        | false =>
          have hv := hid (may_none (h := 0) (b := b) hg (.inr (.inr hbb)))
          rw [hbb] at hB
          replace hB := hid hB
          clear hg hh hbb
          go_enter Tryz.func127, Tryz.ntmps127
          go_wp2_with (go_at_call 30; go_loud ((with_reducible refine (hG.out _ nx).mono ?_); rintro e w1 ⟨rfl, hb1⟩; replace k0 := k0.step hb1; replace nx := bgo nx hb1; clear e0 e1 e2 e3 e4 e5 e6 e7 e8 e9 l0'; have e0 := k0.cell 0; have e1 := k0.cell 1; have e2 := k0.cell 2; have e3 := k0.cell 3; have e4 := k0.cell 4; have e5 := k0.cell 5; have e6 := k0.cell 6; have e7 := k0.cell 7; have e8 := k0.cell 8; have e9 := k0.cell 9; simp only [Zga, Zgb, Zgc] at e0 e1 e2 e3 e4 e5 e6 e7 e8 e9; have l0' := k0.lt))
          go_wp2_with (first | (go_at_call 126; go_loud ((with_reducible refine (hH.out _).mono ?_); rintro e w1 ⟨rfl, rfl⟩)) | (go_at_call 71; go_loud ((with_reducible refine (hB.out _).mono ?_); rintro e w1 ⟨rfl, rfl⟩)))
          go_ret
          exact ⟨ret_i hv.out.symm, nx⟩
        | true =>
          have hv := hid (may_ok (h := 0) (b := b) hg (by decide) (by simp [getH]) hbb)
          rw [hbb] at hB
          replace hB := hid hB
          clear hg hh hbb
          go_enter Tryz.func127, Tryz.ntmps127
          go_wp2_with (go_at_call 30; go_loud ((with_reducible refine (hG.out _ nx).mono ?_); rintro e w1 ⟨rfl, hb1⟩; replace k0 := k0.step hb1; replace nx := bgo nx hb1; clear e0 e1 e2 e3 e4 e5 e6 e7 e8 e9 l0'; have e0 := k0.cell 0; have e1 := k0.cell 1; have e2 := k0.cell 2; have e3 := k0.cell 3; have e4 := k0.cell 4; have e5 := k0.cell 5; have e6 := k0.cell 6; have e7 := k0.cell 7; have e8 := k0.cell 8; have e9 := k0.cell 9; simp only [Zga, Zgb, Zgc] at e0 e1 e2 e3 e4 e5 e6 e7 e8 e9; have l0' := k0.lt))
          go_wp2_with (first | (go_at_call 126; go_loud ((with_reducible refine (hH.out _).mono ?_); rintro e w1 ⟨rfl, rfl⟩)) | (go_at_call 71; go_loud ((with_reducible refine (hB.out _).mono ?_); rintro e w1 ⟨rfl, rfl⟩)))
          go_ret
          exact ⟨ret_i hv.out.symm, nx⟩
    · cases o1 with
      | false =>
        have hv := hid (may_none (h := 1) (b := b) hg (.inr (.inl (by simp [getH]))))
        clear hg hh hB
        go_enter Tryz.func127, Tryz.ntmps127
        go_wp2_with (go_at_call 30; go_loud ((with_reducible refine (hG.out _ nx).mono ?_); rintro e w1 ⟨rfl, hb1⟩; replace k0 := k0.step hb1; replace nx := bgo nx hb1; clear e0 e1 e2 e3 e4 e5 e6 e7 e8 e9 l0'; have e0 := k0.cell 0; have e1 := k0.cell 1; have e2 := k0.cell 2; have e3 := k0.cell 3; have e4 := k0.cell 4; have e5 := k0.cell 5; have e6 := k0.cell 6; have e7 := k0.cell 7; have e8 := k0.cell 8; have e9 := k0.cell 9; simp only [Zga, Zgb, Zgc] at e0 e1 e2 e3 e4 e5 e6 e7 e8 e9; have l0' := k0.lt))
        go_wp2_with (first | (go_at_call 126; go_loud ((with_reducible refine (hH.out _).mono ?_); rintro e w1 ⟨rfl, rfl⟩)) | (go_at_call 71; go_loud ((with_reducible refine (hB.out _).mono ?_); rintro e w1 ⟨rfl, rfl⟩)))
        go_ret
        exact ⟨ret_i hv.out.symm, nx⟩
      | true =>
        cases hbb : isBlk b with
        | false =>
          have hv := hid (may_none (h := 1) (b := b) hg (.inr (.inr hbb)))
          rw [hbb] at hB
          replace hB := hid hB
          clear hg hh hbb
          go_enter Tryz.func127, Tryz.ntmps127
          go_wp2_with (go_at_call 30; go_loud ((with_reducible refine (hG.out _ nx).mono ?_); rintro e w1 ⟨rfl, hb1⟩; replace k0 := k0.step hb1; replace nx := bgo nx hb1; clear e0 e1 e2 e3 e4 e5 e6 e7 e8 e9 l0'; have e0 := k0.cell 0; have e1 := k0.cell 1; have e2 := k0.cell 2; have e3 := k0.cell 3; have e4 := k0.cell 4; have e5 := k0.cell 5; have e6 := k0.cell 6; have e7 := k0.cell 7; have e8 := k0.cell 8; have e9 := k0.cell 9; simp only [Zga, Zgb, Zgc] at e0 e1 e2 e3 e4 e5 e6 e7 e8 e9; have l0' := k0.lt))
          go_wp2_with (first | (go_at_call 126; go_loud ((with_reducible refine (hH.out _).mono ?_); rintro e w1 ⟨rfl, rfl⟩)) | (go_at_call 71; go_loud ((with_reducible refine (hB.out _).mono ?_); rintro e w1 ⟨rfl, rfl⟩)))
          go_ret
          exact ⟨ret_i hv.out.symm, nx⟩
        | true =>
          have hv := hid (may_ok (h := 1) (b := b) hg (by decide) (by simp [getH]) hbb)
          rw [hbb] at hB
          replace hB := hid hB
          clear hg hh hbb
          go_enter Tryz.func127, Tryz.ntmps127
          go_wp2_with (go_at_call 30; go_loud ((with_reducible refine (hG.out _ nx).mono ?_); rintro e w1 ⟨rfl, hb1⟩; replace k0 := k0.step hb1; replace nx := bgo nx hb1; clear e0 e1 e2 e3 e4 e5 e6 e7 e8 e9 l0'; have e0 := k0.cell 0; have e1 := k0.cell 1; have e2 := k0.cell 2; have e3 := k0.cell 3; have e4 := k0.cell 4; have e5 := k0.cell 5; have e6 := k0.cell 6; have e7 := k0.cell 7; have e8 := k0.cell 8; have e9 := k0.cell 9; simp only [Zga, Zgb, Zgc] at e0 e1 e2 e3 e4 e5 e6 e7 e8 e9; have l0' := k0.lt))
          go_wp2_with (first | (go_at_call 126; go_loud ((with_reducible refine (hH.out _).mono ?_); rintro e w1 ⟨rfl, rfl⟩)) | (go_at_call 71; go_loud ((with_reducible refine (hB.out _).mono ?_); rintro e w1 ⟨rfl, rfl⟩)))
          go_ret
          exact ⟨ret_i hv.out.symm, nx⟩
    · cases o2 with
      | false =>
        have hv := hid (may_none (h := 2) (b := b) hg (.inr (.inl (by simp [getH]))))
        clear hg hh hB
        go_enter Tryz.func127, Tryz.ntmps127
        go_wp2_with (go_at_call 30; go_loud ((with_reducible refine (hG.out _ nx).mono ?_); rintro e w1 ⟨rfl, hb1⟩; replace k0 := k0.step hb1; replace nx := bgo nx hb1; clear e0 e1 e2 e3 e4 e5 e6 e7 e8 e9 l0'; have e0 := k0.cell 0; have e1 := k0.cell 1; have e2 := k0.cell 2; have e3 := k0.cell 3; have e4 := k0.cell 4; have e5 := k0.cell 5; have e6 := k0.cell 6; have e7 := k0.cell 7; have e8 := k0.cell 8; have e9 := k0.cell 9; simp only [Zga, Zgb, Zgc] at e0 e1 e2 e3 e4 e5 e6 e7 e8 e9; have l0' := k0.lt))
        go_wp2_with (first | (go_at_call 126; go_loud ((with_reducible refine (hH.out _).mono ?_); rintro e w1 ⟨rfl, rfl⟩)) | (go_at_call 71; go_loud ((with_reducible refine (hB.out _).mono ?_); rintro e w1 ⟨rfl, rfl⟩)))
        go_ret
        exact ⟨ret_i hv.out.symm, nx⟩
      | true =>
        cases hbb : isBlk b with
        | false =>
          have hv := hid (may_none (h := 2) (b := b) hg (.inr (.inr hbb)))
          rw [hbb] at hB
          replace hB := hid hB
          clear hg hh hbb
          go_enter Tryz.func127, Tryz.ntmps127
          go_wp2_with (go_at_call 30; go_loud ((with_reducible refine (hG.out _ nx).mono ?_); rintro e w1 ⟨rfl, hb1⟩; replace k0 := k0.step hb1; replace nx := bgo nx hb1; clear e0 e1 e2 e3 e4 e5 e6 e7 e8 e9 l0'; have e0 := k0.cell 0; have e1 := k0.cell 1; have e2 := k0.cell 2; have e3 := k0.cell 3; have e4 := k0.cell 4; have e5 := k0.cell 5; have e6 := k0.cell 6; have e7 := k0.cell 7; have e8 := k0.cell 8; have e9 := k0.cell 9; simp only [Zga, Zgb, Zgc] at e0 e1 e2 e3 e4 e5 e6 e7 e8 e9; have l0' := k0.lt))
          go_wp2_with (first | (go_at_call 126; go_loud ((with_reducible refine (hH.out _).mono ?_); rintro e w1 ⟨rfl, rfl⟩)) | (go_at_call 71; go_loud ((with_reducible refine (hB.out _).mono ?_); rintro e w1 ⟨rfl, rfl⟩)))
          go_ret
          exact ⟨ret_i hv.out.symm, nx⟩
        | true =>
          have hv := hid (may_ok (h := 2) (b := b) hg (by decide) (by simp [getH]) hbb)
          rw [hbb] at hB
          replace hB := hid hB
          clear hg hh hbb
          go_enter Tryz.func127, Tryz.ntmps127
          go_wp2_with (go_at_call 30; go_loud ((with_reducible refine (hG.out _ nx).mono ?_); rintro e w1 ⟨rfl, hb1⟩; replace k0 := k0.step hb1; replace nx := bgo nx hb1; clear e0 e1 e2 e3 e4 e5 e6 e7 e8 e9 l0'; have e0 := k0.cell 0; have e1 := k0.cell 1; have e2 := k0.cell 2; have e3 := k0.cell 3; have e4 := k0.cell 4; have e5 := k0.cell 5; have e6 := k0.cell 6; have e7 := k0.cell 7; have e8 := k0.cell 8; have e9 := k0.cell 9; simp only [Zga, Zgb, Zgc] at e0 e1 e2 e3 e4 e5 e6 e7 e8 e9; have l0' := k0.lt))
          go_wp2_with (first | (go_at_call 126; go_loud ((with_reducible refine (hH.out _).mono ?_); rintro e w1 ⟨rfl, rfl⟩)) | (go_at_call 71; go_loud ((with_reducible refine (hB.out _).mono ?_); rintro e w1 ⟨rfl, rfl⟩)))
          go_ret
          exact ⟨ret_i hv.out.symm, nx⟩
theorem txn_pay_free0 (seq : Int) (mt dt : List Cpy) (rev : List Int) (o0 o1 o2 : Bool) (l0 l1 l2 : Int) (am ad ar : Option Addr) (cm cd cr : Nat) (b : Int) (g : Nat) (w : World) (k0 : Blk w g #[.int .i64 seq, .slice am mt.length cm, .slice ad dt.length cd, .slice ar rev.length cr, .bool o0, .int .i64 l0, .bool o1, .int .i64 l1, .bool o2, .int .i64 l2] 40) (hs : rise (blks mt) = true) (hm : RL cpyC w (.slice am mt.length cm) mt) (hr : RL intC w (.slice ar rev.length cr) rev) (n1 : mt.length ≤ 5864062014805) (n3 : rev.length ≤ 17592186044160) (hf : (hasB mt b || inI rev b) = true) :
    Calls Tryz.prog 128 #[.pointer (some ⟨g, 0, none⟩), .int .i64 0, .int .i64 b] w fun e w' => e = .returned (.int .i64 0) ∧ Below w.heap.size w w' := by
  have hM := txn_has mt b _ w hs hm n1
  have hC := hid (fun w' (hh : RL intC w' (.slice ar rev.length cr) rev) => slices_ContainsI rev b _ w' hh n3)
  replace hr := hid hr
  have e0 := k0.cell 0; have e1 := k0.cell 1; have e2 := k0.cell 2; have e3 := k0.cell 3; have e4 := k0.cell 4; have e5 := k0.cell 5; have e6 := k0.cell 6; have e7 := k0.cell 7; have e8 := k0.cell 8; have e9 := k0.cell 9; simp only [Zga, Zgb, Zgc] at e0 e1 e2 e3 e4 e5 e6 e7 e8 e9; have l0' := k0.lt; have f5 := k0.free 5; have f7 := k0.free 7; have f9 := k0.free 9
  clear hm hs
  cases hb : hasB mt b with
  | true =>
    rw [hb] at hM
    replace hM := hid hM
    clear hb hf
    go_enter Tryz.func128, Tryz.ntmps128
    go_wp2_with (go_at_call 72; go_loud ((with_reducible refine hM.out.mono ?_); rintro e w1 ⟨rfl, hb1⟩; replace k0 := k0.step hb1; have nx := hb1; have hr1 := hid (hr.out.below hb1); replace hC := hid (hC.out _ hr1.out); clear e0 e1 e2 e3 e4 e5 e6 e7 e8 e9 l0' f5 f7 f9; have e0 := k0.cell 0; have e1 := k0.cell 1; have e2 := k0.cell 2; have e3 := k0.cell 3; have e4 := k0.cell 4; have e5 := k0.cell 5; have e6 := k0.cell 6; have e7 := k0.cell 7; have e8 := k0.cell 8; have e9 := k0.cell 9; simp only [Zga, Zgb, Zgc] at e0 e1 e2 e3 e4 e5 e6 e7 e8 e9; have l0' := k0.lt; have f5 := k0.free 5; have f7 := k0.free 7; have f9 := k0.free 9))
    go_ret
    exact ⟨rfl, nx⟩
  | false =>
    rw [hb] at hM hf
    rw [Bool.false_or] at hf
    rw [hf] at hC
    replace hM := hid hM
    clear hb hf
    go_enter Tryz.func128, Tryz.ntmps128
    go_wp2_with (first | (go_at_call 72; go_loud ((with_reducible refine hM.out.mono ?_); rintro e w1 ⟨rfl, hb1⟩; replace k0 := k0.step hb1; have nx := hb1; have hr1 := hid (hr.out.below hb1); replace hC := hid (hC.out _ hr1.out); clear e0 e1 e2 e3 e4 e5 e6 e7 e8 e9 l0' f5 f7 f9; have e0 := k0.cell 0; have e1 := k0.cell 1; have e2 := k0.cell 2; have e3 := k0.cell 3; have e4 := k0.cell 4; have e5 := k0.cell 5; have e6 := k0.cell 6; have e7 := k0.cell 7; have e8 := k0.cell 8; have e9 := k0.cell 9; simp only [Zga, Zgb, Zgc] at e0 e1 e2 e3 e4 e5 e6 e7 e8 e9; have l0' := k0.lt; have f5 := k0.free 5; have f7 := k0.free 7; have f9 := k0.free 9)) | (go_at_call 125; go_loud ((with_reducible refine hC.out.mono ?_); rintro e w2 ⟨rfl, rfl⟩)))
    go_ret
    exact ⟨rfl, nx⟩
theorem txn_pay_none0 (seq : Int) (mt dt : List Cpy) (rev : List Int) (o0 o1 o2 : Bool) (l0 l1 l2 : Int) (am ad ar : Option Addr) (cm cd cr : Nat) (b : Int) (g : Nat) (w : World) (k0 : Blk w g #[.int .i64 seq, .slice am mt.length cm, .slice ad dt.length cd, .slice ar rev.length cr, .bool o0, .int .i64 l0, .bool o1, .int .i64 l1, .bool o2, .int .i64 l2] 40) (hs : rise (blks mt) = true) (hm : RL cpyC w (.slice am mt.length cm) mt) (hr : RL intC w (.slice ar rev.length cr) rev) (n1 : mt.length ≤ 5864062014805) (n3 : rev.length ≤ 17592186044160) (hf : (hasB mt b || inI rev b) = false) (h0 : l0 = 0) :
    Calls Tryz.prog 128 #[.pointer (some ⟨g, 0, none⟩), .int .i64 0, .int .i64 b] w fun e w' => e = .returned (.int .i64 7) ∧ Below w.heap.size w w' := by
  have hM := txn_has mt b _ w hs hm n1
  have hC := hid (fun w' (hh : RL intC w' (.slice ar rev.length cr) rev) => slices_ContainsI rev b _ w' hh n3)
  replace hr := hid hr
  have e0 := k0.cell 0; have e1 := k0.cell 1; have e2 := k0.cell 2; have e3 := k0.cell 3; have e4 := k0.cell 4; have e5 := k0.cell 5; have e6 := k0.cell 6; have e7 := k0.cell 7; have e8 := k0.cell 8; have e9 := k0.cell 9; simp only [Zga, Zgb, Zgc] at e0 e1 e2 e3 e4 e5 e6 e7 e8 e9; have l0' := k0.lt; have f5 := k0.free 5; have f7 := k0.free 7; have f9 := k0.free 9
  clear hm hs
  obtain ⟨hb, hf⟩ := Bool.or_eq_false_iff.1 hf
  rw [hb] at hM
  rw [hf] at hC
  replace hM := hid hM
  subst h0
  clear hb hf
  go_enter Tryz.func128, Tryz.ntmps128
  go_wp2_with (first | (go_at_call 72; go_loud ((with_reducible refine hM.out.mono ?_); rintro e w1 ⟨rfl, hb1⟩; replace k0 := k0.step hb1; have nx := hb1; have hr1 := hid (hr.out.below hb1); replace hC := hid (hC.out _ hr1.out); clear e0 e1 e2 e3 e4 e5 e6 e7 e8 e9 l0' f5 f7 f9; have e0 := k0.cell 0; have e1 := k0.cell 1; have e2 := k0.cell 2; have e3 := k0.cell 3; have e4 := k0.cell 4; have e5 := k0.cell 5; have e6 := k0.cell 6; have e7 := k0.cell 7; have e8 := k0.cell 8; have e9 := k0.cell 9; simp only [Zga, Zgb, Zgc] at e0 e1 e2 e3 e4 e5 e6 e7 e8 e9; have l0' := k0.lt; have f5 := k0.free 5; have f7 := k0.free 7; have f9 := k0.free 9)) | (go_at_call 125; go_loud ((with_reducible refine hC.out.mono ?_); rintro e w2 ⟨rfl, rfl⟩)))
  go_ret
  exact ⟨rfl, nx⟩
theorem txn_pay_one0 (seq : Int) (mt dt : List Cpy) (rev : List Int) (o0 o1 o2 : Bool) (l0 l1 l2 : Int) (am ad ar : Option Addr) (cm cd cr : Nat) (b : Int) (g : Nat) (w : World) (k0 : Blk w g #[.int .i64 seq, .slice am mt.length cm, .slice ad dt.length cd, .slice ar rev.length cr, .bool o0, .int .i64 l0, .bool o1, .int .i64 l1, .bool o2, .int .i64 l2] 40) (hs : rise (blks mt) = true) (hm : RL cpyC w (.slice am mt.length cm) mt) (hr : RL intC w (.slice ar rev.length cr) rev) (n1 : mt.length ≤ 5864062014805) (n3 : rev.length ≤ 17592186044160) (hf : (hasB mt b || inI rev b) = false) (h0 : 0 < l0) (h1 : l0 ≤ 24) :
    Calls Tryz.prog 128 #[.pointer (some ⟨g, 0, none⟩), .int .i64 0, .int .i64 b] w fun e w' => e = .returned (.int .i64 0) ∧ ∃ w1, Below w.heap.size w w1 ∧ w' = w1.setCell ⟨g, 5, none⟩ (.int .i64 (l0 - 1)) := by
  have hM := txn_has mt b _ w hs hm n1
  have hC := hid (fun w' (hh : RL intC w' (.slice ar rev.length cr) rev) => slices_ContainsI rev b _ w' hh n3)
  replace hr := hid hr
  have e0 := k0.cell 0; have e1 := k0.cell 1; have e2 := k0.cell 2; have e3 := k0.cell 3; have e4 := k0.cell 4; have e5 := k0.cell 5; have e6 := k0.cell 6; have e7 := k0.cell 7; have e8 := k0.cell 8; have e9 := k0.cell 9; simp only [Zga, Zgb, Zgc] at e0 e1 e2 e3 e4 e5 e6 e7 e8 e9; have l0' := k0.lt; have f5 := k0.free 5; have f7 := k0.free 7; have f9 := k0.free 9
  clear hm hs
  obtain ⟨hb, hf⟩ := Bool.or_eq_false_iff.1 hf
  have hnz : ¬ l0 = 0 := by omega
  have hwr : IntKind.i64.wrap (l0 - 1) = l0 - 1 := IntWalk.i64_in _ (by omega)
  rw [hb] at hM
  rw [hf] at hC
  replace hM := hid hM
  clear hb hf
  go_enter Tryz.func128, Tryz.ntmps128
  go_wp2_with (first | (go_at_call 72; go_loud ((with_reducible refine hM.out.mono ?_); rintro e w1 ⟨rfl, hb1⟩; replace k0 := k0.step hb1; have nx := hb1; have hr1 := hid (hr.out.below hb1); replace hC := hid (hC.out _ hr1.out); clear e0 e1 e2 e3 e4 e5 e6 e7 e8 e9 l0' f5 f7 f9; have e0 := k0.cell 0; have e1 := k0.cell 1; have e2 := k0.cell 2; have e3 := k0.cell 3; have e4 := k0.cell 4; have e5 := k0.cell 5; have e6 := k0.cell 6; have e7 := k0.cell 7; have e8 := k0.cell 8; have e9 := k0.cell 9; simp only [Zga, Zgb, Zgc] at e0 e1 e2 e3 e4 e5 e6 e7 e8 e9; have l0' := k0.lt; have f5 := k0.free 5; have f7 := k0.free 7; have f9 := k0.free 9)) | (go_at_call 125; go_loud ((with_reducible refine hC.out.mono ?_); rintro e w2 ⟨rfl, rfl⟩)))
  go_region_law (fail "no call")
  all_goals go_wp2
  all_goals go_ret
  all_goals exact ⟨rfl, _, nx.drew, rfl⟩
theorem txn_pay_free1 (seq : Int) (mt dt : List Cpy) (rev : List Int) (o0 o1 o2 : Bool) (l0 l1 l2 : Int) (am ad ar : Option Addr) (cm cd cr : Nat) (b : Int) (g : Nat) (w : World) (k0 : Blk w g #[.int .i64 seq, .slice am mt.length cm, .slice ad dt.length cd, .slice ar rev.length cr, .bool o0, .int .i64 l0, .bool o1, .int .i64 l1, .bool o2, .int .i64 l2] 40) (hs : rise (blks mt) = true) (hm : RL cpyC w (.slice am mt.length cm) mt) (hr : RL intC w (.slice ar rev.length cr) rev) (n1 : mt.length ≤ 5864062014805) (n3 : rev.length ≤ 17592186044160) (hf : (hasB mt b || inI rev b) = true) :
    Calls Tryz.prog 128 #[.pointer (some ⟨g, 0, none⟩), .int .i64 1, .int .i64 b] w fun e w' => e = .returned (.int .i64 0) ∧ Below w.heap.size w w' := by
  have hM := txn_has mt b _ w hs hm n1
  have hC := hid (fun w' (hh : RL intC w' (.slice ar rev.length cr) rev) => slices_ContainsI rev b _ w' hh n3)
  replace hr := hid hr
  have e0 := k0.cell 0; have e1 := k0.cell 1; have e2 := k0.cell 2; have e3 := k0.cell 3; have e4 := k0.cell 4; have e5 := k0.cell 5; have e6 := k0.cell 6; have e7 := k0.cell 7; have e8 := k0.cell 8; have e9 := k0.cell 9; simp only [Zga, Zgb, Zgc] at e0 e1 e2 e3 e4 e5 e6 e7 e8 e9; have l0' := k0.lt; have f5 := k0.free 5; have f7 := k0.free 7; have f9 := k0.free 9
  clear hm hs
  cases hb : hasB mt b with
  | true =>
    rw [hb] at hM
    replace hM := hid hM
    clear hb hf
    go_enter Tryz.func128, Tryz.ntmps128
    go_wp2_with (go_at_call 72; go_loud ((with_reducible refine hM.out.mono ?_); rintro e w1 ⟨rfl, hb1⟩; replace k0 := k0.step hb1; have nx := hb1; have hr1 := hid (hr.out.below hb1); replace hC := hid (hC.out _ hr1.out); clear e0 e1 e2 e3 e4 e5 e6 e7 e8 e9 l0' f5 f7 f9; have e0 := k0.cell 0; have e1 := k0.cell 1; have e2 := k0.cell 2; have e3 := k0.cell 3; have e4 := k0.cell 4; have e5 := k0.cell 5; have e6 := k0.cell 6; have e7 := k0.cell 7; have e8 := k0.cell 8; have e9 := k0.cell 9; simp only [Zga, Zgb, Zgc] at e0 e1 e2 e3 e4 e5 e6 e7 e8 e9; have l0' := k0.lt; have f5 := k0.free 5; have f7 := k0.free 7; have f9 := k0.free 9))
    go_ret
    exact ⟨rfl, nx⟩
  | false =>
    rw [hb] at hM hf
    rw [Bool.false_or] at hf
    rw [hf] at hC
    replace hM := hid hM
    clear hb hf
    go_enter Tryz.func128, Tryz.ntmps128
    go_wp2_with (first | (go_at_call 72; go_loud ((with_reducible refine hM.out.mono ?_); rintro e w1 ⟨rfl, hb1⟩; replace k0 := k0.step hb1; have nx := hb1; have hr1 := hid (hr.out.below hb1); replace hC := hid (hC.out _ hr1.out); clear e0 e1 e2 e3 e4 e5 e6 e7 e8 e9 l0' f5 f7 f9; have e0 := k0.cell 0; have e1 := k0.cell 1; have e2 := k0.cell 2; have e3 := k0.cell 3; have e4 := k0.cell 4; have e5 := k0.cell 5; have e6 := k0.cell 6; have e7 := k0.cell 7; have e8 := k0.cell 8; have e9 := k0.cell 9; simp only [Zga, Zgb, Zgc] at e0 e1 e2 e3 e4 e5 e6 e7 e8 e9; have l0' := k0.lt; have f5 := k0.free 5; have f7 := k0.free 7; have f9 := k0.free 9)) | (go_at_call 125; go_loud ((with_reducible refine hC.out.mono ?_); rintro e w2 ⟨rfl, rfl⟩)))
    go_ret
    exact ⟨rfl, nx⟩
theorem txn_pay_none1 (seq : Int) (mt dt : List Cpy) (rev : List Int) (o0 o1 o2 : Bool) (l0 l1 l2 : Int) (am ad ar : Option Addr) (cm cd cr : Nat) (b : Int) (g : Nat) (w : World) (k0 : Blk w g #[.int .i64 seq, .slice am mt.length cm, .slice ad dt.length cd, .slice ar rev.length cr, .bool o0, .int .i64 l0, .bool o1, .int .i64 l1, .bool o2, .int .i64 l2] 40) (hs : rise (blks mt) = true) (hm : RL cpyC w (.slice am mt.length cm) mt) (hr : RL intC w (.slice ar rev.length cr) rev) (n1 : mt.length ≤ 5864062014805) (n3 : rev.length ≤ 17592186044160) (hf : (hasB mt b || inI rev b) = false) (h0 : l1 = 0) :
    Calls Tryz.prog 128 #[.pointer (some ⟨g, 0, none⟩), .int .i64 1, .int .i64 b] w fun e w' => e = .returned (.int .i64 7) ∧ Below w.heap.size w w' := by
  have hM := txn_has mt b _ w hs hm n1
  have hC := hid (fun w' (hh : RL intC w' (.slice ar rev.length cr) rev) => slices_ContainsI rev b _ w' hh n3)
  replace hr := hid hr
  have e0 := k0.cell 0; have e1 := k0.cell 1; have e2 := k0.cell 2; have e3 := k0.cell 3; have e4 := k0.cell 4; have e5 := k0.cell 5; have e6 := k0.cell 6; have e7 := k0.cell 7; have e8 := k0.cell 8; have e9 := k0.cell 9; simp only [Zga, Zgb, Zgc] at e0 e1 e2 e3 e4 e5 e6 e7 e8 e9; have l0' := k0.lt; have f5 := k0.free 5; have f7 := k0.free 7; have f9 := k0.free 9
  clear hm hs
  obtain ⟨hb, hf⟩ := Bool.or_eq_false_iff.1 hf
  rw [hb] at hM
  rw [hf] at hC
  replace hM := hid hM
  subst h0
  clear hb hf
  go_enter Tryz.func128, Tryz.ntmps128
  go_wp2_with (first | (go_at_call 72; go_loud ((with_reducible refine hM.out.mono ?_); rintro e w1 ⟨rfl, hb1⟩; replace k0 := k0.step hb1; have nx := hb1; have hr1 := hid (hr.out.below hb1); replace hC := hid (hC.out _ hr1.out); clear e0 e1 e2 e3 e4 e5 e6 e7 e8 e9 l0' f5 f7 f9; have e0 := k0.cell 0; have e1 := k0.cell 1; have e2 := k0.cell 2; have e3 := k0.cell 3; have e4 := k0.cell 4; have e5 := k0.cell 5; have e6 := k0.cell 6; have e7 := k0.cell 7; have e8 := k0.cell 8; have e9 := k0.cell 9; simp only [Zga, Zgb, Zgc] at e0 e1 e2 e3 e4 e5 e6 e7 e8 e9; have l0' := k0.lt; have f5 := k0.free 5; have f7 := k0.free 7; have f9 := k0.free 9)) | (go_at_call 125; go_loud ((with_reducible refine hC.out.mono ?_); rintro e w2 ⟨rfl, rfl⟩)))
  go_ret
  exact ⟨rfl, nx⟩
theorem txn_pay_one1 (seq : Int) (mt dt : List Cpy) (rev : List Int) (o0 o1 o2 : Bool) (l0 l1 l2 : Int) (am ad ar : Option Addr) (cm cd cr : Nat) (b : Int) (g : Nat) (w : World) (k0 : Blk w g #[.int .i64 seq, .slice am mt.length cm, .slice ad dt.length cd, .slice ar rev.length cr, .bool o0, .int .i64 l0, .bool o1, .int .i64 l1, .bool o2, .int .i64 l2] 40) (hs : rise (blks mt) = true) (hm : RL cpyC w (.slice am mt.length cm) mt) (hr : RL intC w (.slice ar rev.length cr) rev) (n1 : mt.length ≤ 5864062014805) (n3 : rev.length ≤ 17592186044160) (hf : (hasB mt b || inI rev b) = false) (h0 : 0 < l1) (h1 : l1 ≤ 24) :
    Calls Tryz.prog 128 #[.pointer (some ⟨g, 0, none⟩), .int .i64 1, .int .i64 b] w fun e w' => e = .returned (.int .i64 0) ∧ ∃ w1, Below w.heap.size w w1 ∧ w' = w1.setCell ⟨g, 7, none⟩ (.int .i64 (l1 - 1)) := by
  have hM := txn_has mt b _ w hs hm n1
  have hC := hid (fun w' (hh : RL intC w' (.slice ar rev.length cr) rev) => slices_ContainsI rev b _ w' hh n3)
  replace hr := hid hr
  have e0 := k0.cell 0; have e1 := k0.cell 1; have e2 := k0.cell 2; have e3 := k0.cell 3; have e4 := k0.cell 4; have e5 := k0.cell 5; have e6 := k0.cell 6; have e7 := k0.cell 7; have e8 := k0.cell 8; have e9 := k0.cell 9; simp only [Zga, Zgb, Zgc] at e0 e1 e2 e3 e4 e5 e6 e7 e8 e9; have l0' := k0.lt; have f5 := k0.free 5; have f7 := k0.free 7; have f9 := k0.free 9
  clear hm hs
  obtain ⟨hb, hf⟩ := Bool.or_eq_false_iff.1 hf
  have hnz : ¬ l1 = 0 := by omega
  have hwr : IntKind.i64.wrap (l1 - 1) = l1 - 1 := IntWalk.i64_in _ (by omega)
  rw [hb] at hM
  rw [hf] at hC
  replace hM := hid hM
  clear hb hf
  go_enter Tryz.func128, Tryz.ntmps128
  go_wp2_with (first | (go_at_call 72; go_loud ((with_reducible refine hM.out.mono ?_); rintro e w1 ⟨rfl, hb1⟩; replace k0 := k0.step hb1; have nx := hb1; have hr1 := hid (hr.out.below hb1); replace hC := hid (hC.out _ hr1.out); clear e0 e1 e2 e3 e4 e5 e6 e7 e8 e9 l0' f5 f7 f9; have e0 := k0.cell 0; have e1 := k0.cell 1; have e2 := k0.cell 2; have e3 := k0.cell 3; have e4 := k0.cell 4; have e5 := k0.cell 5; have e6 := k0.cell 6; have e7 := k0.cell 7; have e8 := k0.cell 8; have e9 := k0.cell 9; simp only [Zga, Zgb, Zgc] at e0 e1 e2 e3 e4 e5 e6 e7 e8 e9; have l0' := k0.lt; have f5 := k0.free 5; have f7 := k0.free 7; have f9 := k0.free 9)) | (go_at_call 125; go_loud ((with_reducible refine hC.out.mono ?_); rintro e w2 ⟨rfl, rfl⟩)))
  go_region_law (fail "no call")
  all_goals go_wp2
  all_goals go_ret
  all_goals exact ⟨rfl, _, nx.drew, rfl⟩
theorem txn_pay_free2 (seq : Int) (mt dt : List Cpy) (rev : List Int) (o0 o1 o2 : Bool) (l0 l1 l2 : Int) (am ad ar : Option Addr) (cm cd cr : Nat) (b : Int) (g : Nat) (w : World) (k0 : Blk w g #[.int .i64 seq, .slice am mt.length cm, .slice ad dt.length cd, .slice ar rev.length cr, .bool o0, .int .i64 l0, .bool o1, .int .i64 l1, .bool o2, .int .i64 l2] 40) (hs : rise (blks mt) = true) (hm : RL cpyC w (.slice am mt.length cm) mt) (hr : RL intC w (.slice ar rev.length cr) rev) (n1 : mt.length ≤ 5864062014805) (n3 : rev.length ≤ 17592186044160) (hf : (hasB mt b || inI rev b) = true) :
    Calls Tryz.prog 128 #[.pointer (some ⟨g, 0, none⟩), .int .i64 2, .int .i64 b] w fun e w' => e = .returned (.int .i64 0) ∧ Below w.heap.size w w' := by
  have hM := txn_has mt b _ w hs hm n1
  have hC := hid (fun w' (hh : RL intC w' (.slice ar rev.length cr) rev) => slices_ContainsI rev b _ w' hh n3)
  replace hr := hid hr
  have e0 := k0.cell 0; have e1 := k0.cell 1; have e2 := k0.cell 2; have e3 := k0.cell 3; have e4 := k0.cell 4; have e5 := k0.cell 5; have e6 := k0.cell 6; have e7 := k0.cell 7; have e8 := k0.cell 8; have e9 := k0.cell 9; simp only [Zga, Zgb, Zgc] at e0 e1 e2 e3 e4 e5 e6 e7 e8 e9; have l0' := k0.lt; have f5 := k0.free 5; have f7 := k0.free 7; have f9 := k0.free 9
  clear hm hs
  cases hb : hasB mt b with
  | true =>
    rw [hb] at hM
    replace hM := hid hM
    clear hb hf
    go_enter Tryz.func128, Tryz.ntmps128
    go_wp2_with (go_at_call 72; go_loud ((with_reducible refine hM.out.mono ?_); rintro e w1 ⟨rfl, hb1⟩; replace k0 := k0.step hb1; have nx := hb1; have hr1 := hid (hr.out.below hb1); replace hC := hid (hC.out _ hr1.out); clear e0 e1 e2 e3 e4 e5 e6 e7 e8 e9 l0' f5 f7 f9; have e0 := k0.cell 0; have e1 := k0.cell 1; have e2 := k0.cell 2; have e3 := k0.cell 3; have e4 := k0.cell 4; have e5 := k0.cell 5; have e6 := k0.cell 6; have e7 := k0.cell 7; have e8 := k0.cell 8; have e9 := k0.cell 9; simp only [Zga, Zgb, Zgc] at e0 e1 e2 e3 e4 e5 e6 e7 e8 e9; have l0' := k0.lt; have f5 := k0.free 5; have f7 := k0.free 7; have f9 := k0.free 9))
    go_ret
    exact ⟨rfl, nx⟩
  | false =>
    rw [hb] at hM hf
    rw [Bool.false_or] at hf
    rw [hf] at hC
    replace hM := hid hM
    clear hb hf
    go_enter Tryz.func128, Tryz.ntmps128
    go_wp2_with (first | (go_at_call 72; go_loud ((with_reducible refine hM.out.mono ?_); rintro e w1 ⟨rfl, hb1⟩; replace k0 := k0.step hb1; have nx := hb1; have hr1 := hid (hr.out.below hb1); replace hC := hid (hC.out _ hr1.out); clear e0 e1 e2 e3 e4 e5 e6 e7 e8 e9 l0' f5 f7 f9; have e0 := k0.cell 0; have e1 := k0.cell 1; have e2 := k0.cell 2; have e3 := k0.cell 3; have e4 := k0.cell 4; have e5 := k0.cell 5; have e6 := k0.cell 6; have e7 := k0.cell 7; have e8 := k0.cell 8; have e9 := k0.cell 9; simp only [Zga, Zgb, Zgc] at e0 e1 e2 e3 e4 e5 e6 e7 e8 e9; have l0' := k0.lt; have f5 := k0.free 5; have f7 := k0.free 7; have f9 := k0.free 9)) | (go_at_call 125; go_loud ((with_reducible refine hC.out.mono ?_); rintro e w2 ⟨rfl, rfl⟩)))
    go_ret
    exact ⟨rfl, nx⟩
theorem txn_pay_none2 (seq : Int) (mt dt : List Cpy) (rev : List Int) (o0 o1 o2 : Bool) (l0 l1 l2 : Int) (am ad ar : Option Addr) (cm cd cr : Nat) (b : Int) (g : Nat) (w : World) (k0 : Blk w g #[.int .i64 seq, .slice am mt.length cm, .slice ad dt.length cd, .slice ar rev.length cr, .bool o0, .int .i64 l0, .bool o1, .int .i64 l1, .bool o2, .int .i64 l2] 40) (hs : rise (blks mt) = true) (hm : RL cpyC w (.slice am mt.length cm) mt) (hr : RL intC w (.slice ar rev.length cr) rev) (n1 : mt.length ≤ 5864062014805) (n3 : rev.length ≤ 17592186044160) (hf : (hasB mt b || inI rev b) = false) (h0 : l2 = 0) :
    Calls Tryz.prog 128 #[.pointer (some ⟨g, 0, none⟩), .int .i64 2, .int .i64 b] w fun e w' => e = .returned (.int .i64 7) ∧ Below w.heap.size w w' := by
  have hM := txn_has mt b _ w hs hm n1
  have hC := hid (fun w' (hh : RL intC w' (.slice ar rev.length cr) rev) => slices_ContainsI rev b _ w' hh n3)
  replace hr := hid hr
  have e0 := k0.cell 0; have e1 := k0.cell 1; have e2 := k0.cell 2; have e3 := k0.cell 3; have e4 := k0.cell 4; have e5 := k0.cell 5; have e6 := k0.cell 6; have e7 := k0.cell 7; have e8 := k0.cell 8; have e9 := k0.cell 9; simp only [Zga, Zgb, Zgc] at e0 e1 e2 e3 e4 e5 e6 e7 e8 e9; have l0' := k0.lt; have f5 := k0.free 5; have f7 := k0.free 7; have f9 := k0.free 9
  clear hm hs
  obtain ⟨hb, hf⟩ := Bool.or_eq_false_iff.1 hf
  rw [hb] at hM
  rw [hf] at hC
  replace hM := hid hM
  subst h0
  clear hb hf
  go_enter Tryz.func128, Tryz.ntmps128
  go_wp2_with (first | (go_at_call 72; go_loud ((with_reducible refine hM.out.mono ?_); rintro e w1 ⟨rfl, hb1⟩; replace k0 := k0.step hb1; have nx := hb1; have hr1 := hid (hr.out.below hb1); replace hC := hid (hC.out _ hr1.out); clear e0 e1 e2 e3 e4 e5 e6 e7 e8 e9 l0' f5 f7 f9; have e0 := k0.cell 0; have e1 := k0.cell 1; have e2 := k0.cell 2; have e3 := k0.cell 3; have e4 := k0.cell 4; have e5 := k0.cell 5; have e6 := k0.cell 6; have e7 := k0.cell 7; have e8 := k0.cell 8; have e9 := k0.cell 9; simp only [Zga, Zgb, Zgc] at e0 e1 e2 e3 e4 e5 e6 e7 e8 e9; have l0' := k0.lt; have f5 := k0.free 5; have f7 := k0.free 7; have f9 := k0.free 9)) | (go_at_call 125; go_loud ((with_reducible refine hC.out.mono ?_); rintro e w2 ⟨rfl, rfl⟩)))
  go_ret
  exact ⟨rfl, nx⟩
theorem txn_pay_one2 (seq : Int) (mt dt : List Cpy) (rev : List Int) (o0 o1 o2 : Bool) (l0 l1 l2 : Int) (am ad ar : Option Addr) (cm cd cr : Nat) (b : Int) (g : Nat) (w : World) (k0 : Blk w g #[.int .i64 seq, .slice am mt.length cm, .slice ad dt.length cd, .slice ar rev.length cr, .bool o0, .int .i64 l0, .bool o1, .int .i64 l1, .bool o2, .int .i64 l2] 40) (hs : rise (blks mt) = true) (hm : RL cpyC w (.slice am mt.length cm) mt) (hr : RL intC w (.slice ar rev.length cr) rev) (n1 : mt.length ≤ 5864062014805) (n3 : rev.length ≤ 17592186044160) (hf : (hasB mt b || inI rev b) = false) (h0 : 0 < l2) (h1 : l2 ≤ 24) :
    Calls Tryz.prog 128 #[.pointer (some ⟨g, 0, none⟩), .int .i64 2, .int .i64 b] w fun e w' => e = .returned (.int .i64 0) ∧ ∃ w1, Below w.heap.size w w1 ∧ w' = w1.setCell ⟨g, 9, none⟩ (.int .i64 (l2 - 1)) := by
  have hM := txn_has mt b _ w hs hm n1
  have hC := hid (fun w' (hh : RL intC w' (.slice ar rev.length cr) rev) => slices_ContainsI rev b _ w' hh n3)
  replace hr := hid hr
  have e0 := k0.cell 0; have e1 := k0.cell 1; have e2 := k0.cell 2; have e3 := k0.cell 3; have e4 := k0.cell 4; have e5 := k0.cell 5; have e6 := k0.cell 6; have e7 := k0.cell 7; have e8 := k0.cell 8; have e9 := k0.cell 9; simp only [Zga, Zgb, Zgc] at e0 e1 e2 e3 e4 e5 e6 e7 e8 e9; have l0' := k0.lt; have f5 := k0.free 5; have f7 := k0.free 7; have f9 := k0.free 9
  clear hm hs
  obtain ⟨hb, hf⟩ := Bool.or_eq_false_iff.1 hf
  have hnz : ¬ l2 = 0 := by omega
  have hwr : IntKind.i64.wrap (l2 - 1) = l2 - 1 := IntWalk.i64_in _ (by omega)
  rw [hb] at hM
  rw [hf] at hC
  replace hM := hid hM
  clear hb hf
  go_enter Tryz.func128, Tryz.ntmps128
  go_wp2_with (first | (go_at_call 72; go_loud ((with_reducible refine hM.out.mono ?_); rintro e w1 ⟨rfl, hb1⟩; replace k0 := k0.step hb1; have nx := hb1; have hr1 := hid (hr.out.below hb1); replace hC := hid (hC.out _ hr1.out); clear e0 e1 e2 e3 e4 e5 e6 e7 e8 e9 l0' f5 f7 f9; have e0 := k0.cell 0; have e1 := k0.cell 1; have e2 := k0.cell 2; have e3 := k0.cell 3; have e4 := k0.cell 4; have e5 := k0.cell 5; have e6 := k0.cell 6; have e7 := k0.cell 7; have e8 := k0.cell 8; have e9 := k0.cell 9; simp only [Zga, Zgb, Zgc] at e0 e1 e2 e3 e4 e5 e6 e7 e8 e9; have l0' := k0.lt; have f5 := k0.free 5; have f7 := k0.free 7; have f9 := k0.free 9)) | (go_at_call 125; go_loud ((with_reducible refine hC.out.mono ?_); rintro e w2 ⟨rfl, rfl⟩)))
  go_region_law (fail "no call")
  all_goals go_wp2
  all_goals go_ret
  all_goals exact ⟨rfl, _, nx.drew, rfl⟩
end Go.Proofs.YtjhmfljlclajnacGreatDoor
namespace Wb
open Go Go.RowKit
def txnL (t : Txn) (vm vd vr : Value) : List Value := [.int .i64 t.seq, vm, vd, vr, .bool t.h0.on, .int .i64 t.h0.left, .bool t.h1.on, .int .i64 t.h1.left, .bool t.h2.on, .int .i64 t.h2.left]
end Wb
namespace Go.Proofs.YtjhmfljlclajnacGreatDoor
open Go.RowKit Wb
set_option maxRecDepth 100000
set_option maxHeartbeats 8000000
theorem txn_pay (t : Txn) (am ad ar : Option Addr) (cm cd cr : Nat) (h b : Int) (g : Nat) (w : World) (k0 : Blk w g (txnL t (.slice am t.mt.length cm) (.slice ad t.dt.length cd) (.slice ar t.rev.length cr)).toArray 40)
    (hg : GoodT t) (hm : RL cpyC w (.slice am t.mt.length cm) t.mt) (hr : RL intC w (.slice ar t.rev.length cr) t.rev) (hh : 0 ≤ h ∧ h ≤ 2) :
    Calls Tryz.prog 128 #[.pointer (some ⟨g, 0, none⟩), .int .i64 h, .int .i64 b] w fun e w' => e = .returned (.int .i64 (payE t h b)) ∧ Blk w' g (txnL (payU t h b) (.slice am t.mt.length cm) (.slice ad t.dt.length cd) (.slice ar t.rev.length cr)).toArray 40 ∧ Mv [g] w w' := by
  obtain ⟨n1, _, n3⟩ := lens hg
  have hs := copies_rise hg.mt
  obtain ⟨l0, l1, l2⟩ := hnds_bd hg
  have hlt := k0.lt
  obtain ⟨seq, mt, dt, rev, ⟨o0, x0⟩, ⟨o1, x1⟩, ⟨o2, x2⟩⟩ := t
  dsimp only [txnL] at *
  unfold payU payE payT owed
  dsimp only
  cases hf : (hasB mt b || inI rev b) with
  | true =>
    rw [if_neg (by simp), if_pos rfl, if_neg (by simp)]
    obtain (rfl | rfl | rfl) : h = 0 ∨ h = 1 ∨ h = 2 := by omega
    · refine (txn_pay_free0 seq mt dt rev o0 o1 o2 x0 x1 x2 am ad ar cm cd cr b g w k0 hs hm hr (by omega) (by omega) hf).mono ?_
      rintro e w' ⟨rfl, hb⟩
      exact ⟨rfl, k0.step hb, Mv.ofBelow hb⟩
    · refine (txn_pay_free1 seq mt dt rev o0 o1 o2 x0 x1 x2 am ad ar cm cd cr b g w k0 hs hm hr (by omega) (by omega) hf).mono ?_
      rintro e w' ⟨rfl, hb⟩
      exact ⟨rfl, k0.step hb, Mv.ofBelow hb⟩
    · refine (txn_pay_free2 seq mt dt rev o0 o1 o2 x0 x1 x2 am ad ar cm cd cr b g w k0 hs hm hr (by omega) (by omega) hf).mono ?_
      rintro e w' ⟨rfl, hb⟩
      exact ⟨rfl, k0.step hb, Mv.ofBelow hb⟩
  | false =>
    obtain (rfl | rfl | rfl) : h = 0 ∨ h = 1 ∨ h = 2 := by omega
    · by_cases hz : x0 = 0
      · rw [if_pos ⟨rfl, hz⟩, if_neg (by decide)]
        refine (txn_pay_none0 seq mt dt rev o0 o1 o2 x0 x1 x2 am ad ar cm cd cr b g w k0 hs hm hr (by omega) (by omega) hf hz).mono ?_
        rintro e w' ⟨rfl, hb⟩
        exact ⟨rfl, k0.step hb, Mv.ofBelow hb⟩
      · rw [if_neg (fun hh => hz hh.2), if_pos rfl, if_pos (by simp)]
        refine (txn_pay_one0 seq mt dt rev o0 o1 o2 x0 x1 x2 am ad ar cm cd cr b g w k0 hs hm hr (by omega) (by omega) hf (by omega) (by omega)).mono ?_
        rintro e w' ⟨rfl, w1, hb, rfl⟩
        exact ⟨rfl, by simpa [setH, getH] using (k0.step hb).set 5 (.int .i64 (x0 - 1)), (Mv.ofBelow hb).then (Mv.set w1 ⟨g, 5, none⟩ _) (by simp)⟩
    · by_cases hz : x1 = 0
      · rw [if_pos ⟨rfl, hz⟩, if_neg (by decide)]
        refine (txn_pay_none1 seq mt dt rev o0 o1 o2 x0 x1 x2 am ad ar cm cd cr b g w k0 hs hm hr (by omega) (by omega) hf hz).mono ?_
        rintro e w' ⟨rfl, hb⟩
        exact ⟨rfl, k0.step hb, Mv.ofBelow hb⟩
      · rw [if_neg (fun hh => hz hh.2), if_pos rfl, if_pos (by simp)]
        refine (txn_pay_one1 seq mt dt rev o0 o1 o2 x0 x1 x2 am ad ar cm cd cr b g w k0 hs hm hr (by omega) (by omega) hf (by omega) (by omega)).mono ?_
        rintro e w' ⟨rfl, w1, hb, rfl⟩
        exact ⟨rfl, by simpa [setH, getH] using (k0.step hb).set 7 (.int .i64 (x1 - 1)), (Mv.ofBelow hb).then (Mv.set w1 ⟨g, 7, none⟩ _) (by simp)⟩
    · by_cases hz : x2 = 0
      · rw [if_pos ⟨rfl, hz⟩, if_neg (by decide)]
        refine (txn_pay_none2 seq mt dt rev o0 o1 o2 x0 x1 x2 am ad ar cm cd cr b g w k0 hs hm hr (by omega) (by omega) hf hz).mono ?_
        rintro e w' ⟨rfl, hb⟩
        exact ⟨rfl, k0.step hb, Mv.ofBelow hb⟩
      · rw [if_neg (fun hh => hz hh.2), if_pos rfl, if_pos (by simp)]
        refine (txn_pay_one2 seq mt dt rev o0 o1 o2 x0 x1 x2 am ad ar cm cd cr b g w k0 hs hm hr (by omega) (by omega) hf (by omega) (by omega)).mono ?_
        rintro e w' ⟨rfl, w1, hb, rfl⟩
        exact ⟨rfl, by simpa [setH, getH] using (k0.step hb).set 9 (.int .i64 (x2 - 1)), (Mv.ofBelow hb).then (Mv.set w1 ⟨g, 9, none⟩ _) (by simp)⟩
theorem slices_DeleteFuncI (l : List Int) (b : Int) (v : Value) (gb base : Nat) (w : World) (h : Wb.Own intC base 3 1 w v l) (hbase : base ≤ w.heap.size) (hgb : gb < base) (hc : w.cell? ⟨gb, 0, none⟩ = some (.int .i64 b)) (hl : l.length ≤ 17592186044160) :
    Calls Tryz.prog 129 #[v, .func (.func 130) #[] #[.pointer (some ⟨gb, 0, none⟩)]] w fun e w' => ∃ v', e = .returned v' ∧ Wb.Own intC base 3 1 w' v' (l.filter (fun x => !(x == b))) ∧ Below base w w' := by
  have hIF := slices_IndexFuncI l b v gb w h.reads hc hl
  rcases idxK_spec (fun x => x) l b with ⟨e1, hno⟩ | ⟨k, e1, hk, hkb, hno⟩
  · rw [e1] at hIF
    have e2 : l.filter (fun x => !(x == b)) = l := filter_all (fun i hi => by simpa using hno i hi)
    rw [e2]
    obtain ⟨a, cap, rfl⟩ := h.form
    replace hIF := hid hIF; replace h := hid h
    clear e1 e2 hno
    go_enter Tryz.func129, Tryz.ntmps129
    go_wp2_with (go_at_call 164; go_loud ((with_reducible refine hIF.out.mono ?_); rintro e w1 ⟨rfl, hb1⟩))
    go_ret
    exact ⟨_, rfl, h.out.below hb1, hb1.mono hbase⟩
  · rw [e1] at hIF
    have hK0 : KeptI (fun x => !(x == b)) l (k + 1) k l := KeptI.start hk (fun i hi h2 => by simpa using hno i h2) (by simpa using hkb)
    obtain ⟨g, cap, cur, rfl, hbg, hkk, hcap, hmax, hsz, htk⟩ := h.row (by omega)
    have hC := hid (fun x w hc => txn_Change1 x b gb w hc)
    have hne1 : ((k : Int) == -1) = false := beq_eq_false_iff_ne.2 (by omega)
    have hKp : Hid (KeptI (fun x => !(x == b)) l (k + 1) k l) := hid hK0
    have hle := hKp.out.le
    replace hIF := hid hIF; replace h := hid h; replace hc := hid hc
    clear e1 hno hkb hK0 hkk hsz htk cur
    go_enter Tryz.func129, Tryz.ntmps129
    go_wp2_with (go_at_call 164; go_loud ((with_reducible refine hIF.out.mono ?_); rintro e w1 ⟨rfl, hb1⟩; have h1 := hid (h.out.below hb1); have hc1 := hid (cell_below hb1 hc.out); have nx := hb1.mono hbase; clear h hc hIF))
    go_loopg [5, 6, 7] l.length (fun gg s5 s6 _ wr => ∃ (i j : Nat) (lk : List Int), s5 = .int .i64 i ∧ s6 = .int .i64 j ∧ j ≤ l.length ∧ i < j ∧ l.length - j ≤ gg ∧ Below base w wr ∧ Hid (wr.cell? ⟨gb, 0, none⟩ = some (.int .i64 b)) ∧ Hid (Wb.Own intC base 3 1 wr (.slice (some ⟨g, 0, none⟩) l.length cap) lk) ∧ Hid (KeptI (fun x => !(x == b)) l j i lk))
    case atStart => exact ⟨k, k + 1, l, rfl, by go_num, by omega, by omega, by omega, nx, hc1, h1, hKp⟩
    case round =>
      clear nx hc1 h1 hKp hb1
      obtain ⟨i, j, lk, rfl, rfl, hjl, hij, hgg, nx, hcw, ho, hK⟩ := hrel
      by_cases hlt : j < l.length
      · obtain ⟨hjk, hje⟩ := hK.out.get hlt
        obtain ⟨b1, o1, hae, c0⟩ := RL.at1 (fun x => .int .i64 x) (fun _ => rfl) ho.out.reads hjk
        simp only [Option.some.injEq, Addr.mk.injEq, and_true] at hae
        obtain ⟨rfl, rfl⟩ := hae
        rw [hje] at c0
        simp only [Nat.zero_add] at c0
        have hCx := hC.out l[j] wr hcw.out
        by_cases hb : l[j] = b
        · have hK2 := hid (hK.out.skip hlt (by simpa using hb))
          have e1 : (l[j] == b) = true := beq_iff_eq.2 hb
          rw [e1] at hCx
          replace hCx := hid hCx
          clear hb e1 hK hje
          generalize l[j] = x at *
          go_wp2_with (go_at_call 130; go_loud ((with_reducible refine hCx.out.mono ?_); rintro e w1 ⟨rfl, hb1⟩; have ho2 := hid (ho.out.below hb1); have hcw2 := hid (cell_below hb1 hcw.out); have nx2 := nx.trans (hb1.mono (Nat.le_trans hbase nx.size))))
          go_roundg (l.length - (j + 1))
          case measure => omega
          case rel => exact ⟨i, j + 1, lk, rfl, by go_num, by omega, by omega, Nat.le_refl _, nx2, hcw2, ho2, hK2⟩
        · have hK2 := hid (hK.out.keep hlt (by simpa using hb))
          have hil : i < lk.length := by omega
          have e1 : (l[j] == b) = false := beq_eq_false_iff_ne.2 hb
          rw [e1] at hCx
          replace hCx := hid hCx
          clear hb e1 hK hje
          have hin : i < l.length := by omega
          generalize l[j] = x at *
          go_wp2_with (go_at_call 130; go_loud ((with_reducible refine hCx.out.mono ?_); rintro e w1 ⟨rfl, hb1⟩; have ho2 := ho.out.below hb1; have hcw2 := hid (cell_below hb1 hcw.out); have nx2 := nx.trans (hb1.mono (Nat.le_trans hbase nx.size)); obtain ⟨g2, cap2, hv2, hb2, hg2, hq, hnew⟩ := Own.poke intC_flat ho2 hil; simp only [Value.slice.injEq, Option.some.injEq, Addr.mk.injEq, and_true, true_and] at hv2; obtain ⟨rfl, -, rfl⟩ := hv2; have q0 := (hq 0 (by decide)).1; have q1 := (hq 0 (by decide)).2; simp only [intC, Nat.mul_one, Nat.add_zero, List.getElem?_cons_zero] at q0 q1; replace hnew := hid hnew; clear hq))
          go_roundg (l.length - (j + 1))
          case measure => omega
          case rel => exact ⟨i + 1, j + 1, lk.set i x, by go_num, by go_num, by omega, by omega, Nat.le_refl _, nx2.setCell hbg _, hid (by rw [World.cell?_setCell_other _ _ _ _ (fun hh => by simp only [Addr.mk.injEq] at hh; omega)]; exact hcw2.out), hid (by have := hnew.out 0 x (.int .i64 x) (by decide) rfl; rw [Nat.mul_one, Nat.add_zero] at this; exact this), hK2⟩
      · obtain rfl : j = l.length := by omega
        obtain ⟨hd1, hd2⟩ := hK.out.done (Nat.le_refl _)
        have hlk := hK.out.1
        have hcut := hid (fun zs hz => Own.cut (i := i) intC_flat (by rw [hlk]; exact ho.out) (by omega) zs hz)
        obtain ⟨g', cap', cur', hv', hbg', hkk, hcap', hmax', hsz, htk⟩ := ho.out.row (by omega)
        simp only [Value.slice.injEq, Option.some.injEq, Addr.mk.injEq, and_true, true_and] at hv'
        obtain ⟨rfl, -, rfl⟩ := hv'
        have hcl : ∀ ty, (Builtin.clear_ #[35] ty #[.slice (some ⟨g, i, none⟩) (l.length - i) (cap - i)]).run Tryz.prog wr = .ok (.tuple #[]) (wr.setCells g (i) (Builtin.zeroCells (.int .i64 0 : Value).cells (l.length - i)).toList) :=
          fun ty => run_clear_c wr _ _ ty (.int .i64 0) elemIntT.under (fun _ => rfl) (by decide) (by decide) g _ _ _ (by omega)
            (fun t ht => by rw [hkk.cell, Array.getElem?_eq_getElem (by rw [hsz]; simp [Value.cells] at ht; omega)]; rfl) (fun t ht => hkk.free _)
        have hzl : i * 1 + (Builtin.zeroCells (.int .i64 0 : Value).cells (l.length - i)).toList.length ≤ l.length * 1 := by
          rw [Array.length_toList, size_zeroCells]
          have := mul_split (c := 1) (n := l.length) (i := i) (by omega)
          simp only [Value.cells] at this ⊢
          simp
          omega
        have hfin := hcut.out _ (by rw [hlk]; exact hzl)
        rw [hd1] at hfin
        have nz := Wb.Below.sets g hbg (Builtin.zeroCells (.int .i64 0 : Value).cells (l.length - i)).toList (i * 1) _ nx
        simp only [Nat.mul_one] at hfin nz
        replace hfin := hid hfin; replace nz := hid nz
        clear hcut hkk hsz htk hzl hK ho hd1 hd2 hlk
        generalize (Builtin.zeroCells (.int .i64 0 : Value).cells (l.length - i)).toList = zs at *
        have hil : (i : Int) ≤ (l.length : Int) := by omega
        have hci : ¬ (cap = i) := by omega
        go_wp2
        go_ret
        exact ⟨_, rfl, hfin.out, nz.out⟩
end Go.Proofs.YtjhmfljlclajnacGreatDoor
