/- The walks of package slices: Insert. The walks of txn: copies, Asked, Open, handle. The walks of txn: Good. The walks of txn: Asked. The walks of txn: Open. The walks of AskedOf and OpenOf of the reference. -/
import Derived.Test.YtjhmfljlclajnacKTxnFits2
import Derived.Test.YtjhmfljlclajnacKTxnFits1
namespace Go.Proofs.Ytjhmfljlclajnac
open Go.RowKit Wb
set_option linter.unusedVariables false
set_option linter.unusedSimpArgs false
set_option maxRecDepth 100000
set_option maxHeartbeats 8000000
theorem slices_InsertC (l : List Cpy) (i : Nat) (x : Cpy) (v : Value) (vb base : Nat) (w : World) (h : Own cpyC base 68 2 w v l) (hbase : base ≤ w.heap.size) (hx : Blk w vb #[.int .i64 x.block, .string x.text] 68) (hvb : v.ownBlock ≠ some vb) (hi : i ≤ l.length) (hl : l.length ≤ 1000000) :
    Calls Try.prog 52 #[v, .int .i64 i, .slice (some ⟨vb, 0, none⟩) 1 1] w fun e w' => ∃ v', e = .returned v' ∧ Own cpyC base 68 2 w' v' (l.take i ++ x :: l.drop i) ∧ Below base w w' := by
  have hrx : RL cpyC w (.slice (some ⟨vb, 0, none⟩) 1 1) [x] := RL.ofBlk (e := 68) [x] (by simpa [cpyC] using hx) (by simp [maxLen])
  by_cases hn : i = l.length
  · subst hn
    have e1 : l.take l.length ++ x :: l.drop l.length = l ++ [x] := by simp
    rw [e1]
    obtain ⟨a, cap, rfl, hc1, hc2⟩ := h.reads.form
    have hg : a = none ∧ cap = 0 ∨ ∃ g, a = some ⟨g, 0, none⟩ := by
      rcases h.2 with ⟨h1, _⟩ | ⟨g, cap', cur, h1, _⟩
      · simp only [Value.slice.injEq] at h1
        exact .inl ⟨h1.1, h1.2.2⟩
      · simp only [Value.slice.injEq] at h1
        exact .inr ⟨g, h1.1⟩
    replace h := hid h; replace hrx := hid hrx
    clear hx hvb e1
    rcases hg with ⟨rfl, rfl⟩ | ⟨g, rfl⟩
    · go_enter Try.func52, Try.ntmps52
      go_wp2_with (at_builtin; refine wpList_app rfl _ _ 22 rfl base _ 2 24 cpyC_flat elemCpy h.out rfl [x] hrx.out rfl (by simp; omega) (by simp; unfold maxLen; omega) hbase ?_; intro v1 w1 hown1 hg1; obtain ⟨a1, cap1, rfl⟩ := hown1.form; have nx := h.out.belowGrown hbase hg1; simp only [len1] at hown1)
      go_ret
      exact ⟨_, rfl, hown1, nx⟩
    · by_cases hcc : cap = l.length
      · subst hcc
        go_enter Try.func52, Try.ntmps52
        go_wp2_with (at_builtin; refine wpList_app rfl _ _ 22 rfl base _ 2 24 cpyC_flat elemCpy h.out rfl [x] hrx.out rfl (by simp; omega) (by simp; unfold maxLen; omega) hbase ?_; intro v1 w1 hown1 hg1; obtain ⟨a1, cap1, rfl⟩ := hown1.form; have nx := h.out.belowGrown hbase hg1; simp only [len1] at hown1)
        go_ret
        exact ⟨_, rfl, hown1, nx⟩
      · go_enter Try.func52, Try.ntmps52
        go_wp2_with (at_builtin; refine wpList_app rfl _ _ 22 rfl base _ 2 24 cpyC_flat elemCpy h.out rfl [x] hrx.out rfl (by simp; omega) (by simp; unfold maxLen; omega) hbase ?_; intro v1 w1 hown1 hg1; obtain ⟨a1, cap1, rfl⟩ := hown1.form; have nx := h.out.belowGrown hbase hg1; simp only [len1] at hown1)
        go_ret
        exact ⟨_, rfl, hown1, nx⟩
  · have hlt : i < l.length := by omega
    obtain ⟨g, cap, cur, rfl, hbg, hkk, hcap, hmax, hsz, htk⟩ := h.row (by omega)
    have hne : vb ≠ g := fun h2 => hvb (by rw [h2]; rfl)
    have hn1 : ¬ ((i : Int) = (l.length : Int)) := by omega
    have hcells := row_from cpyC_flat.len hkk htk hi
    have hxc := fun j u (hj : (cpyC x)[j]? = some u) => (show w.cell? ⟨vb, 0 + j, none⟩ = some u by rw [hx.cell, Nat.zero_add, ← hj]; simp [cpyC])
    have hdl := flat_dropLen cpyC_flat.len l i
    have hfx := cpyC_flat.len x
    have hci : ¬ (cap = i) := by omega
    have hin : (i : Int) ≤ (l.length : Int) := by omega
    have hw1 : IntKind.i64.wrap ((i : Int) + 1) = (i : Int) + 1 := IntWalk.i64_in _ (by omega)
    have hw2 : IntKind.i64.wrap ((l.length : Int) + 1) = (l.length : Int) + 1 := IntWalk.i64_in _ (by omega)
    have ht1 : ((i : Int) + 1).toNat = i + 1 := by omega
    have hb1 : (0 : Int) ≤ (i : Int) + 1 := by omega
    have hb3 : (i : Int) ≤ (l.length : Int) + 1 := by omega
    have ht2 : ((l.length : Int) + 1).toNat = l.length + 1 := by omega
    by_cases hroom : l.length + 1 ≤ cap
    · have hci2 : ¬ (cap = i + 1) := by omega
      have hz : ∀ w, (Go.sizeOf 68).run Try.prog w = .ok 2 w := fun w => by
        obtain ⟨io, z, h1, h2, h3, _⟩ := elemCpy.info
        simp [Go.sizeOf, typeInfo, h1, h3]
      have hcz : cur.size ≠ 0 := by rw [hsz]; have := Nat.mul_le_mul_right 2 hroom; omega
      have hov : ∀ off lb cb, (callFunc 72 #[.slice (some ⟨vb, 0, none⟩) 1 1, .slice (some ⟨g, off, none⟩) lb cb]).run Try.prog w = .ok (.value (.bool false)) w := fun off lb cb => by
        rw [run_callFunc_extern Try.func72 (by kernel_rfl) (by kernel_rfl) (by kernel_rfl) (e := Extern.SlicesOverlaps.overlaps #[22, 22] #[4]) (by kernel_rfl),
          Lib.run_overlaps_apart w 22 4 68 elemCpy.under 2 hz ⟨vb, 0, none⟩ ⟨g, off, none⟩ 1 1 lb cb hne 68 68 _ _ (by show w.shape? vb = _; unfold World.shape?; rw [show w.heap[vb]? = _ from hx]) (by show w.shape? g = _; unfold World.shape?; rw [show w.heap[g]? = _ from hkk]) hcz (hx.free _) (hx.free _)]
        rfl
      obtain ⟨cur1, hs1, hk1, hfin⟩ := ins_shift (base := base) cpyC_flat hbg hmax hsz htk hi hroom x (w0 := w.drew) hkk
      have hcp1 : ∀ ty dc sc, (Builtin.copy_ #[22, 22] ty #[.slice (some ⟨g, (i + 1) * 2, none⟩) (l.length - i) dc, .slice (some ⟨g, i * 2, none⟩) (l.length + 1 - i) sc]).run Try.prog w.drew = .ok _ (w.drew.setCells g ((i + 1) * 2) ((l.drop i).flatMap cpyC)) := fun ty dc sc =>
        run_copy_blk elemCpy w.drew _ ty (cur := cur) hkk _ _ dc g _ _ sc _ (by rw [hdl]; congr 1; show l.length - i = min (l.length + 1 - i) (l.length - i); omega) hcells (by rw [hdl, hsz]; have h5 := mul_split (c := 2) (n := l.length + 1) (i := i + 1) (by omega); have h6 := Nat.mul_le_mul_right 2 hroom; rw [show l.length + 1 - (i + 1) = l.length - i by omega] at h5; omega) (flat_one cpyC_flat _)
      have hcp2 : ∀ ty dc (w1 : World), Blk w1 g cur1 68 → (∀ j u, (cpyC x)[j]? = some u → w1.cell? ⟨vb, 0 + j, none⟩ = some u) → (Builtin.copy_ #[22, 22] ty #[.slice (some ⟨g, i * 2, none⟩) (l.length + 1 - i) dc, .slice (some ⟨vb, 0, none⟩) 1 1]).run Try.prog w1 = .ok _ (w1.setCells g (i * 2) (cpyC x)) := fun ty dc w1 k1 hs2 =>
        run_copy_blk elemCpy w1 _ ty (cur := cur1) k1 _ _ dc vb 0 1 1 _ (by rw [hfx, show Nat.min 1 (l.length + 1 - i) = 1 from Nat.min_eq_left (by omega)]) hs2 (by rw [hfx, hs1]; have h5 := mul_split (c := 2) (n := cap) (i := i) (by omega); have h6 : 1 * 2 ≤ (cap - i) * 2 := Nat.mul_le_mul_right _ (by omega); omega) (fun u hu => cpyC_flat.one x u hu)
      have hk1 : Blk (w.drew.setCells g ((i + 1) * 2) ((l.drop i).flatMap cpyC)) g cur1 68 := hk1
      have hs2 := fun j u hj => (show (w.drew.setCells g ((i + 1) * 2) ((l.drop i).flatMap cpyC)).cell? ⟨vb, 0 + j, none⟩ = some u by rw [Blk.cell (Blk.sets_other hne _ _ _ hx.drew), ← hxc j u hj, hx.cell])
      have nz1 := Wb.Below.sets g hbg ((l.drop i).flatMap cpyC) ((i + 1) * 2) _ (Below.refl base w).drew
      have nz2 := Wb.Below.sets g hbg (cpyC x) (i * 2) _ nz1
      replace hfin := hid hfin; replace nz2 := hid nz2; replace hxc := hid hxc; replace hs2 := hid hs2; replace hk1 := hid hk1; replace hcp1 := hid hcp1; replace hcp2 := hid hcp2
      clear hcells hdl htk hsz hkk hcz hz hx h nz1
      have hcp2x := fun ty dc => hcp2.out ty dc _ hk1.out hs2.out
      go_enter Try.func52, Try.ntmps52
      go_wp2_with (simp only [hov])
      go_region_law (refine step_copyR rfl _ _ 22 22 rfl (hcp1.out 3 (cap - (i + 1)) (cap - i)) (by simp [Act.eval, Act.put]) (by simp [Act.eval, Act.put]) ?_)
      all_goals go_wp2
      all_goals go_ret
      all_goals exact ⟨_, rfl, hfin.out _ hk1.out, nz2.out⟩
    · obtain rfl : cap = l.length := by omega
      obtain ⟨Z, hZ, hrz⟩ : ∃ Z : List Value, Z.length = (grownCap w (l.length + 1) l.length 68 - i) * 2 ∧ ∀ ty, (Builtin.append_ #[22, 3] ty #[.slice (some ⟨g, 0, none⟩) i l.length, .int .i64 ((l.length : Int) + 1 - (i : Int))]).run Try.prog w = .ok (.slice (some ⟨w.heap.size, 0, none⟩) (l.length + 1) (grownCap w (l.length + 1) l.length 68)) (w.drew.alloc (.cells ((l.take i).flatMap cpyC ++ Z).toArray 68)) := by
        have e1 : i + (l.length + 1 - i) = l.length + 1 := by omega
        have e2 : ((l.length + 1 - i : Nat) : Int) = (l.length : Int) + 1 - (i : Int) := by omega
        obtain ⟨Z, hZ, hq⟩ := run_app_make (P := Try.prog) (tn := 3) (cap := l.length) cpyC_flat elemCpy (by kernel_rfl) w hkk htk hi (show 0 < l.length + 1 - i by omega) (by omega) (by rw [e1]; omega) (by rw [e1]; unfold maxLen; omega)
        rw [e1] at hZ hq
        rw [e2] at hq
        exact ⟨Z, hZ, hq⟩
      have hGn : l.length + 1 ≤ grownCap w (l.length + 1) l.length 68 := grownCap_ge w _ _ _
      have hGm : grownCap w (l.length + 1) l.length 68 ≤ maxLen := grownCap_le_maxLen w _ _ _ (by unfold maxLen; omega)
      obtain ⟨G, hG⟩ : ∃ G, G = grownCap w (l.length + 1) l.length 68 := ⟨_, rfl⟩
      rw [← hG] at hZ hrz hGn hGm
      clear hG
      obtain ⟨row, hrow⟩ : ∃ row : Array Value, row = ((l.take i).flatMap cpyC ++ Z).toArray := ⟨_, rfl⟩
      rw [← hrow] at hrz
      have hbw : g < w.heap.size := Blk.lt (cs := cur) hkk
      have hbv : vb < w.heap.size := hx.lt
      have hk0 : Blk (w.drew.alloc (.cells row 68)) w.heap.size row 68 := Blk.new w.drew row _
      have hk0' : Blk ((w.alloc (.cells row 68)).drew) w.heap.size row 68 := (Blk.new w row _).drew
      have hGi : ¬ (G = i) := by omega
      have hGi2 : ¬ (G = i + 1) := by omega
      have hgt : (l.length : Int) < (l.length : Int) + 1 := by omega
      have hin2 : i ≤ l.length + 1 := by omega
      obtain ⟨hs0, cur1, hs1, hk1, hfin⟩ := ins_grown (base := base) cpyC_flat Z hbase hGm hZ hrow hi hGn x (w0 := w.drew.alloc (.cells row 68)) hk0
      obtain ⟨W1, hW1⟩ : ∃ W1, W1 = w.drew.alloc (.cells row 68) := ⟨_, rfl⟩
      have hxc1 : ∀ j u, (cpyC x)[j]? = some u → W1.cell? ⟨vb, 0 + j, none⟩ = some u := fun j u hj => by rw [hW1, Blk.cell (hx.drew.alloc _), ← hxc j u hj, hx.cell]
      have hk0w : Blk W1 w.heap.size row 68 := by rw [hW1]; exact hk0
      have hcpA : ∀ ty dc, (Builtin.copy_ #[22, 22] ty #[.slice (some ⟨w.heap.size, i * 2, none⟩) (l.length + 1 - i) dc, .slice (some ⟨vb, 0, none⟩) 1 1]).run Try.prog W1 = .ok _ (W1.setCells w.heap.size (i * 2) (cpyC x)) := fun ty dc =>
        run_copy_blk elemCpy W1 _ ty (cur := row) hk0w _ _ dc vb 0 1 1 _ (by rw [hfx, show Nat.min 1 (l.length + 1 - i) = 1 from Nat.min_eq_left (by omega)]) hxc1 (by rw [hfx, hs0]; have h5 := mul_split (c := 2) (n := G) (i := i) (by omega); have h6 : 1 * 2 ≤ (G - i) * 2 := Nat.mul_le_mul_right _ (by omega); omega) (fun u hu => cpyC_flat.one x u hu)
      have hk1w : Blk (W1.setCells w.heap.size (i * 2) (cpyC x)).drew w.heap.size cur1 68 := by rw [hW1]; exact hk1
      have hcells1 : ∀ j u, ((l.drop i).flatMap cpyC)[j]? = some u → (W1.setCells w.heap.size (i * 2) (cpyC x)).drew.cell? ⟨g, i * 2 + j, none⟩ = some u := fun j u hj => by
        rw [show (W1.setCells w.heap.size (i * 2) (cpyC x)).drew.cell? ⟨g, i * 2 + j, none⟩ = (W1.setCells w.heap.size (i * 2) (cpyC x)).cell? ⟨g, i * 2 + j, none⟩ from rfl, hW1, Blk.cell (Blk.sets_other (by omega) _ _ _ ((show Blk w.drew g cur 68 from hkk).alloc _)), ← Blk.cell hkk]
        exact hcells j u hj
      have hcpB : ∀ ty dc sc, (Builtin.copy_ #[22, 22] ty #[.slice (some ⟨w.heap.size, (i + 1) * 2, none⟩) (l.length - i) dc, .slice (some ⟨g, i * 2, none⟩) (l.length - i) sc]).run Try.prog (W1.setCells w.heap.size (i * 2) (cpyC x)).drew = .ok _ ((W1.setCells w.heap.size (i * 2) (cpyC x)).drew.setCells w.heap.size ((i + 1) * 2) ((l.drop i).flatMap cpyC)) := fun ty dc sc =>
        run_copy_blk elemCpy (W1.setCells w.heap.size (i * 2) (cpyC x)).drew _ ty (cur := cur1) hk1w _ _ dc g _ _ sc _ (by rw [hdl]; congr 1; show l.length - i = min (l.length - i) (l.length - i); omega) hcells1 (by rw [hdl, hs1]; have h5 := mul_split (c := 2) (n := l.length + 1) (i := i + 1) (by omega); have h6 := Nat.mul_le_mul_right 2 hGn; rw [show l.length + 1 - (i + 1) = l.length - i by omega] at h5; omega) (flat_one cpyC_flat _)
      have hfinw := hfin _ (show Blk (W1.setCells w.heap.size (i * 2) (cpyC x)).drew w.heap.size cur1 68 from hk1w)
      have nx1 : Below base w W1 := by rw [hW1]; exact (Below.refl base w).drew.alloc (by simpa using hbase) _
      have nz2 := Wb.Below.sets w.heap.size hbase ((l.drop i).flatMap cpyC) ((i + 1) * 2) _ (Wb.Below.sets w.heap.size hbase (cpyC x) (i * 2) _ nx1).drew
      rw [← hW1] at hrz
      replace hfinw := hid hfinw; replace nz2 := hid nz2; replace hW1 := hid hW1; replace hcpB := hid hcpB
      clear hcells hcells1 hdl htk hsz hkk hx h hfin hxc hxc1 hk0 hk0' hk0w hk1 hk1w hs0 hs1 nx1 hrow hZ
      go_enter Try.func52, Try.ntmps52
      go_wp2_with (at_builtin; refine wpList_appR rfl _ _ _ _ rfl (hrz _) rfl rfl ?_)
      go_region_law (refine step_copyR rfl _ _ 22 22 rfl (hcpB.out 3 (G - (i + 1)) (l.length - i)) (by simp [Act.eval, Act.put]) (by simp [Act.eval, Act.put]) ?_)
      all_goals go_wp2
      all_goals go_ret
      all_goals exact ⟨_, rfl, hfinw.out, nz2.out⟩
theorem slices_InsertI (l : List Int) (i : Nat) (x : Int) (v : Value) (vb base : Nat) (w : World) (h : Own intC base 3 1 w v l) (hbase : base ≤ w.heap.size) (hx : Blk w vb #[.int .i64 x] 3) (hvb : v.ownBlock ≠ some vb) (hi : i ≤ l.length) (hl : l.length ≤ 1000000) :
    Calls Try.prog 40 #[v, .int .i64 i, .slice (some ⟨vb, 0, none⟩) 1 1] w fun e w' => ∃ v', e = .returned v' ∧ Own intC base 3 1 w' v' (l.take i ++ x :: l.drop i) ∧ Below base w w' := by
  have hrx : RL intC w (.slice (some ⟨vb, 0, none⟩) 1 1) [x] := RL.ofBlk (e := 3) [x] (by simpa [intC] using hx) (by simp [maxLen])
  by_cases hn : i = l.length
  · subst hn
    have e1 : l.take l.length ++ x :: l.drop l.length = l ++ [x] := by simp
    rw [e1]
    obtain ⟨a, cap, rfl, hc1, hc2⟩ := h.reads.form
    have hg : a = none ∧ cap = 0 ∨ ∃ g, a = some ⟨g, 0, none⟩ := by
      rcases h.2 with ⟨h1, _⟩ | ⟨g, cap', cur, h1, _⟩
      · simp only [Value.slice.injEq] at h1
        exact .inl ⟨h1.1, h1.2.2⟩
      · simp only [Value.slice.injEq] at h1
        exact .inr ⟨g, h1.1⟩
    replace h := hid h; replace hrx := hid hrx
    clear hx hvb e1
    rcases hg with ⟨rfl, rfl⟩ | ⟨g, rfl⟩
    · go_enter Try.func40, Try.ntmps40
      go_wp2_with (at_builtin; refine wpList_app rfl _ _ 23 rfl base _ 1 8 intC_flat elemIntT h.out rfl [x] hrx.out rfl (by simp; omega) (by simp; unfold maxLen; omega) hbase ?_; intro v1 w1 hown1 hg1; obtain ⟨a1, cap1, rfl⟩ := hown1.form; have nx := h.out.belowGrown hbase hg1; simp only [len1] at hown1)
      go_ret
      exact ⟨_, rfl, hown1, nx⟩
    · by_cases hcc : cap = l.length
      · subst hcc
        go_enter Try.func40, Try.ntmps40
        go_wp2_with (at_builtin; refine wpList_app rfl _ _ 23 rfl base _ 1 8 intC_flat elemIntT h.out rfl [x] hrx.out rfl (by simp; omega) (by simp; unfold maxLen; omega) hbase ?_; intro v1 w1 hown1 hg1; obtain ⟨a1, cap1, rfl⟩ := hown1.form; have nx := h.out.belowGrown hbase hg1; simp only [len1] at hown1)
        go_ret
        exact ⟨_, rfl, hown1, nx⟩
      · go_enter Try.func40, Try.ntmps40
        go_wp2_with (at_builtin; refine wpList_app rfl _ _ 23 rfl base _ 1 8 intC_flat elemIntT h.out rfl [x] hrx.out rfl (by simp; omega) (by simp; unfold maxLen; omega) hbase ?_; intro v1 w1 hown1 hg1; obtain ⟨a1, cap1, rfl⟩ := hown1.form; have nx := h.out.belowGrown hbase hg1; simp only [len1] at hown1)
        go_ret
        exact ⟨_, rfl, hown1, nx⟩
  · have hlt : i < l.length := by omega
    obtain ⟨g, cap, cur, rfl, hbg, hkk, hcap, hmax, hsz, htk⟩ := h.row (by omega)
    have hne : vb ≠ g := fun h2 => hvb (by rw [h2]; rfl)
    have hn1 : ¬ ((i : Int) = (l.length : Int)) := by omega
    have hcells := row_from intC_flat.len hkk htk hi
    have hxc := fun j u (hj : (intC x)[j]? = some u) => (show w.cell? ⟨vb, 0 + j, none⟩ = some u by rw [hx.cell, Nat.zero_add, ← hj]; simp [intC])
    have hdl := flat_dropLen intC_flat.len l i
    have hfx := intC_flat.len x
    have hci : ¬ (cap = i) := by omega
    have hin : (i : Int) ≤ (l.length : Int) := by omega
    have hw1 : IntKind.i64.wrap ((i : Int) + 1) = (i : Int) + 1 := IntWalk.i64_in _ (by omega)
    have hw2 : IntKind.i64.wrap ((l.length : Int) + 1) = (l.length : Int) + 1 := IntWalk.i64_in _ (by omega)
    have ht1 : ((i : Int) + 1).toNat = i + 1 := by omega
    have hb1 : (0 : Int) ≤ (i : Int) + 1 := by omega
    have hb3 : (i : Int) ≤ (l.length : Int) + 1 := by omega
    have ht2 : ((l.length : Int) + 1).toNat = l.length + 1 := by omega
    by_cases hroom : l.length + 1 ≤ cap
    · have hci2 : ¬ (cap = i + 1) := by omega
      have hz : ∀ w, (Go.sizeOf 3).run Try.prog w = .ok 1 w := fun w => by
        obtain ⟨io, z, h1, h2, h3, _⟩ := elemIntT.info
        simp [Go.sizeOf, typeInfo, h1, h3]
      have hcz : cur.size ≠ 0 := by rw [hsz]; have := Nat.mul_le_mul_right 1 hroom; omega
      have hov : ∀ off lb cb, (callFunc 59 #[.slice (some ⟨vb, 0, none⟩) 1 1, .slice (some ⟨g, off, none⟩) lb cb]).run Try.prog w = .ok (.value (.bool false)) w := fun off lb cb => by
        rw [run_callFunc_extern Try.func59 (by kernel_rfl) (by kernel_rfl) (by kernel_rfl) (e := Extern.SlicesOverlaps.overlaps #[23, 23] #[4]) (by kernel_rfl),
          Lib.run_overlaps_apart w 23 4 3 elemIntT.under 1 hz ⟨vb, 0, none⟩ ⟨g, off, none⟩ 1 1 lb cb hne 3 3 _ _ (by show w.shape? vb = _; unfold World.shape?; rw [show w.heap[vb]? = _ from hx]) (by show w.shape? g = _; unfold World.shape?; rw [show w.heap[g]? = _ from hkk]) hcz (hx.free _) (hx.free _)]
        rfl
      obtain ⟨cur1, hs1, hk1, hfin⟩ := ins_shift (base := base) intC_flat hbg hmax hsz htk hi hroom x (w0 := w.drew) hkk
      have hcp1 : ∀ ty dc sc, (Builtin.copy_ #[23, 23] ty #[.slice (some ⟨g, (i + 1) * 1, none⟩) (l.length - i) dc, .slice (some ⟨g, i * 1, none⟩) (l.length + 1 - i) sc]).run Try.prog w.drew = .ok _ (w.drew.setCells g ((i + 1) * 1) ((l.drop i).flatMap intC)) := fun ty dc sc =>
        run_copy_blk elemIntT w.drew _ ty (cur := cur) hkk _ _ dc g _ _ sc _ (by rw [hdl]; congr 1; show l.length - i = min (l.length + 1 - i) (l.length - i); omega) hcells (by rw [hdl, hsz]; have h5 := mul_split (c := 1) (n := l.length + 1) (i := i + 1) (by omega); have h6 := Nat.mul_le_mul_right 1 hroom; rw [show l.length + 1 - (i + 1) = l.length - i by omega] at h5; omega) (flat_one intC_flat _)
      have hcp2 : ∀ ty dc (w1 : World), Blk w1 g cur1 3 → (∀ j u, (intC x)[j]? = some u → w1.cell? ⟨vb, 0 + j, none⟩ = some u) → (Builtin.copy_ #[23, 23] ty #[.slice (some ⟨g, i * 1, none⟩) (l.length + 1 - i) dc, .slice (some ⟨vb, 0, none⟩) 1 1]).run Try.prog w1 = .ok _ (w1.setCells g (i * 1) (intC x)) := fun ty dc w1 k1 hs2 =>
        run_copy_blk elemIntT w1 _ ty (cur := cur1) k1 _ _ dc vb 0 1 1 _ (by rw [hfx, show Nat.min 1 (l.length + 1 - i) = 1 from Nat.min_eq_left (by omega)]) hs2 (by rw [hfx, hs1]; have h5 := mul_split (c := 1) (n := cap) (i := i) (by omega); have h6 : 1 * 1 ≤ (cap - i) * 1 := Nat.mul_le_mul_right _ (by omega); omega) (fun u hu => intC_flat.one x u hu)
      have hk1 : Blk (w.drew.setCells g ((i + 1) * 1) ((l.drop i).flatMap intC)) g cur1 3 := hk1
      have hs2 := fun j u hj => (show (w.drew.setCells g ((i + 1) * 1) ((l.drop i).flatMap intC)).cell? ⟨vb, 0 + j, none⟩ = some u by rw [Blk.cell (Blk.sets_other hne _ _ _ hx.drew), ← hxc j u hj, hx.cell])
      have nz1 := Wb.Below.sets g hbg ((l.drop i).flatMap intC) ((i + 1) * 1) _ (Below.refl base w).drew
      have nz2 := Wb.Below.sets g hbg (intC x) (i * 1) _ nz1
      (try simp only [Nat.mul_one] at hfin); (try simp only [Nat.mul_one] at nz2); (try simp only [Nat.mul_one] at hs2); (try simp only [Nat.mul_one] at hk1); (try simp only [Nat.mul_one] at hcp1); (try simp only [Nat.mul_one] at hcp2)
      replace hfin := hid hfin; replace nz2 := hid nz2; replace hxc := hid hxc; replace hs2 := hid hs2; replace hk1 := hid hk1; replace hcp1 := hid hcp1; replace hcp2 := hid hcp2
      clear hcells hdl htk hsz hkk hcz hz hx h nz1
      have hcp2x := fun ty dc => hcp2.out ty dc _ hk1.out hs2.out
      go_enter Try.func40, Try.ntmps40
      go_wp2_with (simp only [hov])
      go_region_law (refine step_copyR rfl _ _ 23 23 rfl (hcp1.out 3 (cap - (i + 1)) (cap - i)) (by simp [Act.eval, Act.put]) (by simp [Act.eval, Act.put]) ?_)
      all_goals go_wp2
      all_goals go_ret
      all_goals exact ⟨_, rfl, hfin.out _ hk1.out, nz2.out⟩
    · obtain rfl : cap = l.length := by omega
      obtain ⟨Z, hZ, hrz⟩ : ∃ Z : List Value, Z.length = (grownCap w (l.length + 1) l.length 3 - i) * 1 ∧ ∀ ty, (Builtin.append_ #[23, 3] ty #[.slice (some ⟨g, 0, none⟩) i l.length, .int .i64 ((l.length : Int) + 1 - (i : Int))]).run Try.prog w = .ok (.slice (some ⟨w.heap.size, 0, none⟩) (l.length + 1) (grownCap w (l.length + 1) l.length 3)) (w.drew.alloc (.cells ((l.take i).flatMap intC ++ Z).toArray 3)) := by
        have e1 : i + (l.length + 1 - i) = l.length + 1 := by omega
        have e2 : ((l.length + 1 - i : Nat) : Int) = (l.length : Int) + 1 - (i : Int) := by omega
        obtain ⟨Z, hZ, hq⟩ := run_app_make (P := Try.prog) (tn := 3) (cap := l.length) intC_flat elemIntT (by kernel_rfl) w hkk htk hi (show 0 < l.length + 1 - i by omega) (by omega) (by rw [e1]; omega) (by rw [e1]; unfold maxLen; omega)
        rw [e1] at hZ hq
        rw [e2] at hq
        exact ⟨Z, hZ, hq⟩
      have hGn : l.length + 1 ≤ grownCap w (l.length + 1) l.length 3 := grownCap_ge w _ _ _
      have hGm : grownCap w (l.length + 1) l.length 3 ≤ maxLen := grownCap_le_maxLen w _ _ _ (by unfold maxLen; omega)
      obtain ⟨G, hG⟩ : ∃ G, G = grownCap w (l.length + 1) l.length 3 := ⟨_, rfl⟩
      rw [← hG] at hZ hrz hGn hGm
      clear hG
      obtain ⟨row, hrow⟩ : ∃ row : Array Value, row = ((l.take i).flatMap intC ++ Z).toArray := ⟨_, rfl⟩
      rw [← hrow] at hrz
      have hbw : g < w.heap.size := Blk.lt (cs := cur) hkk
      have hbv : vb < w.heap.size := hx.lt
      have hk0 : Blk (w.drew.alloc (.cells row 3)) w.heap.size row 3 := Blk.new w.drew row _
      have hk0' : Blk ((w.alloc (.cells row 3)).drew) w.heap.size row 3 := (Blk.new w row _).drew
      have hGi : ¬ (G = i) := by omega
      have hGi2 : ¬ (G = i + 1) := by omega
      have hgt : (l.length : Int) < (l.length : Int) + 1 := by omega
      have hin2 : i ≤ l.length + 1 := by omega
      obtain ⟨hs0, cur1, hs1, hk1, hfin⟩ := ins_grown (base := base) intC_flat Z hbase hGm hZ hrow hi hGn x (w0 := w.drew.alloc (.cells row 3)) hk0
      obtain ⟨W1, hW1⟩ : ∃ W1, W1 = w.drew.alloc (.cells row 3) := ⟨_, rfl⟩
      have hxc1 : ∀ j u, (intC x)[j]? = some u → W1.cell? ⟨vb, 0 + j, none⟩ = some u := fun j u hj => by rw [hW1, Blk.cell (hx.drew.alloc _), ← hxc j u hj, hx.cell]
      have hk0w : Blk W1 w.heap.size row 3 := by rw [hW1]; exact hk0
      have hcpA : ∀ ty dc, (Builtin.copy_ #[23, 23] ty #[.slice (some ⟨w.heap.size, i * 1, none⟩) (l.length + 1 - i) dc, .slice (some ⟨vb, 0, none⟩) 1 1]).run Try.prog W1 = .ok _ (W1.setCells w.heap.size (i * 1) (intC x)) := fun ty dc =>
        run_copy_blk elemIntT W1 _ ty (cur := row) hk0w _ _ dc vb 0 1 1 _ (by rw [hfx, show Nat.min 1 (l.length + 1 - i) = 1 from Nat.min_eq_left (by omega)]) hxc1 (by rw [hfx, hs0]; have h5 := mul_split (c := 1) (n := G) (i := i) (by omega); have h6 : 1 * 1 ≤ (G - i) * 1 := Nat.mul_le_mul_right _ (by omega); omega) (fun u hu => intC_flat.one x u hu)
      have hk1w : Blk (W1.setCells w.heap.size (i * 1) (intC x)).drew w.heap.size cur1 3 := by rw [hW1]; exact hk1
      have hcells1 : ∀ j u, ((l.drop i).flatMap intC)[j]? = some u → (W1.setCells w.heap.size (i * 1) (intC x)).drew.cell? ⟨g, i * 1 + j, none⟩ = some u := fun j u hj => by
        rw [show (W1.setCells w.heap.size (i * 1) (intC x)).drew.cell? ⟨g, i * 1 + j, none⟩ = (W1.setCells w.heap.size (i * 1) (intC x)).cell? ⟨g, i * 1 + j, none⟩ from rfl, hW1, Blk.cell (Blk.sets_other (by omega) _ _ _ ((show Blk w.drew g cur 3 from hkk).alloc _)), ← Blk.cell hkk]
        exact hcells j u hj
      have hcpB : ∀ ty dc sc, (Builtin.copy_ #[23, 23] ty #[.slice (some ⟨w.heap.size, (i + 1) * 1, none⟩) (l.length - i) dc, .slice (some ⟨g, i * 1, none⟩) (l.length - i) sc]).run Try.prog (W1.setCells w.heap.size (i * 1) (intC x)).drew = .ok _ ((W1.setCells w.heap.size (i * 1) (intC x)).drew.setCells w.heap.size ((i + 1) * 1) ((l.drop i).flatMap intC)) := fun ty dc sc =>
        run_copy_blk elemIntT (W1.setCells w.heap.size (i * 1) (intC x)).drew _ ty (cur := cur1) hk1w _ _ dc g _ _ sc _ (by rw [hdl]; congr 1; show l.length - i = min (l.length - i) (l.length - i); omega) hcells1 (by rw [hdl, hs1]; have h5 := mul_split (c := 1) (n := l.length + 1) (i := i + 1) (by omega); have h6 := Nat.mul_le_mul_right 1 hGn; rw [show l.length + 1 - (i + 1) = l.length - i by omega] at h5; omega) (flat_one intC_flat _)
      have hfinw := hfin _ (show Blk (W1.setCells w.heap.size (i * 1) (intC x)).drew w.heap.size cur1 3 from hk1w)
      have nx1 : Below base w W1 := by rw [hW1]; exact (Below.refl base w).drew.alloc (by simpa using hbase) _
      have nz2 := Wb.Below.sets w.heap.size hbase ((l.drop i).flatMap intC) ((i + 1) * 1) _ (Wb.Below.sets w.heap.size hbase (intC x) (i * 1) _ nx1).drew
      rw [← hW1] at hrz
      (try simp only [Nat.mul_one] at hfinw); (try simp only [Nat.mul_one] at nz2); (try simp only [Nat.mul_one] at hcpA); (try simp only [Nat.mul_one] at hcpB)
      replace hfinw := hid hfinw; replace nz2 := hid nz2; replace hW1 := hid hW1; replace hcpB := hid hcpB
      clear hcells hcells1 hdl htk hsz hkk hx h hfin hxc hxc1 hk0 hk0' hk0w hk1 hk1w hs0 hs1 nx1 hrow hZ
      go_enter Try.func40, Try.ntmps40
      go_wp2_with (at_builtin; refine wpList_appR rfl _ _ _ _ rfl (hrz _) rfl rfl ?_)
      go_region_law (refine step_copyR rfl _ _ 23 23 rfl (hcpB.out 3 (G - (i + 1)) (l.length - i)) (by simp [Act.eval, Act.put]) (by simp [Act.eval, Act.put]) ?_)
      all_goals go_wp2
      all_goals go_ret
      all_goals exact ⟨_, rfl, hfinw.out, nz2.out⟩
end Go.Proofs.Ytjhmfljlclajnac

namespace Wb
open Go Go.RowKit
def stepC (l : List Cpy) (k : Nat) : Prop := ∀ (hk : k < l.length), isBlk l[k].block = true ∧ l[k].text.size = 32 ∧ (∀ (h : 0 < k), l[k - 1].block < l[k].block)
theorem copies_iff (l : List Cpy) : copiesB l = true ↔ ∀ k, k < l.length → stepC l k := by
  unfold copiesB
  rw [Bool.and_eq_true, rise_iff, List.all_eq_true]
  have hg : ∀ j (hj : j < l.length), (blks l).getD j 0 = l[j].block := fun j hj => by simp [blks, hj]
  have hlen : (blks l).length = l.length := by simp [blks]
  constructor
  · rintro ⟨h1, h2⟩ k hk hk2
    have := h1 k (by omega)
    unfold riseAt at this
    rw [hg k hk] at this
    refine ⟨decide_eq_true ⟨this.1, this.2.1⟩, of_decide_eq_true (h2 _ (List.getElem_mem hk)), fun h => ?_⟩
    have h3 := this.2.2 h
    rw [hg (k - 1) (by omega)] at h3
    exact h3
  · intro h
    refine ⟨fun k hk => ?_, fun x hx => ?_⟩
    · have hk2 : k < l.length := by omega
      obtain ⟨g1, g2, g3⟩ := h k hk2 hk2
      have g1 := of_decide_eq_true g1
      unfold riseAt
      rw [hg k hk2]
      refine ⟨g1.1, g1.2, fun h0 => ?_⟩
      rw [hg (k - 1) (by omega)]
      exact g3 h0
    · obtain ⟨k, hk, rfl⟩ := List.mem_iff_getElem.1 hx
      exact decide_eq_true (h k hk hk).2.1
theorem copies_bad {l : List Cpy} {k : Nat} (hk : k < l.length) (h : ¬ stepC l k) : copiesB l = false := by
  rw [← Bool.not_eq_true, copies_iff]
  exact fun hh => h (hh k hk)
def hndC (h : Hnd) : List Value := [.bool h.on, .int .i64 h.left]
end Wb
namespace Go.Proofs.Ytjhmfljlclajnac
open Go.RowKit Wb
set_option linter.unusedVariables false
set_option linter.unusedSimpArgs false
set_option maxRecDepth 100000
set_option maxHeartbeats 4000000
theorem txn_handle (b : Int) (w : World) : Calls Try.prog 48 #[.int .i64 b] w fun e w' => e = .returned (.bool (isHnd b)) ∧ w = w' := by
  by_cases h0 : 0 ≤ b
  · by_cases h1 : b < 3
    · have hv : isHnd b = true := decide_eq_true ⟨h0, h1⟩
      rw [hv]
      go_enter Try.func48, Try.ntmps48
      go_wp2
      go_ret
      exact ⟨rfl, rfl⟩
    · have hv : isHnd b = false := decide_eq_false fun hh => h1 hh.2
      rw [hv]
      go_enter Try.func48, Try.ntmps48
      go_wp2
      go_ret
      exact ⟨rfl, rfl⟩
  · have hv : isHnd b = false := decide_eq_false fun hh => h0 hh.1
    rw [hv]
    go_enter Try.func48, Try.ntmps48
    go_wp2
    go_ret
    exact ⟨rfl, rfl⟩

theorem txn_copies (l : List Cpy) (v : Value) (w : World) (h : RL cpyC w v l) (hl : l.length ≤ 5864062014805) :
    Calls Try.prog 45 #[v] w fun e w' => e = .returned (.bool (copiesB l)) ∧ Below w.heap.size w w' := by
  obtain ⟨a, cap, rfl, _⟩ := h.form
  have hci := copies_iff l
  have hno := fun k hk hh => copies_bad (l := l) (k := k) hk hh
  have hB := fun b w => txn_block b w
  generalize copiesB l = cb at *
  replace h := hid h; replace hci := hid hci; replace hno := hid hno; replace hB := hid hB
  go_enter Try.func45, Try.ntmps45
  go_wp2
  go_loopw [3, 4, 7] (fun _ _ i wr => ∃ k : Nat, k ≤ l.length ∧ i = .int .i64 k ∧ Hid (∀ j, j < k → stepC l j) ∧ Below w.heap.size w wr) (fun _ _ i _ => l.length - (intOf i).toNat)
  case atStart => exact ⟨0, Nat.zero_le _, rfl, hid (fun j hj => absurd hj (Nat.not_lt_zero j)), b0 w⟩
  case round =>
    obtain ⟨k, hk, rfl, hall, nx⟩ := hrel
    by_cases hlt : k < l.length
    · obtain ⟨b1, o1, rfl, d0, d1⟩ := RL.at2 (fun x => .int .i64 x.block) (fun x => .string x.text) (fun _ => rfl) (h.out.below nx) hlt
      have hsk := hid (show isBlk l[k].block = true → l[k].text.size = 32 → (∀ (h : 0 < k), l[k - 1].block < l[k].block) → ∀ j, j < k + 1 → stepC l j from fun h1 h2 h3 j hj => by
        by_cases e : j = k
        · subst e; exact fun _ => ⟨h1, h2, h3⟩
        · exact hall.out j (by omega))
      have hnk := hid (show ¬ (isBlk l[k].block = true ∧ l[k].text.size = 32 ∧ (∀ (h : 0 < k), l[k - 1].block < l[k].block)) → cb = false from fun h => hno.out k hlt (fun hh => h (hh hlt)))
      have hBk := hB.out l[k].block
      by_cases hb : isBlk l[k].block = true
      · rw [hb] at hBk
        by_cases hs : l[k].text.size = 32
        · have hs2 : ((l[k].text.size : Int) != 32) = false := by rw [hs]; rfl
          rcases Nat.eq_zero_or_pos k with hk0 | hk0
          · subst hk0
            have hs3 := hid (hsk.out hb hs (fun h => absurd h (Nat.lt_irrefl 0)))
            simp only [Nat.zero_mul, Nat.add_zero] at d0 d1
            clear hsk hnk hs hb hall
            replace hBk := hid hBk
            generalize l[0] = x at *
            obtain ⟨xb, xt⟩ := x
            dsimp only at *
            have kx := Blk.new wr #[.int .i64 xb, .string xt] 68
            have x0 := kx.cell 0; have x1 := kx.cell 1
            simp only [List.getElem?_toArray, List.getElem?_cons_zero, List.getElem?_cons_succ] at x0 x1
            go_wp2
            refine wp_region_below (by kernel_rfl) (by kernel_rfl) ?_
            repeat (go_big_quiet_step ((go_at_call 46; exact BW.call_same (hBk.out _))))
            refine wpQuiet_nil ?_
            intro _ hw'
            obtain ⟨⟨wq, hq⟩, rfl⟩ := hw'
            go_wp2
            go_roundw
            case rel => exact ⟨1, by omega, by go_num, hs3, (bal nx _).trans (hq.mono (by have := nx.size; simp; omega))⟩
            case measure => simp [intOf]; omega
          · obtain ⟨j, rfl⟩ : ∃ j, k = j + 1 := ⟨k - 1, by omega⟩
            have hlj : j < l.length := by omega
            obtain ⟨b2, off2, hbb, d2, d3⟩ := RL.at2 (fun x => .int .i64 x.block) (fun x => .string x.text) (fun _ => rfl) (h.out.below nx) hlj
            simp only [Option.some.injEq, Addr.mk.injEq] at hbb
            obtain ⟨rfl, rfl, _⟩ := hbb
            have e1 : j + 1 - 1 = j := by omega
            by_cases hlt2 : l[j].block < l[j + 1].block
            · have hs3 := hid (hsk.out hb hs (fun h => hlt2))
              clear hsk hnk hs hb hall
              replace hBk := hid hBk
              generalize l[j + 1] = x at *
              generalize l[j] = y at *
              obtain ⟨xb, xt⟩ := x
              obtain ⟨yb, yt⟩ := y
              dsimp only at *
              have kx := Blk.new wr #[.int .i64 xb, .string xt] 68
              have x0 := kx.cell 0; have x1 := kx.cell 1
              simp only [List.getElem?_toArray, List.getElem?_cons_zero, List.getElem?_cons_succ] at x0 x1
              have lt1 := World.block_lt_of_cell? _ _ d2
              dsimp only at lt1
              go_wp2
              refine wp_region_below (by kernel_rfl) (by kernel_rfl) ?_
              repeat (go_big_quiet_step ((go_at_call 46; exact BW.call_same (hBk.out _))))
              refine wpQuiet_nil ?_
              intro _ hw'
              obtain ⟨⟨wq, hq⟩, rfl⟩ := hw'
              go_wp2
              go_roundw
              case rel => exact ⟨j + 1 + 1, by omega, by go_num, hs3, (bal nx _).trans (hq.mono (by have := nx.size; simp; omega))⟩
              case measure => simp [intOf]; omega
            · have hv := hnk.out (fun hh => hlt2 (hh.2.2 (by omega)))
              subst hv
              clear hsk hnk hs hb hall
              replace hBk := hid hBk
              generalize l[j + 1] = x at *
              generalize l[j] = y at *
              obtain ⟨xb, xt⟩ := x
              obtain ⟨yb, yt⟩ := y
              dsimp only at *
              have kx := Blk.new wr #[.int .i64 xb, .string xt] 68
              have x0 := kx.cell 0; have x1 := kx.cell 1
              simp only [List.getElem?_toArray, List.getElem?_cons_zero, List.getElem?_cons_succ] at x0 x1
              have lt1 := World.block_lt_of_cell? _ _ d2
              dsimp only at lt1
              go_wp2
              refine wp_region_below (by kernel_rfl) (by kernel_rfl) ?_
              repeat (go_big_quiet_step ((go_at_call 46; exact BW.call_same (hBk.out _))))
              refine wpQuiet_nil ?_
              intro _ hw'
              obtain ⟨⟨wq, hq⟩, rfl⟩ := hw'
              go_wp2
              go_ret
              exact ⟨rfl, (bal nx _).trans (hq.mono (by have := nx.size; simp; omega))⟩
        · have hv := hnk.out (fun hh => hs hh.2.1)
          subst hv
          have hs2 : ((l[k].text.size : Int) != 32) = true := bne_iff_ne.2 (by omega)
          clear hsk hnk hs hb hall
          replace hBk := hid hBk
          generalize l[k] = x at *
          obtain ⟨xb, xt⟩ := x
          dsimp only at *
          have kx := Blk.new wr #[.int .i64 xb, .string xt] 68
          have x0 := kx.cell 0; have x1 := kx.cell 1
          simp only [List.getElem?_toArray, List.getElem?_cons_zero, List.getElem?_cons_succ] at x0 x1
          go_wp2
          refine wp_region_below (by kernel_rfl) (by kernel_rfl) ?_
          repeat (go_big_quiet_step ((go_at_call 46; exact BW.call_same (hBk.out _))))
          refine wpQuiet_nil ?_
          intro _ hw'
          obtain ⟨⟨wq, hq⟩, rfl⟩ := hw'
          go_wp2
          go_ret
          exact ⟨rfl, (bal nx _).trans (hq.mono (by have := nx.size; simp; omega))⟩
      · have hv := hnk.out (fun hh => hb hh.1)
        subst hv
        rw [Bool.not_eq_true] at hb
        rw [hb] at hBk
        clear hsk hnk hb hall
        replace hBk := hid hBk
        generalize l[k] = x at *
        obtain ⟨xb, xt⟩ := x
        dsimp only at *
        have kx := Blk.new wr #[.int .i64 xb, .string xt] 68
        have x0 := kx.cell 0; have x1 := kx.cell 1
        simp only [List.getElem?_toArray, List.getElem?_cons_zero, List.getElem?_cons_succ] at x0 x1
        go_wp2
        refine wp_region_below (by kernel_rfl) (by kernel_rfl) ?_
        repeat (go_big_quiet_step ((go_at_call 46; exact BW.call_same (hBk.out _))))
        refine wpQuiet_nil ?_
        intro _ hw'
        obtain ⟨⟨wq, hq⟩, rfl⟩ := hw'
        go_wp2
        go_ret
        exact ⟨rfl, (bal nx _).trans (hq.mono (by have := nx.size; simp; omega))⟩
    · have hv := hci.out.2 (fun j hj => hall.out j (by omega))
      subst hv
      clear hall
      go_wp2
      go_ret
      exact ⟨rfl, nx⟩
end Go.Proofs.Ytjhmfljlclajnac

namespace Wb
open Go Go.RowKit
theorem apart_rev {t : Txn} {k : Nat} (hk : k < t.rev.length) (h : (!hasB t.mt t.rev[k] && !hasB t.dt t.rev[k]) = false) : apart t = false := by
  unfold apart
  rw [all_no (p := fun b => !hasB t.mt b && !hasB t.dt b) hk h]
  rfl
theorem apart_mt {t : Txn} {k : Nat} (hk : k < t.mt.length) (h : (!hasB t.dt t.mt[k].block) = false) : apart t = false := by
  unfold apart
  rw [all_no (p := fun c : Cpy => !hasB t.dt c.block) hk h, Bool.and_false]
theorem apart_yes {t : Txn} (h1 : ∀ k (hk : k < t.rev.length), (!hasB t.mt t.rev[k] && !hasB t.dt t.rev[k]) = true) (h2 : ∀ k (hk : k < t.mt.length), (!hasB t.dt t.mt[k].block) = true) : apart t = true := by
  unfold apart
  rw [Bool.and_eq_true, List.all_eq_true, List.all_eq_true]
  refine ⟨fun x hx => ?_, fun x hx => ?_⟩
  · obtain ⟨k, hk, rfl⟩ := List.mem_iff_getElem.1 hx
    exact h1 k hk
  · obtain ⟨k, hk, rfl⟩ := List.mem_iff_getElem.1 hx
    exact h2 k hk
end Wb
namespace Go.Proofs.Ytjhmfljlclajnac
open Go.RowKit Wb
set_option linter.unusedVariables false
set_option linter.unusedSimpArgs false
set_option maxRecDepth 100000
set_option maxHeartbeats 16000000
theorem idx3 (w : World) (o0 o1 o2 : Bool) (l0 l1 l2 : Int) :
    (Instr.index 26 (.agg #[.bool o0, .int .i64 l0, .bool o1, .int .i64 l1, .bool o2, .int .i64 l2]) (.int .i64 0)).run Try.prog w = .ok (.agg #[.bool o0, .int .i64 l0]) w ∧
    (Instr.index 26 (.agg #[.bool o0, .int .i64 l0, .bool o1, .int .i64 l1, .bool o2, .int .i64 l2]) (.int .i64 1)).run Try.prog w = .ok (.agg #[.bool o1, .int .i64 l1]) w ∧
    (Instr.index 26 (.agg #[.bool o0, .int .i64 l0, .bool o1, .int .i64 l1, .bool o2, .int .i64 l2]) (.int .i64 2)).run Try.prog w = .ok (.agg #[.bool o2, .int .i64 l2]) w :=
  ⟨by kernel_rfl, by kernel_rfl, by kernel_rfl⟩

theorem txn_Good (t : Txn) (v : Value) (w : World) (h : RTxn w v t) :
    Calls Try.prog 20 #[v] w fun e w' => e = .returned (.bool (goodT t)) ∧ Below w.heap.size w w' := by
  obtain ⟨vm, vd, vr, rfl, hm, hd, hr, n1, n2, n3⟩ := h
  obtain ⟨am, cm, rfl, _⟩ := hm.form
  obtain ⟨ad, cd, rfl, _⟩ := hd.form
  obtain ⟨ar, cr, rfl, _⟩ := hr.form
  have hng := fun hh => notGood' (t := t) hh
  have hyes := fun h1 h2 h3 h4 h5 h6 h7 h8 => (goodT_iff t).2 ⟨h1, h2, h3, h4, h5, h6, h7, h8⟩
  have hi3 := fun w => idx3 w t.h0.on t.h1.on t.h2.on t.h0.left t.h1.left t.h2.left
  have hCm := fun w' (nx : Below w.heap.size w w') => txn_copies t.mt _ w' (hm.below nx) n1
  have hCd := fun w' (nx : Below w.heap.size w w') => txn_copies t.dt _ w' (hd.below nx) n2
  have har := fun k hk hh => apart_rev (t := t) (k := k) hk hh
  have ham := fun k hk hh => apart_mt (t := t) (k := k) hk hh
  have hay := fun h1 h2 => apart_yes (t := t) h1 h2
  unfold txnV
  generalize goodT t = gT at *
  have k0 := Blk.new w #[.int .i64 t.seq, .slice am t.mt.length cm, .slice ad t.dt.length cd, .slice ar t.rev.length cr, .bool t.h0.on, .int .i64 t.h0.left, .bool t.h1.on, .int .i64 t.h1.left, .bool t.h2.on, .int .i64 t.h2.left] 28
  have nx := bal (b0 w) (.cells #[.int .i64 t.seq, .slice am t.mt.length cm, .slice ad t.dt.length cd, .slice ar t.rev.length cr, .bool t.h0.on, .int .i64 t.h0.left, .bool t.h1.on, .int .i64 t.h1.left, .bool t.h2.on, .int .i64 t.h2.left] 28)
  have e0 := k0.cell 0; have e1 := k0.cell 1; have e2 := k0.cell 2; have e3 := k0.cell 3; have e4 := k0.cell 4; have e5 := k0.cell 5; have e6 := k0.cell 6; have e7 := k0.cell 7; have e8 := k0.cell 8; have e9 := k0.cell 9; simp only [List.getElem?_toArray, List.getElem?_cons_zero, List.getElem?_cons_succ] at e0 e1 e2 e3 e4 e5 e6 e7 e8 e9; have l0 := k0.lt
  replace hm := hid hm; replace hd := hid hd; replace hr := hid hr; replace hng := hid hng; replace hyes := hid hyes; replace hi3 := hid hi3; replace har := hid har; replace ham := hid ham; replace hay := hid hay
  have COPM := hid hCm; have COPD := hid hCd
  clear hCm hCd
  by_cases hs1 : t.seq < 1
  · have hv := hid (hng.out (.inl (decide_eq_false (by omega))))
    go_enter Try.func20, Try.ntmps20
    go_wp2
    go_ret
    exact ⟨ret_b hv.out.symm, nx⟩
  by_cases hs2 : 2147483647 < t.seq
  · have hv := hid (hng.out (.inl (decide_eq_false (by omega))))
    go_enter Try.func20, Try.ntmps20
    go_wp2
    go_ret
    exact ⟨ret_b hv.out.symm, nx⟩
  have hsq : seqOk t.seq = true := decide_eq_true (by omega)
  cases hcm : copiesB t.mt with
  | false =>
    have hv := hid (hng.out (.inr (.inl hcm)))
    have C1 := COPM.out _ nx
    rw [hcm] at C1
    replace C1 := hid C1
    clear hcm
    go_enter Try.func20, Try.ntmps20
    go_wp2_with (go_at_call_of 45 (Value.slice am t.mt.length cm); go_loud ((with_reducible refine C1.out.mono ?_); rintro e w1 ⟨rfl, hb1⟩; replace nx := bgo nx hb1))
    go_ret
    exact ⟨ret_b hv.out.symm, nx⟩
  | true =>
  have C1 := COPM.out _ nx
  rw [hcm] at C1
  cases hcd : copiesB t.dt with
  | false =>
    have hv := hid (hng.out (.inr (.inr (.inl hcd))))
    have C2 := fun w' nx => COPD.out w' nx
    rw [hcd] at C2
    replace C1 := hid C1; replace C2 := hid C2
    clear hcm hcd
    go_enter Try.func20, Try.ntmps20
    go_wp2_with (go_at_call_of 45 (Value.slice am t.mt.length cm); go_loud ((with_reducible refine C1.out.mono ?_); rintro e w1 ⟨rfl, hb1⟩; replace k0 := k0.step hb1; replace nx := bgo nx hb1; clear e0 e1 e2 e3 e4 e5 e6 e7 e8 e9 l0; have e0 := k0.cell 0; have e1 := k0.cell 1; have e2 := k0.cell 2; have e3 := k0.cell 3; have e4 := k0.cell 4; have e5 := k0.cell 5; have e6 := k0.cell 6; have e7 := k0.cell 7; have e8 := k0.cell 8; have e9 := k0.cell 9; simp only [List.getElem?_toArray, List.getElem?_cons_zero, List.getElem?_cons_succ] at e0 e1 e2 e3 e4 e5 e6 e7 e8 e9; have l0 := k0.lt))
    go_wp2_with (go_at_call_of 45 (Value.slice ad t.dt.length cd); go_loud ((with_reducible refine (C2.out _ nx).mono ?_); rintro e w1 ⟨rfl, hb1⟩; replace nx := bgo nx hb1))
    go_ret
    exact ⟨ret_b hv.out.symm, nx⟩
  | true =>
  have C2 := fun w' nx => COPD.out w' nx
  rw [hcd] at C2
  replace C1 := hid C1; replace C2 := hid C2
  have hcm' := hid hcm; have hcd' := hid hcd
  have hcm : rise (blks t.mt) = true := by unfold copiesB at hcm; rw [Bool.and_eq_true] at hcm; exact hcm.1
  have hcd : rise (blks t.dt) = true := by unfold copiesB at hcd; rw [Bool.and_eq_true] at hcd; exact hcd.1
  replace hcm := hid hcm; replace hcd := hid hcd; replace hsq := hid hsq
  clear COPM COPD
  go_enter Try.func20, Try.ntmps20
  go_wp2_with (go_at_call_of 45 (Value.slice am t.mt.length cm); go_loud ((with_reducible refine C1.out.mono ?_); rintro e w1 ⟨rfl, hb1⟩; replace k0 := k0.step hb1; replace nx := bgo nx hb1; clear e0 e1 e2 e3 e4 e5 e6 e7 e8 e9 l0; have e0 := k0.cell 0; have e1 := k0.cell 1; have e2 := k0.cell 2; have e3 := k0.cell 3; have e4 := k0.cell 4; have e5 := k0.cell 5; have e6 := k0.cell 6; have e7 := k0.cell 7; have e8 := k0.cell 8; have e9 := k0.cell 9; simp only [List.getElem?_toArray, List.getElem?_cons_zero, List.getElem?_cons_succ] at e0 e1 e2 e3 e4 e5 e6 e7 e8 e9; have l0 := k0.lt))
  go_wp2_with (go_at_call_of 45 (Value.slice ad t.dt.length cd); go_loud ((with_reducible refine (C2.out _ nx).mono ?_); rintro e w2 ⟨rfl, hb2⟩; replace k0 := k0.step hb2; replace nx := bgo nx hb2; clear e0 e1 e2 e3 e4 e5 e6 e7 e8 e9 l0; have e0 := k0.cell 0; have e1 := k0.cell 1; have e2 := k0.cell 2; have e3 := k0.cell 3; have e4 := k0.cell 4; have e5 := k0.cell 5; have e6 := k0.cell 6; have e7 := k0.cell 7; have e8 := k0.cell 8; have e9 := k0.cell 9; simp only [List.getElem?_toArray, List.getElem?_cons_zero, List.getElem?_cons_succ] at e0 e1 e2 e3 e4 e5 e6 e7 e8 e9; have l0 := k0.lt))
  clear C1 C2 hb1 hb2
  go_loopw [3, 4, 32] (fun _ _ i wr => ∃ k : Nat, k ≤ t.rev.length ∧ i = .int .i64 k ∧ Hid (riseTo t.rev k) ∧ Hid (∀ j, j < k → ∀ (hj : j < t.rev.length), (!hasB t.mt t.rev[j] && !hasB t.dt t.rev[j]) = true) ∧ Blk wr w.heap.size #[.int .i64 t.seq, .slice am t.mt.length cm, .slice ad t.dt.length cd, .slice ar t.rev.length cr, .bool t.h0.on, .int .i64 t.h0.left, .bool t.h1.on, .int .i64 t.h1.left, .bool t.h2.on, .int .i64 t.h2.left] 28 ∧ Below w.heap.size w wr) (fun _ _ i _ => t.rev.length - (intOf i).toNat)
  case atStart => exact ⟨0, Nat.zero_le _, rfl, hid (fun j hj => absurd hj (Nat.not_lt_zero j)), hid (fun j hj => absurd hj (Nat.not_lt_zero j)), k0, nx⟩
  case round =>
    clear k0 nx e0 e1 e2 e3 e4 e5 e6 e7 e8 e9 l0
    obtain ⟨k, hk, rfl, hri, hap, k0, nx⟩ := hrel
    have e0 := k0.cell 0; have e1 := k0.cell 1; have e2 := k0.cell 2; have e3 := k0.cell 3; have e4 := k0.cell 4; have e5 := k0.cell 5; have e6 := k0.cell 6; have e7 := k0.cell 7; have e8 := k0.cell 8; have e9 := k0.cell 9; simp only [List.getElem?_toArray, List.getElem?_cons_zero, List.getElem?_cons_succ] at e0 e1 e2 e3 e4 e5 e6 e7 e8 e9; have l0 := k0.lt
    by_cases hlt : k < t.rev.length
    · obtain ⟨b1, o1, rfl, d0⟩ := RL.at1 (fun x => .int .i64 x) (fun _ => rfl) (hr.out.below nx) hlt
      have hgd : t.rev.getD k 0 = t.rev[k] := by simp [hlt]
      have hno := hid (show ¬ riseAt t.rev k → gT = false from fun hh => hng.out (.inr (.inr (.inr (.inl (rise_no hlt hh))))))
      have hnA := hid (show (!hasB t.mt t.rev[k] && !hasB t.dt t.rev[k]) = false → gT = false from fun hh => hng.out (.inr (.inr (.inr (.inr (.inl (har.out k hlt hh)))))))
      have hyA := hid (show (!hasB t.mt t.rev[k] && !hasB t.dt t.rev[k]) = true → ∀ j, j < k + 1 → ∀ (hj : j < t.rev.length), (!hasB t.mt t.rev[j] && !hasB t.dt t.rev[j]) = true from fun hh j hj hj2 => by
        by_cases e : j = k
        · subst e; exact hh
        · exact hap.out j (by omega) hj2)
      have hBk := txn_block t.rev[k]
      by_cases hb : isBlk t.rev[k] = true
      · have hb' := of_decide_eq_true hb
        have hBk := fun w => hBk w
        rw [hb] at hBk
        replace hBk := hid hBk
        rcases Nat.eq_zero_or_pos k with hk0 | hk0
        · subst hk0
          have hr1 := hid (riseTo_succ hri.out (show riseAt t.rev 0 from by unfold riseAt; rw [hgd]; exact ⟨hb'.1, hb'.2, fun h => absurd h (Nat.lt_irrefl 0)⟩))
          simp only [Nat.add_zero] at d0
          clear hno hgd hb hb' hri hap
          generalize t.rev[0] = x at *
          have hMb := hid (fun w' (nx : Below w.heap.size w w') => txn_has t.mt x _ w' hcm.out (hm.out.below nx) n1)
          have hDb := hid (fun w' (nx : Below w.heap.size w w') => txn_has t.dt x _ w' hcd.out (hd.out.below nx) n2)
          by_cases hh1 : hasB t.mt x = true
          · have hv := hid (hnA.out (by rw [hh1]; rfl))
            have hMb := hid (fun w' nx => by have := hMb.out w' nx; rwa [hh1] at this)
            clear hh1 hDb hnA hyA
            go_wp2_with (go_at_call 46; go_loud ((with_reducible refine (hBk.out _).mono ?_); rintro e w1 ⟨rfl, rfl⟩))
            go_wp2_with (go_at_call_of 24 (Value.slice am t.mt.length cm); go_loud ((with_reducible refine (hMb.out _ nx).mono ?_); rintro e w2 ⟨rfl, hb2⟩; replace k0 := k0.step hb2; replace nx := bgo nx hb2; clear e0 e1 e2 e3 e4 e5 e6 e7 e8 e9 l0; have e0 := k0.cell 0; have e1 := k0.cell 1; have e2 := k0.cell 2; have e3 := k0.cell 3; have e4 := k0.cell 4; have e5 := k0.cell 5; have e6 := k0.cell 6; have e7 := k0.cell 7; have e8 := k0.cell 8; have e9 := k0.cell 9; simp only [List.getElem?_toArray, List.getElem?_cons_zero, List.getElem?_cons_succ] at e0 e1 e2 e3 e4 e5 e6 e7 e8 e9; have l0 := k0.lt))
            go_ret
            exact ⟨ret_b hv.out.symm, nx⟩
          · rw [Bool.not_eq_true] at hh1
            have hMb := hid (fun w' nx => by have := hMb.out w' nx; rwa [hh1] at this)
            by_cases hh2 : hasB t.dt x = true
            · have hv := hid (hnA.out (by rw [hh1, hh2]; rfl))
              have hDb := hid (fun w' nx => by have := hDb.out w' nx; rwa [hh2] at this)
              clear hh1 hh2 hnA hyA
              go_wp2_with (go_at_call 46; go_loud ((with_reducible refine (hBk.out _).mono ?_); rintro e w1 ⟨rfl, rfl⟩))
              go_wp2_with (go_at_call_of 24 (Value.slice am t.mt.length cm); go_loud ((with_reducible refine (hMb.out _ nx).mono ?_); rintro e w2 ⟨rfl, hb2⟩; replace k0 := k0.step hb2; replace nx := bgo nx hb2; clear e0 e1 e2 e3 e4 e5 e6 e7 e8 e9 l0; have e0 := k0.cell 0; have e1 := k0.cell 1; have e2 := k0.cell 2; have e3 := k0.cell 3; have e4 := k0.cell 4; have e5 := k0.cell 5; have e6 := k0.cell 6; have e7 := k0.cell 7; have e8 := k0.cell 8; have e9 := k0.cell 9; simp only [List.getElem?_toArray, List.getElem?_cons_zero, List.getElem?_cons_succ] at e0 e1 e2 e3 e4 e5 e6 e7 e8 e9; have l0 := k0.lt))
              go_wp2_with (go_at_call_of 24 (Value.slice ad t.dt.length cd); go_loud ((with_reducible refine (hDb.out _ nx).mono ?_); rintro e w2 ⟨rfl, hb2⟩; replace k0 := k0.step hb2; replace nx := bgo nx hb2; clear e0 e1 e2 e3 e4 e5 e6 e7 e8 e9 l0; have e0 := k0.cell 0; have e1 := k0.cell 1; have e2 := k0.cell 2; have e3 := k0.cell 3; have e4 := k0.cell 4; have e5 := k0.cell 5; have e6 := k0.cell 6; have e7 := k0.cell 7; have e8 := k0.cell 8; have e9 := k0.cell 9; simp only [List.getElem?_toArray, List.getElem?_cons_zero, List.getElem?_cons_succ] at e0 e1 e2 e3 e4 e5 e6 e7 e8 e9; have l0 := k0.lt))
              go_ret
              exact ⟨ret_b hv.out.symm, nx⟩
            · rw [Bool.not_eq_true] at hh2
              have hDb := hid (fun w' nx => by have := hDb.out w' nx; rwa [hh2] at this)
              have hy := hid (hyA.out (by rw [hh1, hh2]; rfl))
              clear hh1 hh2 hnA hyA
              go_wp2_with (go_at_call 46; go_loud ((with_reducible refine (hBk.out _).mono ?_); rintro e w1 ⟨rfl, rfl⟩))
              go_wp2_with (go_at_call_of 24 (Value.slice am t.mt.length cm); go_loud ((with_reducible refine (hMb.out _ nx).mono ?_); rintro e w2 ⟨rfl, hb2⟩; replace k0 := k0.step hb2; replace nx := bgo nx hb2; clear e0 e1 e2 e3 e4 e5 e6 e7 e8 e9 l0; have e0 := k0.cell 0; have e1 := k0.cell 1; have e2 := k0.cell 2; have e3 := k0.cell 3; have e4 := k0.cell 4; have e5 := k0.cell 5; have e6 := k0.cell 6; have e7 := k0.cell 7; have e8 := k0.cell 8; have e9 := k0.cell 9; simp only [List.getElem?_toArray, List.getElem?_cons_zero, List.getElem?_cons_succ] at e0 e1 e2 e3 e4 e5 e6 e7 e8 e9; have l0 := k0.lt))
              go_wp2_with (go_at_call_of 24 (Value.slice ad t.dt.length cd); go_loud ((with_reducible refine (hDb.out _ nx).mono ?_); rintro e w2 ⟨rfl, hb2⟩; replace k0 := k0.step hb2; replace nx := bgo nx hb2; clear e0 e1 e2 e3 e4 e5 e6 e7 e8 e9 l0; have e0 := k0.cell 0; have e1 := k0.cell 1; have e2 := k0.cell 2; have e3 := k0.cell 3; have e4 := k0.cell 4; have e5 := k0.cell 5; have e6 := k0.cell 6; have e7 := k0.cell 7; have e8 := k0.cell 8; have e9 := k0.cell 9; simp only [List.getElem?_toArray, List.getElem?_cons_zero, List.getElem?_cons_succ] at e0 e1 e2 e3 e4 e5 e6 e7 e8 e9; have l0 := k0.lt))
              go_roundw
              case rel => exact ⟨0 + 1, by omega, by go_num, hr1, hy, k0, nx⟩
              case measure => simp [intOf]; omega
        · obtain ⟨j, rfl⟩ : ∃ j, k = j + 1 := ⟨k - 1, by omega⟩
          have hlj : j < t.rev.length := by omega
          obtain ⟨b2, off2, hbb, d2⟩ := RL.at1 (fun x => .int .i64 x) (fun _ => rfl) (hr.out.below nx) hlj
          simp only [Option.some.injEq, Addr.mk.injEq] at hbb
          obtain ⟨rfl, rfl, _⟩ := hbb
          have hgj : t.rev.getD j 0 = t.rev[j] := by simp [hlj]
          have hiff : riseAt t.rev (j + 1) ↔ t.rev[j] < t.rev[j + 1] := by
            unfold riseAt
            rw [hgd, Nat.add_sub_cancel, hgj]
            exact ⟨fun h => h.2.2 (by omega), fun h => ⟨hb'.1, hb'.2, fun _ => h⟩⟩
          by_cases hlt2 : t.rev[j] < t.rev[j + 1]
          · have hr1 := hid (riseTo_succ hri.out (hiff.2 hlt2))
            clear hno hgd hgj hb hb' hri hap hiff
            generalize t.rev[j + 1] = x at *
            generalize t.rev[j] = y at *
            have hMb := hid (fun w' (nx : Below w.heap.size w w') => txn_has t.mt x _ w' hcm.out (hm.out.below nx) n1)
            have hDb := hid (fun w' (nx : Below w.heap.size w w') => txn_has t.dt x _ w' hcd.out (hd.out.below nx) n2)
            by_cases hh1 : hasB t.mt x = true
            · have hv := hid (hnA.out (by rw [hh1]; rfl))
              have hMb := hid (fun w' nx => by have := hMb.out w' nx; rwa [hh1] at this)
              clear hh1 hDb hnA hyA
              go_wp2_with (go_at_call 46; go_loud ((with_reducible refine (hBk.out _).mono ?_); rintro e w1 ⟨rfl, rfl⟩))
              go_wp2_with (go_at_call_of 24 (Value.slice am t.mt.length cm); go_loud ((with_reducible refine (hMb.out _ nx).mono ?_); rintro e w2 ⟨rfl, hb2⟩; replace k0 := k0.step hb2; replace nx := bgo nx hb2; clear e0 e1 e2 e3 e4 e5 e6 e7 e8 e9 l0; have e0 := k0.cell 0; have e1 := k0.cell 1; have e2 := k0.cell 2; have e3 := k0.cell 3; have e4 := k0.cell 4; have e5 := k0.cell 5; have e6 := k0.cell 6; have e7 := k0.cell 7; have e8 := k0.cell 8; have e9 := k0.cell 9; simp only [List.getElem?_toArray, List.getElem?_cons_zero, List.getElem?_cons_succ] at e0 e1 e2 e3 e4 e5 e6 e7 e8 e9; have l0 := k0.lt))
              go_ret
              exact ⟨ret_b hv.out.symm, nx⟩
            · rw [Bool.not_eq_true] at hh1
              have hMb := hid (fun w' nx => by have := hMb.out w' nx; rwa [hh1] at this)
              by_cases hh2 : hasB t.dt x = true
              · have hv := hid (hnA.out (by rw [hh1, hh2]; rfl))
                have hDb := hid (fun w' nx => by have := hDb.out w' nx; rwa [hh2] at this)
                clear hh1 hh2 hnA hyA
                go_wp2_with (go_at_call 46; go_loud ((with_reducible refine (hBk.out _).mono ?_); rintro e w1 ⟨rfl, rfl⟩))
                go_wp2_with (go_at_call_of 24 (Value.slice am t.mt.length cm); go_loud ((with_reducible refine (hMb.out _ nx).mono ?_); rintro e w2 ⟨rfl, hb2⟩; replace k0 := k0.step hb2; replace nx := bgo nx hb2; clear e0 e1 e2 e3 e4 e5 e6 e7 e8 e9 l0; have e0 := k0.cell 0; have e1 := k0.cell 1; have e2 := k0.cell 2; have e3 := k0.cell 3; have e4 := k0.cell 4; have e5 := k0.cell 5; have e6 := k0.cell 6; have e7 := k0.cell 7; have e8 := k0.cell 8; have e9 := k0.cell 9; simp only [List.getElem?_toArray, List.getElem?_cons_zero, List.getElem?_cons_succ] at e0 e1 e2 e3 e4 e5 e6 e7 e8 e9; have l0 := k0.lt))
                go_wp2_with (go_at_call_of 24 (Value.slice ad t.dt.length cd); go_loud ((with_reducible refine (hDb.out _ nx).mono ?_); rintro e w2 ⟨rfl, hb2⟩; replace k0 := k0.step hb2; replace nx := bgo nx hb2; clear e0 e1 e2 e3 e4 e5 e6 e7 e8 e9 l0; have e0 := k0.cell 0; have e1 := k0.cell 1; have e2 := k0.cell 2; have e3 := k0.cell 3; have e4 := k0.cell 4; have e5 := k0.cell 5; have e6 := k0.cell 6; have e7 := k0.cell 7; have e8 := k0.cell 8; have e9 := k0.cell 9; simp only [List.getElem?_toArray, List.getElem?_cons_zero, List.getElem?_cons_succ] at e0 e1 e2 e3 e4 e5 e6 e7 e8 e9; have l0 := k0.lt))
                go_ret
                exact ⟨ret_b hv.out.symm, nx⟩
              · rw [Bool.not_eq_true] at hh2
                have hDb := hid (fun w' nx => by have := hDb.out w' nx; rwa [hh2] at this)
                have hy := hid (hyA.out (by rw [hh1, hh2]; rfl))
                clear hh1 hh2 hnA hyA
                go_wp2_with (go_at_call 46; go_loud ((with_reducible refine (hBk.out _).mono ?_); rintro e w1 ⟨rfl, rfl⟩))
                go_wp2_with (go_at_call_of 24 (Value.slice am t.mt.length cm); go_loud ((with_reducible refine (hMb.out _ nx).mono ?_); rintro e w2 ⟨rfl, hb2⟩; replace k0 := k0.step hb2; replace nx := bgo nx hb2; clear e0 e1 e2 e3 e4 e5 e6 e7 e8 e9 l0; have e0 := k0.cell 0; have e1 := k0.cell 1; have e2 := k0.cell 2; have e3 := k0.cell 3; have e4 := k0.cell 4; have e5 := k0.cell 5; have e6 := k0.cell 6; have e7 := k0.cell 7; have e8 := k0.cell 8; have e9 := k0.cell 9; simp only [List.getElem?_toArray, List.getElem?_cons_zero, List.getElem?_cons_succ] at e0 e1 e2 e3 e4 e5 e6 e7 e8 e9; have l0 := k0.lt))
                go_wp2_with (go_at_call_of 24 (Value.slice ad t.dt.length cd); go_loud ((with_reducible refine (hDb.out _ nx).mono ?_); rintro e w2 ⟨rfl, hb2⟩; replace k0 := k0.step hb2; replace nx := bgo nx hb2; clear e0 e1 e2 e3 e4 e5 e6 e7 e8 e9 l0; have e0 := k0.cell 0; have e1 := k0.cell 1; have e2 := k0.cell 2; have e3 := k0.cell 3; have e4 := k0.cell 4; have e5 := k0.cell 5; have e6 := k0.cell 6; have e7 := k0.cell 7; have e8 := k0.cell 8; have e9 := k0.cell 9; simp only [List.getElem?_toArray, List.getElem?_cons_zero, List.getElem?_cons_succ] at e0 e1 e2 e3 e4 e5 e6 e7 e8 e9; have l0 := k0.lt))
                go_roundw
                case rel => exact ⟨j + 1 + 1, by omega, by go_num, hr1, hy, k0, nx⟩
                case measure => simp [intOf]; omega
          · have hv := hid (hno.out (fun hh => hlt2 (hiff.1 hh)))
            clear hno hgd hgj hb hb' hri hap hiff hnA hyA
            generalize t.rev[j + 1] = x at *
            generalize t.rev[j] = y at *
            go_wp2_with (go_at_call 46; go_loud ((with_reducible refine (hBk.out _).mono ?_); rintro e w1 ⟨rfl, rfl⟩))
            go_ret
            exact ⟨ret_b hv.out.symm, nx⟩
      · have hv := hid (hno.out (fun hh => hb (by
          unfold riseAt at hh
          rw [hgd] at hh
          exact decide_eq_true ⟨hh.1, hh.2.1⟩)))
        rw [Bool.not_eq_true] at hb
        have hBk := fun w => hBk w
        rw [hb] at hBk
        replace hBk := hid hBk
        clear hno hgd hb hri hap hnA hyA
        generalize t.rev[k] = x at *
        go_wp2_with (go_at_call 46; go_loud ((with_reducible refine (hBk.out _).mono ?_); rintro e w1 ⟨rfl, rfl⟩))
        go_ret
        exact ⟨ret_b hv.out.symm, nx⟩
    · obtain rfl : k = t.rev.length := by omega
      have hrise := hid ((rise_iff t.rev).2 hri.out)
      have hapr := hid (show ∀ j (hj : j < t.rev.length), (!hasB t.mt t.rev[j] && !hasB t.dt t.rev[j]) = true from fun j hj => hap.out j hj hj)
      clear hri hap
      go_wp2
      go_loopw [6, 70] (fun _ i wr => ∃ k : Nat, k ≤ t.mt.length ∧ i = .int .i64 k ∧ Hid (∀ j, j < k → ∀ (hj : j < t.mt.length), (!hasB t.dt t.mt[j].block) = true) ∧ Blk wr w.heap.size #[.int .i64 t.seq, .slice am t.mt.length cm, .slice ad t.dt.length cd, .slice ar t.rev.length cr, .bool t.h0.on, .int .i64 t.h0.left, .bool t.h1.on, .int .i64 t.h1.left, .bool t.h2.on, .int .i64 t.h2.left] 28 ∧ Below w.heap.size w wr) (fun _ i _ => t.mt.length - (intOf i).toNat)
      case atStart => exact ⟨0, Nat.zero_le _, rfl, hid (fun j hj => absurd hj (Nat.not_lt_zero j)), k0, nx⟩
      case round =>
        clear k0 nx e0 e1 e2 e3 e4 e5 e6 e7 e8 e9 l0
        obtain ⟨k, hk, rfl, hap, k0, nx⟩ := hrel
        have e0 := k0.cell 0; have e1 := k0.cell 1; have e2 := k0.cell 2; have e3 := k0.cell 3; have e4 := k0.cell 4; have e5 := k0.cell 5; have e6 := k0.cell 6; have e7 := k0.cell 7; have e8 := k0.cell 8; have e9 := k0.cell 9; simp only [List.getElem?_toArray, List.getElem?_cons_zero, List.getElem?_cons_succ] at e0 e1 e2 e3 e4 e5 e6 e7 e8 e9; have l0 := k0.lt
        by_cases hlt : k < t.mt.length
        · obtain ⟨b1, o1, rfl, d0, d1⟩ := RL.at2 (fun x => .int .i64 x.block) (fun x => .string x.text) (fun _ => rfl) (hm.out.below nx) hlt
          have hnA := hid (show (!hasB t.dt t.mt[k].block) = false → gT = false from fun hh => hng.out (.inr (.inr (.inr (.inr (.inl (ham.out k hlt hh)))))))
          have hyA := hid (show (!hasB t.dt t.mt[k].block) = true → ∀ j, j < k + 1 → ∀ (hj : j < t.mt.length), (!hasB t.dt t.mt[j].block) = true from fun hh j hj hj2 => by
            by_cases e : j = k
            · subst e; exact hh
            · exact hap.out j (by omega) hj2)
          generalize t.mt[k] = c at *
          obtain ⟨x, ct⟩ := c
          dsimp only at *
          have hDb := hid (fun w' (nx : Below w.heap.size w w') => txn_has t.dt x _ w' hcd.out (hd.out.below nx) n2)
          replace k0 := k0.alloc (.cells #[.int .i64 x, .string ct] 68)
          have nx' := nx
          replace nx := bal nx (.cells #[.int .i64 x, .string ct] 68)
          clear e0 e1 e2 e3 e4 e5 e6 e7 e8 e9 l0; have e0 := k0.cell 0; have e1 := k0.cell 1; have e2 := k0.cell 2; have e3 := k0.cell 3; have e4 := k0.cell 4; have e5 := k0.cell 5; have e6 := k0.cell 6; have e7 := k0.cell 7; have e8 := k0.cell 8; have e9 := k0.cell 9; simp only [List.getElem?_toArray, List.getElem?_cons_zero, List.getElem?_cons_succ] at e0 e1 e2 e3 e4 e5 e6 e7 e8 e9; have l0 := k0.lt
          have kx := Blk.new wr #[.int .i64 x, .string ct] 68
          have x0 := kx.cell 0
          simp only [List.getElem?_toArray, List.getElem?_cons_zero, List.getElem?_cons_succ] at x0
          by_cases hh2 : hasB t.dt x = true
          · have hv := hid (hnA.out (by rw [hh2]; rfl))
            have hDb := hid (fun w' nx => by have := hDb.out w' nx; rwa [hh2] at this)
            clear hh2 hnA hyA hap
            go_wp2_with (go_at_call_of 24 (Value.slice ad t.dt.length cd); go_loud ((with_reducible refine (hDb.out _ nx).mono ?_); rintro e w2 ⟨rfl, hb2⟩; replace k0 := k0.step hb2; replace nx := bgo nx hb2; clear e0 e1 e2 e3 e4 e5 e6 e7 e8 e9 l0; have e0 := k0.cell 0; have e1 := k0.cell 1; have e2 := k0.cell 2; have e3 := k0.cell 3; have e4 := k0.cell 4; have e5 := k0.cell 5; have e6 := k0.cell 6; have e7 := k0.cell 7; have e8 := k0.cell 8; have e9 := k0.cell 9; simp only [List.getElem?_toArray, List.getElem?_cons_zero, List.getElem?_cons_succ] at e0 e1 e2 e3 e4 e5 e6 e7 e8 e9; have l0 := k0.lt))
            go_ret
            exact ⟨ret_b hv.out.symm, nx⟩
          · rw [Bool.not_eq_true] at hh2
            have hDb := hid (fun w' nx => by have := hDb.out w' nx; rwa [hh2] at this)
            have hy := hid (hyA.out (by rw [hh2]; rfl))
            clear hh2 hnA hyA hap
            go_wp2_with (go_at_call_of 24 (Value.slice ad t.dt.length cd); go_loud ((with_reducible refine (hDb.out _ nx).mono ?_); rintro e w2 ⟨rfl, hb2⟩; replace k0 := k0.step hb2; replace nx := bgo nx hb2; clear e0 e1 e2 e3 e4 e5 e6 e7 e8 e9 l0; have e0 := k0.cell 0; have e1 := k0.cell 1; have e2 := k0.cell 2; have e3 := k0.cell 3; have e4 := k0.cell 4; have e5 := k0.cell 5; have e6 := k0.cell 6; have e7 := k0.cell 7; have e8 := k0.cell 8; have e9 := k0.cell 9; simp only [List.getElem?_toArray, List.getElem?_cons_zero, List.getElem?_cons_succ] at e0 e1 e2 e3 e4 e5 e6 e7 e8 e9; have l0 := k0.lt))
            go_roundw
            case rel => first | exact ⟨k + 1, by omega, by go_num, hy, k0, nx⟩ | ((repeat apply Exists.intro); refine ⟨⟨k + 1, by omega, ?_, hy, k0, nx⟩, rfl⟩; go_num)
            case measure => simp [intOf]; omega
        · obtain rfl : k = t.mt.length := by omega
          have hapm := hid (hay.out hapr.out (fun j hj => hap.out j hj hj))
          clear hap hapr
          go_wp2
          go_loopw [8, 82] (fun _ i wr => ∃ k : Nat, k ≤ 3 ∧ i = .int .i64 k ∧ Hid (∀ j, j < k → (if j = 0 then hOk t.h0 else if j = 1 then hOk t.h1 else hOk t.h2) = true) ∧ Blk wr w.heap.size #[.int .i64 t.seq, .slice am t.mt.length cm, .slice ad t.dt.length cd, .slice ar t.rev.length cr, .bool t.h0.on, .int .i64 t.h0.left, .bool t.h1.on, .int .i64 t.h1.left, .bool t.h2.on, .int .i64 t.h2.left] 28 ∧ Below w.heap.size w wr) (fun _ i _ => 3 - (intOf i).toNat)
          case atStart => exact ⟨0, by decide, rfl, hid (fun j hj => absurd hj (Nat.not_lt_zero j)), k0, nx⟩
          case round =>
            clear k0 nx e0 e1 e2 e3 e4 e5 e6 e7 e8 e9 l0
            obtain ⟨k, hk, rfl, hall, k0, nx⟩ := hrel
            have l0 := k0.lt
            by_cases hlt : k < 3
            · obtain (rfl | rfl | rfl) : k = 0 ∨ k = 1 ∨ k = 2 := by omega
              · have hi := hi3.out wr
                replace hi := hi.1
                have hof := hOk_iff' t.h0
                have hnh := fun hh => hng.out (.inr (.inr (.inr (.inr (.inr (.inl hh))))))
                generalize t.h0.on = o at *
                generalize hle : t.h0.left = lf at *
                replace hnh := hid hnh; replace hle := hid hle
                by_cases hoo : hOk t.h0 = true
                · obtain ⟨a1, a2, a3⟩ := hof.1 hoo
                  have hoo2 := hid hoo
                  have hall2 := hid (show ∀ j, j < 0 + 1 → (if j = 0 then hOk t.h0 else if j = 1 then hOk t.h1 else hOk t.h2) = true from by
                    intro j hj
                    by_cases e : j = 0
                    · subst e; exact hoo2.out
                    · exact hall.out j (by omega))
                  clear hof hoo
                  by_cases hz : lf = 0
                  · subst hz
                    cases o
                    · go_wp2
                      go_roundw
                      case rel => first | exact ⟨0 + 1, by decide, rfl, hall2, k0.alloc _, bal nx _⟩ | ((repeat apply Exists.intro); exact ⟨⟨0 + 1, by decide, rfl, hall2, k0.alloc _, bal nx _⟩, rfl⟩)
                      case measure => simp [intOf]
                    · go_wp2
                      go_roundw
                      case rel => first | exact ⟨0 + 1, by decide, rfl, hall2, k0.alloc _, bal nx _⟩ | ((repeat apply Exists.intro); exact ⟨⟨0 + 1, by decide, rfl, hall2, k0.alloc _, bal nx _⟩, rfl⟩)
                      case measure => simp [intOf]
                  · have ho : o = true := a3.resolve_right hz
                    have hz2 : 0 < lf := by omega
                    subst ho
                    clear hz a3
                    go_wp2
                    go_roundw
                    case rel => first | exact ⟨0 + 1, by decide, rfl, hall2, k0.alloc _, bal nx _⟩ | ((repeat apply Exists.intro); exact ⟨⟨0 + 1, by decide, rfl, hall2, k0.alloc _, bal nx _⟩, rfl⟩)
                    case measure => simp [intOf]
                · replace hoo : hOk t.h0 = false := by simpa using hoo
                  have hgf := hid (hnh.out hoo)
                  have hof2 : ¬ (0 ≤ lf ∧ lf ≤ 24 ∧ (o = true ∨ lf = 0)) := fun h => by rw [hof.2 h] at hoo; cases hoo
                  clear hof hoo
                  by_cases q1 : lf < 0
                  · clear hof2
                    go_wp2
                    go_ret
                    exact ⟨ret_b hgf.out.symm, bal nx _⟩
                  · by_cases q2 : 24 < lf
                    · clear hof2
                      go_wp2
                      go_ret
                      exact ⟨ret_b hgf.out.symm, bal nx _⟩
                    · have q3 : (lf != 0) = true := bne_iff_ne.2 (fun hz => hof2 ⟨by omega, by omega, .inr hz⟩)
                      have q4 : o = false := by
                        cases o
                        · rfl
                        · exact absurd ⟨by omega, by omega, .inl rfl⟩ hof2
                      subst q4
                      clear hof2
                      go_wp2
                      go_ret
                      exact ⟨ret_b hgf.out.symm, bal nx _⟩
              · have hi := hi3.out wr
                replace hi := hi.2.1
                have hof := hOk_iff' t.h1
                have hnh := fun hh => hng.out (.inr (.inr (.inr (.inr (.inr (.inr (.inl hh)))))))
                generalize t.h1.on = o at *
                generalize hle : t.h1.left = lf at *
                replace hnh := hid hnh; replace hle := hid hle
                by_cases hoo : hOk t.h1 = true
                · obtain ⟨a1, a2, a3⟩ := hof.1 hoo
                  have hoo2 := hid hoo
                  have hall2 := hid (show ∀ j, j < 1 + 1 → (if j = 0 then hOk t.h0 else if j = 1 then hOk t.h1 else hOk t.h2) = true from by
                    intro j hj
                    by_cases e : j = 1
                    · subst e; exact hoo2.out
                    · exact hall.out j (by omega))
                  clear hof hoo
                  by_cases hz : lf = 0
                  · subst hz
                    cases o
                    · go_wp2
                      go_roundw
                      case rel => first | exact ⟨1 + 1, by decide, rfl, hall2, k0.alloc _, bal nx _⟩ | ((repeat apply Exists.intro); exact ⟨⟨1 + 1, by decide, rfl, hall2, k0.alloc _, bal nx _⟩, rfl⟩)
                      case measure => simp [intOf]
                    · go_wp2
                      go_roundw
                      case rel => first | exact ⟨1 + 1, by decide, rfl, hall2, k0.alloc _, bal nx _⟩ | ((repeat apply Exists.intro); exact ⟨⟨1 + 1, by decide, rfl, hall2, k0.alloc _, bal nx _⟩, rfl⟩)
                      case measure => simp [intOf]
                  · have ho : o = true := a3.resolve_right hz
                    have hz2 : 0 < lf := by omega
                    subst ho
                    clear hz a3
                    go_wp2
                    go_roundw
                    case rel => first | exact ⟨1 + 1, by decide, rfl, hall2, k0.alloc _, bal nx _⟩ | ((repeat apply Exists.intro); exact ⟨⟨1 + 1, by decide, rfl, hall2, k0.alloc _, bal nx _⟩, rfl⟩)
                    case measure => simp [intOf]
                · replace hoo : hOk t.h1 = false := by simpa using hoo
                  have hgf := hid (hnh.out hoo)
                  have hof2 : ¬ (0 ≤ lf ∧ lf ≤ 24 ∧ (o = true ∨ lf = 0)) := fun h => by rw [hof.2 h] at hoo; cases hoo
                  clear hof hoo
                  by_cases q1 : lf < 0
                  · clear hof2
                    go_wp2
                    go_ret
                    exact ⟨ret_b hgf.out.symm, bal nx _⟩
                  · by_cases q2 : 24 < lf
                    · clear hof2
                      go_wp2
                      go_ret
                      exact ⟨ret_b hgf.out.symm, bal nx _⟩
                    · have q3 : (lf != 0) = true := bne_iff_ne.2 (fun hz => hof2 ⟨by omega, by omega, .inr hz⟩)
                      have q4 : o = false := by
                        cases o
                        · rfl
                        · exact absurd ⟨by omega, by omega, .inl rfl⟩ hof2
                      subst q4
                      clear hof2
                      go_wp2
                      go_ret
                      exact ⟨ret_b hgf.out.symm, bal nx _⟩
              · have hi := hi3.out wr
                replace hi := hi.2.2
                have hof := hOk_iff' t.h2
                have hnh := fun hh => hng.out (.inr (.inr (.inr (.inr (.inr (.inr (.inr hh)))))))
                generalize t.h2.on = o at *
                generalize hle : t.h2.left = lf at *
                replace hnh := hid hnh; replace hle := hid hle
                by_cases hoo : hOk t.h2 = true
                · obtain ⟨a1, a2, a3⟩ := hof.1 hoo
                  have hoo2 := hid hoo
                  have hall2 := hid (show ∀ j, j < 2 + 1 → (if j = 0 then hOk t.h0 else if j = 1 then hOk t.h1 else hOk t.h2) = true from by
                    intro j hj
                    by_cases e : j = 2
                    · subst e; exact hoo2.out
                    · exact hall.out j (by omega))
                  clear hof hoo
                  by_cases hz : lf = 0
                  · subst hz
                    cases o
                    · go_wp2
                      go_roundw
                      case rel => first | exact ⟨2 + 1, by decide, rfl, hall2, k0.alloc _, bal nx _⟩ | ((repeat apply Exists.intro); exact ⟨⟨2 + 1, by decide, rfl, hall2, k0.alloc _, bal nx _⟩, rfl⟩)
                      case measure => simp [intOf]
                    · go_wp2
                      go_roundw
                      case rel => first | exact ⟨2 + 1, by decide, rfl, hall2, k0.alloc _, bal nx _⟩ | ((repeat apply Exists.intro); exact ⟨⟨2 + 1, by decide, rfl, hall2, k0.alloc _, bal nx _⟩, rfl⟩)
                      case measure => simp [intOf]
                  · have ho : o = true := a3.resolve_right hz
                    have hz2 : 0 < lf := by omega
                    subst ho
                    clear hz a3
                    go_wp2
                    go_roundw
                    case rel => first | exact ⟨2 + 1, by decide, rfl, hall2, k0.alloc _, bal nx _⟩ | ((repeat apply Exists.intro); exact ⟨⟨2 + 1, by decide, rfl, hall2, k0.alloc _, bal nx _⟩, rfl⟩)
                    case measure => simp [intOf]
                · replace hoo : hOk t.h2 = false := by simpa using hoo
                  have hgf := hid (hnh.out hoo)
                  have hof2 : ¬ (0 ≤ lf ∧ lf ≤ 24 ∧ (o = true ∨ lf = 0)) := fun h => by rw [hof.2 h] at hoo; cases hoo
                  clear hof hoo
                  by_cases q1 : lf < 0
                  · clear hof2
                    go_wp2
                    go_ret
                    exact ⟨ret_b hgf.out.symm, bal nx _⟩
                  · by_cases q2 : 24 < lf
                    · clear hof2
                      go_wp2
                      go_ret
                      exact ⟨ret_b hgf.out.symm, bal nx _⟩
                    · have q3 : (lf != 0) = true := bne_iff_ne.2 (fun hz => hof2 ⟨by omega, by omega, .inr hz⟩)
                      have q4 : o = false := by
                        cases o
                        · rfl
                        · exact absurd ⟨by omega, by omega, .inl rfl⟩ hof2
                      subst q4
                      clear hof2
                      go_wp2
                      go_ret
                      exact ⟨ret_b hgf.out.symm, bal nx _⟩
            · obtain rfl : k = 3 := by omega
              have hv := hid (hyes.out hsq.out hcm'.out hcd'.out hrise.out hapm.out (hall.out 0 (by decide)) (hall.out 1 (by decide)) (hall.out 2 (by decide)))
              clear hall
              go_wp2
              go_ret
              exact ⟨ret_b hv.out.symm, nx⟩
end Go.Proofs.Ytjhmfljlclajnac

namespace Wb
open Go Go.RowKit
theorem w64 (x : Int) : RowKit.wrap64 x = IntKind.i64.wrap x := by
  first
    | rfl
    | (unfold RowKit.wrap64; rw [IntKind.wrap_i64])
    | (unfold RowKit.wrap64; simp [IntKind.wrap, IntKind.bits, IntKind.signed])
def askP (t : Txn) : Nat → Int
  | 0 => ((t.mt.length + t.rev.length : Nat) : Int)
  | 1 => IntKind.i64.wrap (((t.mt.length + t.rev.length : Nat) : Int) + t.h0.left)
  | 2 => IntKind.i64.wrap (IntKind.i64.wrap (((t.mt.length + t.rev.length : Nat) : Int) + t.h0.left) + t.h1.left)
  | _ => askedI t
end Wb
namespace Go.Proofs.Ytjhmfljlclajnac
open Go.RowKit Wb
set_option linter.unusedVariables false
set_option linter.unusedSimpArgs false
set_option maxRecDepth 100000
set_option maxHeartbeats 4000000
theorem txn_Asked (t : Txn) (v : Value) (w : World) (h : RTxn w v t) :
    Calls Try.prog 17 #[v] w fun e w' => e = .returned (.int .i64 (askedI t)) ∧ Below w.heap.size w w' := by
  obtain ⟨vm, vd, vr, rfl, hm, hd, hr, n1, n2, n3⟩ := h
  obtain ⟨am, cm, rfl, _⟩ := hm.form
  obtain ⟨ad, cd, rfl, _⟩ := hd.form
  obtain ⟨ar, cr, rfl, _⟩ := hr.form
  have hi3 := fun w => idx3 w t.h0.on t.h1.on t.h2.on t.h0.left t.h1.left t.h2.left
  have h0 : askP t 0 = (t.mt.length : Int) + (t.rev.length : Int) := by show ((t.mt.length + t.rev.length : Nat) : Int) = _; omega
  have h3 : askP t 3 = askedI t := rfl
  have hw : IntKind.i64.wrap ((t.mt.length : Int) + (t.rev.length : Int)) = (t.mt.length : Int) + (t.rev.length : Int) := IntWalk.i64_in _ (by omega)
  unfold txnV
  generalize askedI t = aI at *
  have k0 := Blk.new w #[.int .i64 t.seq, .slice am t.mt.length cm, .slice ad t.dt.length cd, .slice ar t.rev.length cr, .bool t.h0.on, .int .i64 t.h0.left, .bool t.h1.on, .int .i64 t.h1.left, .bool t.h2.on, .int .i64 t.h2.left] 28
  have nx := bal (b0 w) (.cells #[.int .i64 t.seq, .slice am t.mt.length cm, .slice ad t.dt.length cd, .slice ar t.rev.length cr, .bool t.h0.on, .int .i64 t.h0.left, .bool t.h1.on, .int .i64 t.h1.left, .bool t.h2.on, .int .i64 t.h2.left] 28)
  have e0 := k0.cell 0; have e1 := k0.cell 1; have e2 := k0.cell 2; have e3 := k0.cell 3; have e4 := k0.cell 4; have e5 := k0.cell 5; have e6 := k0.cell 6; have e7 := k0.cell 7; have e8 := k0.cell 8; have e9 := k0.cell 9; simp only [List.getElem?_toArray, List.getElem?_cons_zero, List.getElem?_cons_succ] at e0 e1 e2 e3 e4 e5 e6 e7 e8 e9; have l0 := k0.lt
  replace hi3 := hid hi3; replace h0 := hid h0; replace h3 := hid h3
  clear hm hd hr
  go_enter Try.func17, Try.ntmps17
  go_wp2
  go_loopw [3, 5, 15] (fun s _ i wr => ∃ k : Nat, k ≤ 3 ∧ i = .int .i64 k ∧ s = .int .i64 (askP t k) ∧ Blk wr w.heap.size #[.int .i64 t.seq, .slice am t.mt.length cm, .slice ad t.dt.length cd, .slice ar t.rev.length cr, .bool t.h0.on, .int .i64 t.h0.left, .bool t.h1.on, .int .i64 t.h1.left, .bool t.h2.on, .int .i64 t.h2.left] 28 ∧ Below w.heap.size w wr) (fun _ _ i _ => 3 - (intOf i).toNat)
  case atStart => exact ⟨0, by decide, rfl, by rw [h0.out], k0, nx⟩
  case round =>
    clear k0 nx e0 e1 e2 e3 e4 e5 e6 e7 e8 e9 l0
    obtain ⟨k, hk, rfl, rfl, k0, nx⟩ := hrel
    have l0 := k0.lt
    by_cases hlt : k < 3
    · obtain (rfl | rfl | rfl) : k = 0 ∨ k = 1 ∨ k = 2 := by omega
      · have hi := hi3.out wr
        replace hi := hi.1
        have hs := hid (show askP t (0 + 1) = RowKit.wrap64 (askP t 0 + t.h0.left) from (w64 _).symm)
        generalize askP t 0 = a0 at *
        go_wp2
        go_roundw
        case rel => first | exact ⟨0 + 1, by decide, rfl, by rw [hs.out], k0.alloc _, bal nx _⟩ | ((repeat apply Exists.intro); exact ⟨⟨0 + 1, by decide, rfl, by rw [hs.out], k0.alloc _, bal nx _⟩, rfl⟩)
        case measure => simp [intOf]
      · have hi := hi3.out wr
        replace hi := hi.2.1
        have hs := hid (show askP t (1 + 1) = RowKit.wrap64 (askP t 1 + t.h1.left) from (w64 _).symm)
        generalize askP t 1 = a0 at *
        go_wp2
        go_roundw
        case rel => first | exact ⟨1 + 1, by decide, rfl, by rw [hs.out], k0.alloc _, bal nx _⟩ | ((repeat apply Exists.intro); exact ⟨⟨1 + 1, by decide, rfl, by rw [hs.out], k0.alloc _, bal nx _⟩, rfl⟩)
        case measure => simp [intOf]
      · have hi := hi3.out wr
        replace hi := hi.2.2
        have hs := hid (show askP t (2 + 1) = RowKit.wrap64 (askP t 2 + t.h2.left) from (w64 _).symm)
        generalize askP t 2 = a0 at *
        go_wp2
        go_roundw
        case rel => first | exact ⟨2 + 1, by decide, rfl, by rw [hs.out], k0.alloc _, bal nx _⟩ | ((repeat apply Exists.intro); exact ⟨⟨2 + 1, by decide, rfl, by rw [hs.out], k0.alloc _, bal nx _⟩, rfl⟩)
        case measure => simp [intOf]
    · obtain rfl : k = 3 := by omega
      rw [h3.out]
      go_wp2
      go_ret
      exact ⟨rfl, nx⟩
end Go.Proofs.Ytjhmfljlclajnac

namespace Wb
open Go Go.RowKit
theorem any_hit {l : List Hnd} {k : Nat} (hk : k < l.length) (h : l[k].on = true) : l.any (·.on) = true := List.any_eq_true.2 ⟨_, List.getElem_mem hk, h⟩
theorem any_step {l : List Hnd} {k : Nat} (hk : k < l.length) (h0 : (l.take k).any (·.on) = false) (h : l[k].on = false) : (l.take (k + 1)).any (·.on) = false := by
  rw [List.take_succ_eq_append_getElem hk, List.any_append, h0]
  simp [h]
theorem any_full {l : List Hnd} {k : Nat} (hk : ¬ k < l.length) (h0 : (l.take k).any (·.on) = false) : l.any (·.on) = false := by
  rw [List.take_of_length_le (by omega)] at h0; exact h0
theorem hnds_RL {w : World} {b : Nat} {t : TypeId} {x0 x1 x2 x3 : Value} (p q r : Hnd) (h : Blk w b #[x0, x1, x2, x3, .bool p.on, .int .i64 p.left, .bool q.on, .int .i64 q.left, .bool r.on, .int .i64 r.left] t) : RL hndC w (.slice (some ⟨b, 4, none⟩) 3 3) [p, q, r] := by
  refine ⟨_, _, rfl, Nat.le_refl _, by unfold maxLen; omega, .inr ⟨_, _, rfl, fun j u hj => ?_⟩⟩
  rw [h.cell]
  rw [← hj]
  have hl : j < 6 := by
    have := (List.getElem?_eq_some_iff.1 hj).1
    simpa [hndC] using this
  obtain (rfl | rfl | rfl | rfl | rfl | rfl) : j = 0 ∨ j = 1 ∨ j = 2 ∨ j = 3 ∨ j = 4 ∨ j = 5 := by omega
  all_goals rfl
end Wb
namespace Go.Proofs.Ytjhmfljlclajnac
open Go.RowKit Wb
set_option linter.unusedVariables false
set_option linter.unusedSimpArgs false
set_option maxRecDepth 100000
set_option maxHeartbeats 4000000
theorem txn_Open1 (h : Hnd) (w : World) : Calls Try.prog 62 #[.agg #[.bool h.on, .int .i64 h.left]] w fun e w' => e = .returned (.bool h.on) ∧ Below w.heap.size w w' := by
  have k0 := Blk.new w #[.bool h.on, .int .i64 h.left] 25
  have c0 := k0.cell 0; have c1 := k0.cell 1
  simp only [List.getElem?_toArray, List.getElem?_cons_zero, List.getElem?_cons_succ] at c0 c1
  go_enter Try.func62, Try.ntmps62
  go_wp2
  go_ret
  exact ⟨rfl, bal (b0 w) _⟩
theorem hnd_Index (l : List Hnd) (v : Value) (w : World) (h : RL hndC w v l) (hl : l.length ≤ 3) :
    Calls Try.prog 77 #[v, .func (.func 62) #[] #[]] w fun e w' => (∃ r : Int, e = .returned (.int .i64 r) ∧ (decide (r ≥ 0) = l.any (·.on))) ∧ Below w.heap.size w w' := by
  obtain ⟨a, cap, rfl, _⟩ := h.form
  have hO := fun h w => txn_Open1 h w
  have hhit := fun k (hk : k < l.length) hh => any_hit (l := l) hk hh
  have hst := fun k (hk : k < l.length) h0 hh => any_step (l := l) hk h0 hh
  have hfu := fun k (hk : ¬ k < l.length) h0 => any_full (l := l) hk h0
  generalize hal : l.any (·.on) = al at *
  replace h := hid h; replace hO := hid hO; replace hhit := hid hhit; replace hst := hid hst; replace hfu := hid hfu
  clear hal
  go_enter Try.func77, Try.ntmps77
  go_wp2
  go_loopw [5, 8] (fun _ i wr => ∃ k : Nat, k ≤ l.length ∧ i = .int .i64 k ∧ Hid ((l.take k).any (·.on) = false) ∧ Below w.heap.size w wr) (fun _ i _ => l.length - (intOf i).toNat)
  case atStart => exact ⟨0, Nat.zero_le _, rfl, rfl, b0 w⟩
  case round =>
    obtain ⟨k, hk, rfl, hall, nx⟩ := hrel
    by_cases hlt : k < l.length
    · obtain ⟨b1, o1, rfl, c0, c1⟩ := RL.at2 (fun x => .bool x.on) (fun x => .int .i64 x.left) (fun _ => rfl) (h.out.below nx) hlt
      have hh1 := hid (hhit.out k hlt)
      have hh2 := hid (fun hh => hst.out k hlt hall.out hh)
      generalize l[k] = x at *
      have hOx := hO.out x
      cases hx : x.on with
      | true =>
        have hv := hid (hh1.out hx)
        rw [hx] at hOx c0
        replace hOx := hid hOx
        clear hx hh1 hh2 hall
        go_wp2_with (go_at_call 62; go_loud ((with_reducible refine (hOx.out _).mono ?_); rintro e w1 ⟨rfl, hb1⟩))
        go_ret
        exact ⟨⟨_, rfl, by rw [hv.out]; exact decide_eq_true (Int.natCast_nonneg _)⟩, bgo nx hb1⟩
      | false =>
        have hy := hid (hh2.out hx)
        rw [hx] at hOx c0
        replace hOx := hid hOx
        clear hx hh1 hh2 hall
        go_wp2_with (go_at_call 62; go_loud ((with_reducible refine (hOx.out _).mono ?_); rintro e w1 ⟨rfl, hb1⟩))
        go_roundw
        case rel => first | exact ⟨k + 1, by omega, by go_num, hy, bgo nx hb1⟩ | ((repeat apply Exists.intro); exact ⟨⟨k + 1, by omega, by go_num, hy, bgo nx hb1⟩, rfl⟩)
        case measure => simp [intOf]; omega
    · have hv := hid (hfu.out k hlt hall.out)
      clear hall
      go_wp2
      go_ret
      exact ⟨⟨_, rfl, by rw [hv.out]; rfl⟩, nx⟩
theorem hnd_Contains (l : List Hnd) (v : Value) (w : World) (h : RL hndC w v l) (hl : l.length ≤ 3) :
    Calls Try.prog 61 #[v, .func (.func 62) #[] #[]] w fun e w' => e = .returned (.bool (l.any (·.on))) ∧ Below w.heap.size w w' := by
  have hI := hid (hnd_Index l v w h hl)
  obtain ⟨a, cap, rfl, _⟩ := h.form
  generalize l.any (·.on) = al at *
  clear h
  go_enter Try.func61, Try.ntmps61
  go_wp2_with (go_at_call 77; go_loud ((with_reducible refine hI.out.mono ?_); rintro e w1 ⟨⟨r, rfl, hr⟩, hb1⟩; replace hr := hid hr))
  all_goals
    go_ret
    refine ⟨ret_b ?_, hb1⟩
    have := hr.out
    first | exact this | (rw [← this]; (try simp_all); (try omega))
theorem txn_Open (t : Txn) (v : Value) (w : World) (h : RTxn w v t) :
    Calls Try.prog 42 #[v] w fun e w' => e = .returned (.bool (openB t)) ∧ Below w.heap.size w w' := by
  obtain ⟨vm, vd, vr, rfl, hm, hd, hr, n1, n2, n3⟩ := h
  obtain ⟨am, cm, rfl, _⟩ := hm.form
  obtain ⟨ad, cd, rfl, _⟩ := hd.form
  obtain ⟨ar, cr, rfl, _⟩ := hr.form
  unfold txnV
  have k0 := Blk.new w #[.int .i64 t.seq, .slice am t.mt.length cm, .slice ad t.dt.length cd, .slice ar t.rev.length cr, .bool t.h0.on, .int .i64 t.h0.left, .bool t.h1.on, .int .i64 t.h1.left, .bool t.h2.on, .int .i64 t.h2.left] 28
  have nx := bal (b0 w) (.cells #[.int .i64 t.seq, .slice am t.mt.length cm, .slice ad t.dt.length cd, .slice ar t.rev.length cr, .bool t.h0.on, .int .i64 t.h0.left, .bool t.h1.on, .int .i64 t.h1.left, .bool t.h2.on, .int .i64 t.h2.left] 28)
  have hC := hnd_Contains [t.h0, t.h1, t.h2] _ _ (hnds_RL t.h0 t.h1 t.h2 k0) (Nat.le_refl 3)
  have e : [t.h0, t.h1, t.h2].any (·.on) = openB t := by unfold openB; simp [Bool.or_assoc]
  rw [e] at hC
  generalize openB t = ob at *
  replace hC := hid hC
  clear hm hd hr e k0
  go_enter Try.func42, Try.ntmps42
  go_wp2_with (go_at_call 61; go_loud ((with_reducible refine hC.out.mono ?_); rintro e w1 ⟨rfl, hb1⟩))
  go_ret
  exact ⟨rfl, bgo nx hb1⟩
end Go.Proofs.Ytjhmfljlclajnac

namespace Go.Proofs.Ytjhmfljlclajnac
open Go.RowKit Wb
set_option linter.unusedVariables false
set_option linter.unusedSimpArgs false
set_option maxRecDepth 100000
set_option maxHeartbeats 4000000
end Go.Proofs.Ytjhmfljlclajnac
