/- Parts of the proof. -/
import Derived.Test.YtjhmfljlclajnadGreatDoorKTopOrdered11
set_option linter.unusedVariables false
set_option linter.unusedSimpArgs false
set_option maxRecDepth 100000
set_option maxHeartbeats 40000000
namespace Go.Proofs.YtjhmfljlclajnadGreatDoor
open Go.RowKit Wb
theorem slices_InsertC (l : List Cpy) (i : Nat) (x : Cpy) (v : Value) (vb base : Nat) (w : World) (h : Wb.Own cpyC base 63 2 w v l) (hbase : base <= w.heap.size) (hx : Blk w vb #[.int .i64 x.block, .string x.text] 63) (hvb : v.ownBlock ≠ some vb) (hi : i <= l.length) (hl : l.length <= 1000000) :
    Calls Tryz.prog 116 #[v, .int .i64 i, .slice (some ⟨vb, 0, none⟩) 1 1] w fun e w' => ∃ v', e = .returned v' /\ Wb.Own cpyC base 63 2 w' v' (l.take i ++ x :: l.drop i) /\ Below base w w' := by
 have hrx : RL cpyC w (.slice (some ⟨vb, 0, none⟩) 1 1) [x] := RL.ofBlk (e := 63) [x] (by simpa [cpyC] using hx) (by simp [maxLen])
 by_cases hn : i = l.length
 ·subst hn
  have e1 : l.take l.length ++ x :: l.drop l.length = l ++ [x] := by simp
  rw [e1]
  obtain ⟨a, cap, rfl, hc1, hc2⟩ := h.reads.form
  have hg : a = none /\ cap = 0 \/ ∃ g, a = some ⟨g, 0, none⟩ := by
   rcases h.2 with ⟨h1, _⟩ | ⟨g, cap', cur, h1, _⟩
   ·simp only [Value.slice.injEq] at h1
    exact .inl ⟨h1.1, h1.2.2⟩
   ·simp only [Value.slice.injEq] at h1
    exact .inr ⟨g, h1.1⟩
  replace h := hid h; replace hrx := hid hrx
  clear hx hvb e1
  rcases hg with ⟨rfl, rfl⟩ | ⟨g, rfl⟩
  ·go_enter Tryz.func116, Tryz.ntmps116
   go_wp2_with (at_builtin; refine wpList_app rfl _ _ 37 rfl base _ 2 24 cpyC_flat elemCpy h.out rfl [x] hrx.out rfl (by simp; omega) (by simp; unfold maxLen; omega) hbase ?_; intro v1 w1 hown1 hg1; obtain ⟨a1, cap1, rfl⟩ := hown1.form; have nx := h.out.belowGrown hbase hg1; simp only [len1] at hown1)
   go_ret
   exact ⟨_, rfl, hown1, nx⟩
  ·by_cases hcc : cap = l.length
   ·subst hcc
    go_enter Tryz.func116, Tryz.ntmps116
    go_wp2_with (at_builtin; refine wpList_app rfl _ _ 37 rfl base _ 2 24 cpyC_flat elemCpy h.out rfl [x] hrx.out rfl (by simp; omega) (by simp; unfold maxLen; omega) hbase ?_; intro v1 w1 hown1 hg1; obtain ⟨a1, cap1, rfl⟩ := hown1.form; have nx := h.out.belowGrown hbase hg1; simp only [len1] at hown1)
    go_ret
    exact ⟨_, rfl, hown1, nx⟩
   ·go_enter Tryz.func116, Tryz.ntmps116
    go_wp2_with (at_builtin; refine wpList_app rfl _ _ 37 rfl base _ 2 24 cpyC_flat elemCpy h.out rfl [x] hrx.out rfl (by simp; omega) (by simp; unfold maxLen; omega) hbase ?_; intro v1 w1 hown1 hg1; obtain ⟨a1, cap1, rfl⟩ := hown1.form; have nx := h.out.belowGrown hbase hg1; simp only [len1] at hown1)
    go_ret
    exact ⟨_, rfl, hown1, nx⟩
 ·have hlt : i < l.length := by omega
  obtain ⟨g, cap, cur, rfl, hbg, hkk, hcap, hmax, hsz, htk⟩ := h.row (by omega)
  have hne : vb ≠ g := fun h2 => hvb (by rw [h2]; rfl)
  have hn1 : ¬ ((i : Int) = (l.length : Int)) := by omega
  have hcells := row_from cpyC_flat.len hkk htk hi
  have hxc := fun j u (hj : (cpyC x)[j]? = some u) => (show w.cell? ⟨vb, 0 + j, none⟩ = some u by rw [hx.cell, Nat.zero_add, <- hj]; simp [cpyC])
  have hdl := flat_dropLen cpyC_flat.len l i
  have hfx := cpyC_flat.len x
  have hci : ¬ (cap = i) := by omega
  have hin : (i : Int) <= (l.length : Int) := by omega
  have hw1 : IntKind.i64.wrap ((i : Int) + 1) = (i : Int) + 1 := IntWalk.i64_in _ (by omega)
  have hw2 : IntKind.i64.wrap ((l.length : Int) + 1) = (l.length : Int) + 1 := IntWalk.i64_in _ (by omega)
  have ht1 : ((i : Int) + 1).toNat = i + 1 := by omega
  have hb1 : (0 : Int) <= (i : Int) + 1 := by omega
  have hb3 : (i : Int) <= (l.length : Int) + 1 := by omega
  have ht2 : ((l.length : Int) + 1).toNat = l.length + 1 := by omega
  by_cases hroom : l.length + 1 <= cap
  ·have hci2 : ¬ (cap = i + 1) := by omega
   have hz : ∀ w, (Go.sizeOf 63).run Tryz.prog w = .ok 2 w := fun w => by
    obtain ⟨io, z, h1, h2, h3, _⟩ := elemCpy.info
    simp [Go.sizeOf, typeInfo, h1, h3]
   have hcz : cur.size ≠ 0 := by rw [hsz]; have := Nat.mul_le_mul_right 2 hroom; omega
   have hov : ∀ off lb cb, (callFunc 126 #[.slice (some ⟨vb, 0, none⟩) 1 1, .slice (some ⟨g, off, none⟩) lb cb]).run Tryz.prog w = .ok (.value (.bool false)) w := fun off lb cb => by
    rw [run_callFunc_extern Tryz.func126 (by kernel_rfl) (by kernel_rfl) (by kernel_rfl) (e := Extern.SlicesOverlaps.overlaps #[37, 37] #[4]) (by kernel_rfl),
     Lib.run_overlaps_apart w 37 4 63 elemCpy.under 2 hz ⟨vb, 0, none⟩ ⟨g, off, none⟩ 1 1 lb cb hne 63 63 _ _ (by show w.shape? vb = _; unfold World.shape?; rw [show w.heap[vb]? = _ from hx]) (by show w.shape? g = _; unfold World.shape?; rw [show w.heap[g]? = _ from hkk]) hcz (hx.free _) (hx.free _)]
    rfl
   obtain ⟨cur1, hs1, hk1, hfin⟩ := ins_shift (base := base) cpyC_flat hbg hmax hsz htk hi hroom x (w0 := w.drew) hkk
   have hcp1 : ∀ ty dc sc, (Builtin.copy_ #[37, 37] ty #[.slice (some ⟨g, (i + 1) * 2, none⟩) (l.length - i) dc, .slice (some ⟨g, i * 2, none⟩) (l.length + 1 - i) sc]).run Tryz.prog w.drew = .ok _ (w.drew.setCells g ((i + 1) * 2) ((l.drop i).flatMap cpyC)) := fun ty dc sc =>
    run_copy_blk elemCpy w.drew _ ty (cur := cur) hkk _ _ dc g _ _ sc _ (by rw [hdl]; congr 1; show l.length - i = min (l.length + 1 - i) (l.length - i); omega) hcells (by rw [hdl, hsz]; have h5 := mul_split (c := 2) (n := l.length + 1) (i := i + 1) (by omega); have h6 := Nat.mul_le_mul_right 2 hroom; rw [show l.length + 1 - (i + 1) = l.length - i by omega] at h5; omega) (flat_one cpyC_flat _)
   have hcp2 : ∀ ty dc (w1 : World), Blk w1 g cur1 63 -> (∀ j u, (cpyC x)[j]? = some u -> w1.cell? ⟨vb, 0 + j, none⟩ = some u) -> (Builtin.copy_ #[37, 37] ty #[.slice (some ⟨g, i * 2, none⟩) (l.length + 1 - i) dc, .slice (some ⟨vb, 0, none⟩) 1 1]).run Tryz.prog w1 = .ok _ (w1.setCells g (i * 2) (cpyC x)) := fun ty dc w1 k1 hs2 =>
    run_copy_blk elemCpy w1 _ ty (cur := cur1) k1 _ _ dc vb 0 1 1 _ (by rw [hfx, show Nat.min 1 (l.length + 1 - i) = 1 from Nat.min_eq_left (by omega)]) hs2 (by rw [hfx, hs1]; have h5 := mul_split (c := 2) (n := cap) (i := i) (by omega); have h6 : 1 * 2 <= (cap - i) * 2 := Nat.mul_le_mul_right _ (by omega); omega) (fun u hu => cpyC_flat.one x u hu)
   have hk1 : Blk (w.drew.setCells g ((i + 1) * 2) ((l.drop i).flatMap cpyC)) g cur1 63 := hk1
   have hs2 := fun j u hj => (show (w.drew.setCells g ((i + 1) * 2) ((l.drop i).flatMap cpyC)).cell? ⟨vb, 0 + j, none⟩ = some u by rw [Blk.cell (Blk.sets_other hne _ _ _ hx.drew), <- hxc j u hj, hx.cell])
   have nz1 := Wb.Below.sets g hbg ((l.drop i).flatMap cpyC) ((i + 1) * 2) _ (Below.refl base w).drew
   have nz2 := Wb.Below.sets g hbg (cpyC x) (i * 2) _ nz1
   replace hfin := hid hfin; replace nz2 := hid nz2; replace hxc := hid hxc; replace hs2 := hid hs2; replace hk1 := hid hk1; replace hcp1 := hid hcp1; replace hcp2 := hid hcp2
   clear hcells hdl htk hsz hkk hcz hz hx h nz1
   have hcp2x := fun ty dc => hcp2.out ty dc _ hk1.out hs2.out
   go_enter Tryz.func116, Tryz.ntmps116
   go_wp2_with (simp only [hov])
   go_region_law (refine step_copyR rfl _ _ 37 37 rfl (hcp1.out 3 (cap - (i + 1)) (cap - i)) (by simp [Act.eval, Act.put]) (by simp [Act.eval, Act.put]) ?_)
   all_goals go_wp2
   all_goals go_ret
   all_goals exact ⟨_, rfl, hfin.out _ hk1.out, nz2.out⟩
  ·obtain rfl : cap = l.length := by omega
   obtain ⟨Z, hZ, hrz⟩ : ∃ Z : List Value, Z.length = (grownCap w (l.length + 1) l.length 63 - i) * 2 /\ ∀ ty, (Builtin.append_ #[37, 3] ty #[.slice (some ⟨g, 0, none⟩) i l.length, .int .i64 ((l.length : Int) + 1 - (i : Int))]).run Tryz.prog w = .ok (.slice (some ⟨w.heap.size, 0, none⟩) (l.length + 1) (grownCap w (l.length + 1) l.length 63)) (w.drew.alloc (.cells ((l.take i).flatMap cpyC ++ Z).toArray 63)) := by
    have e1 : i + (l.length + 1 - i) = l.length + 1 := by omega
    have e2 : ((l.length + 1 - i : Nat) : Int) = (l.length : Int) + 1 - (i : Int) := by omega
    obtain ⟨Z, hZ, hq⟩ := run_app_make (P := Tryz.prog) (tn := 3) (cap := l.length) cpyC_flat elemCpy (by kernel_rfl) w hkk htk hi (show 0 < l.length + 1 - i by omega) (by omega) (by rw [e1]; omega) (by rw [e1]; unfold maxLen; omega)
    rw [e1] at hZ hq
    rw [e2] at hq
    exact ⟨Z, hZ, hq⟩
   have hGn : l.length + 1 <= grownCap w (l.length + 1) l.length 63 := grownCap_ge w _ _ _
   have hGm : grownCap w (l.length + 1) l.length 63 <= maxLen := grownCap_le_maxLen w _ _ _ (by unfold maxLen; omega)
   obtain ⟨G, hG⟩ : ∃ G, G = grownCap w (l.length + 1) l.length 63 := ⟨_, rfl⟩
   rw [<- hG] at hZ hrz hGn hGm
   clear hG
   obtain ⟨row, hrow⟩ : ∃ row : Array Value, row = ((l.take i).flatMap cpyC ++ Z).toArray := ⟨_, rfl⟩
   rw [<- hrow] at hrz
   have hbw : g < w.heap.size := Blk.lt (cs := cur) hkk
   have hbv : vb < w.heap.size := hx.lt
   have hk0 : Blk (w.drew.alloc (.cells row 63)) w.heap.size row 63 := Blk.new w.drew row _
   have hk0' : Blk ((w.alloc (.cells row 63)).drew) w.heap.size row 63 := (Blk.new w row _).drew
   have hGi : ¬ (G = i) := by omega
   have hGi2 : ¬ (G = i + 1) := by omega
   have hgt : (l.length : Int) < (l.length : Int) + 1 := by omega
   have hin2 : i <= l.length + 1 := by omega
   obtain ⟨hs0, cur1, hs1, hk1, hfin⟩ := ins_grown (base := base) cpyC_flat Z hbase hGm hZ hrow hi hGn x (w0 := w.drew.alloc (.cells row 63)) hk0
   obtain ⟨W1, hW1⟩ : ∃ W1, W1 = w.drew.alloc (.cells row 63) := ⟨_, rfl⟩
   have hxc1 : ∀ j u, (cpyC x)[j]? = some u -> W1.cell? ⟨vb, 0 + j, none⟩ = some u := fun j u hj => by rw [hW1, Blk.cell (hx.drew.alloc _), <- hxc j u hj, hx.cell]
   have hk0w : Blk W1 w.heap.size row 63 := by rw [hW1]; exact hk0
   have hcpA : ∀ ty dc, (Builtin.copy_ #[37, 37] ty #[.slice (some ⟨w.heap.size, i * 2, none⟩) (l.length + 1 - i) dc, .slice (some ⟨vb, 0, none⟩) 1 1]).run Tryz.prog W1 = .ok _ (W1.setCells w.heap.size (i * 2) (cpyC x)) := fun ty dc =>
    run_copy_blk elemCpy W1 _ ty (cur := row) hk0w _ _ dc vb 0 1 1 _ (by rw [hfx, show Nat.min 1 (l.length + 1 - i) = 1 from Nat.min_eq_left (by omega)]) hxc1 (by rw [hfx, hs0]; have h5 := mul_split (c := 2) (n := G) (i := i) (by omega); have h6 : 1 * 2 <= (G - i) * 2 := Nat.mul_le_mul_right _ (by omega); omega) (fun u hu => cpyC_flat.one x u hu)
   have hk1w : Blk (W1.setCells w.heap.size (i * 2) (cpyC x)).drew w.heap.size cur1 63 := by rw [hW1]; exact hk1
   have hcells1 : ∀ j u, ((l.drop i).flatMap cpyC)[j]? = some u -> (W1.setCells w.heap.size (i * 2) (cpyC x)).drew.cell? ⟨g, i * 2 + j, none⟩ = some u := fun j u hj => by
    rw [show (W1.setCells w.heap.size (i * 2) (cpyC x)).drew.cell? ⟨g, i * 2 + j, none⟩ = (W1.setCells w.heap.size (i * 2) (cpyC x)).cell? ⟨g, i * 2 + j, none⟩ from rfl, hW1, Blk.cell (Blk.sets_other (by omega) _ _ _ ((show Blk w.drew g cur 63 from hkk).alloc _)), <- Blk.cell hkk]
    exact hcells j u hj
   have hcpB : ∀ ty dc sc, (Builtin.copy_ #[37, 37] ty #[.slice (some ⟨w.heap.size, (i + 1) * 2, none⟩) (l.length - i) dc, .slice (some ⟨g, i * 2, none⟩) (l.length - i) sc]).run Tryz.prog (W1.setCells w.heap.size (i * 2) (cpyC x)).drew = .ok _ ((W1.setCells w.heap.size (i * 2) (cpyC x)).drew.setCells w.heap.size ((i + 1) * 2) ((l.drop i).flatMap cpyC)) := fun ty dc sc =>
    run_copy_blk elemCpy (W1.setCells w.heap.size (i * 2) (cpyC x)).drew _ ty (cur := cur1) hk1w _ _ dc g _ _ sc _ (by rw [hdl]; congr 1; show l.length - i = min (l.length - i) (l.length - i); omega) hcells1 (by rw [hdl, hs1]; have h5 := mul_split (c := 2) (n := l.length + 1) (i := i + 1) (by omega); have h6 := Nat.mul_le_mul_right 2 hGn; rw [show l.length + 1 - (i + 1) = l.length - i by omega] at h5; omega) (flat_one cpyC_flat _)
   have hfinw := hfin _ (show Blk (W1.setCells w.heap.size (i * 2) (cpyC x)).drew w.heap.size cur1 63 from hk1w)
   have nx1 : Below base w W1 := by rw [hW1]; exact (Below.refl base w).drew.alloc (by simpa using hbase) _
   have nz2 := Wb.Below.sets w.heap.size hbase ((l.drop i).flatMap cpyC) ((i + 1) * 2) _ (Wb.Below.sets w.heap.size hbase (cpyC x) (i * 2) _ nx1).drew
   rw [<- hW1] at hrz
   replace hfinw := hid hfinw; replace nz2 := hid nz2; replace hW1 := hid hW1; replace hcpB := hid hcpB
   clear hcells hcells1 hdl htk hsz hkk hx h hfin hxc hxc1 hk0 hk0' hk0w hk1 hk1w hs0 hs1 nx1 hrow hZ
   go_enter Tryz.func116, Tryz.ntmps116
   go_wp2_with (at_builtin; refine wpList_appR rfl _ _ _ _ rfl (hrz _) rfl rfl ?_)
   go_region_law (refine step_copyR rfl _ _ 37 37 rfl (hcpB.out 3 (G - (i + 1)) (l.length - i)) (by simp [Act.eval, Act.put]) (by simp [Act.eval, Act.put]) ?_)
   all_goals go_wp2
   all_goals go_ret
   all_goals exact ⟨_, rfl, hfinw.out, nz2.out⟩
theorem slices_InsertI (l : List Int) (i : Nat) (x : Int) (v : Value) (vb base : Nat) (w : World) (h : Wb.Own intC base 3 1 w v l) (hbase : base <= w.heap.size) (hx : Blk w vb #[.int .i64 x] 3) (hvb : v.ownBlock ≠ some vb) (hi : i <= l.length) (hl : l.length <= 1000000) :
    Calls Tryz.prog 100 #[v, .int .i64 i, .slice (some ⟨vb, 0, none⟩) 1 1] w fun e w' => ∃ v', e = .returned v' /\ Wb.Own intC base 3 1 w' v' (l.take i ++ x :: l.drop i) /\ Below base w w' := by
 have hrx : RL intC w (.slice (some ⟨vb, 0, none⟩) 1 1) [x] := RL.ofBlk (e := 3) [x] (by simpa [intC] using hx) (by simp [maxLen])
 by_cases hn : i = l.length
 ·subst hn
  have e1 : l.take l.length ++ x :: l.drop l.length = l ++ [x] := by simp
  rw [e1]
  obtain ⟨a, cap, rfl, hc1, hc2⟩ := h.reads.form
  have hg : a = none /\ cap = 0 \/ ∃ g, a = some ⟨g, 0, none⟩ := by
   rcases h.2 with ⟨h1, _⟩ | ⟨g, cap', cur, h1, _⟩
   ·simp only [Value.slice.injEq] at h1
    exact .inl ⟨h1.1, h1.2.2⟩
   ·simp only [Value.slice.injEq] at h1
    exact .inr ⟨g, h1.1⟩
  replace h := hid h; replace hrx := hid hrx
  clear hx hvb e1
  rcases hg with ⟨rfl, rfl⟩ | ⟨g, rfl⟩
  ·go_enter Tryz.func100, Tryz.ntmps100
   go_wp2_with (at_builtin; refine wpList_app rfl _ _ 38 rfl base _ 1 8 intC_flat elemIntT h.out rfl [x] hrx.out rfl (by simp; omega) (by simp; unfold maxLen; omega) hbase ?_; intro v1 w1 hown1 hg1; obtain ⟨a1, cap1, rfl⟩ := hown1.form; have nx := h.out.belowGrown hbase hg1; simp only [len1] at hown1)
   go_ret
   exact ⟨_, rfl, hown1, nx⟩
  ·by_cases hcc : cap = l.length
   ·subst hcc
    go_enter Tryz.func100, Tryz.ntmps100
    go_wp2_with (at_builtin; refine wpList_app rfl _ _ 38 rfl base _ 1 8 intC_flat elemIntT h.out rfl [x] hrx.out rfl (by simp; omega) (by simp; unfold maxLen; omega) hbase ?_; intro v1 w1 hown1 hg1; obtain ⟨a1, cap1, rfl⟩ := hown1.form; have nx := h.out.belowGrown hbase hg1; simp only [len1] at hown1)
    go_ret
    exact ⟨_, rfl, hown1, nx⟩
   ·go_enter Tryz.func100, Tryz.ntmps100
    go_wp2_with (at_builtin; refine wpList_app rfl _ _ 38 rfl base _ 1 8 intC_flat elemIntT h.out rfl [x] hrx.out rfl (by simp; omega) (by simp; unfold maxLen; omega) hbase ?_; intro v1 w1 hown1 hg1; obtain ⟨a1, cap1, rfl⟩ := hown1.form; have nx := h.out.belowGrown hbase hg1; simp only [len1] at hown1)
    go_ret
    exact ⟨_, rfl, hown1, nx⟩
 ·have hlt : i < l.length := by omega
  obtain ⟨g, cap, cur, rfl, hbg, hkk, hcap, hmax, hsz, htk⟩ := h.row (by omega)
  have hne : vb ≠ g := fun h2 => hvb (by rw [h2]; rfl)
  have hn1 : ¬ ((i : Int) = (l.length : Int)) := by omega
  have hcells := row_from intC_flat.len hkk htk hi
  have hxc := fun j u (hj : (intC x)[j]? = some u) => (show w.cell? ⟨vb, 0 + j, none⟩ = some u by rw [hx.cell, Nat.zero_add, <- hj]; simp [intC])
  have hdl := flat_dropLen intC_flat.len l i
  have hfx := intC_flat.len x
  have hci : ¬ (cap = i) := by omega
  have hin : (i : Int) <= (l.length : Int) := by omega
  have hw1 : IntKind.i64.wrap ((i : Int) + 1) = (i : Int) + 1 := IntWalk.i64_in _ (by omega)
  have hw2 : IntKind.i64.wrap ((l.length : Int) + 1) = (l.length : Int) + 1 := IntWalk.i64_in _ (by omega)
  have ht1 : ((i : Int) + 1).toNat = i + 1 := by omega
  have hb1 : (0 : Int) <= (i : Int) + 1 := by omega
  have hb3 : (i : Int) <= (l.length : Int) + 1 := by omega
  have ht2 : ((l.length : Int) + 1).toNat = l.length + 1 := by omega
  by_cases hroom : l.length + 1 <= cap
  ·have hci2 : ¬ (cap = i + 1) := by omega
   have hz : ∀ w, (Go.sizeOf 3).run Tryz.prog w = .ok 1 w := fun w => by
    obtain ⟨io, z, h1, h2, h3, _⟩ := elemIntT.info
    simp [Go.sizeOf, typeInfo, h1, h3]
   have hcz : cur.size ≠ 0 := by rw [hsz]; have := Nat.mul_le_mul_right 1 hroom; omega
   have hov : ∀ off lb cb, (callFunc 121 #[.slice (some ⟨vb, 0, none⟩) 1 1, .slice (some ⟨g, off, none⟩) lb cb]).run Tryz.prog w = .ok (.value (.bool false)) w := fun off lb cb => by
    rw [run_callFunc_extern Tryz.func121 (by kernel_rfl) (by kernel_rfl) (by kernel_rfl) (e := Extern.SlicesOverlaps.overlaps #[38, 38] #[4]) (by kernel_rfl),
     Lib.run_overlaps_apart w 38 4 3 elemIntT.under 1 hz ⟨vb, 0, none⟩ ⟨g, off, none⟩ 1 1 lb cb hne 3 3 _ _ (by show w.shape? vb = _; unfold World.shape?; rw [show w.heap[vb]? = _ from hx]) (by show w.shape? g = _; unfold World.shape?; rw [show w.heap[g]? = _ from hkk]) hcz (hx.free _) (hx.free _)]
    rfl
   obtain ⟨cur1, hs1, hk1, hfin⟩ := ins_shift (base := base) intC_flat hbg hmax hsz htk hi hroom x (w0 := w.drew) hkk
   have hcp1 : ∀ ty dc sc, (Builtin.copy_ #[38, 38] ty #[.slice (some ⟨g, (i + 1) * 1, none⟩) (l.length - i) dc, .slice (some ⟨g, i * 1, none⟩) (l.length + 1 - i) sc]).run Tryz.prog w.drew = .ok _ (w.drew.setCells g ((i + 1) * 1) ((l.drop i).flatMap intC)) := fun ty dc sc =>
    run_copy_blk elemIntT w.drew _ ty (cur := cur) hkk _ _ dc g _ _ sc _ (by rw [hdl]; congr 1; show l.length - i = min (l.length + 1 - i) (l.length - i); omega) hcells (by rw [hdl, hsz]; have h5 := mul_split (c := 1) (n := l.length + 1) (i := i + 1) (by omega); have h6 := Nat.mul_le_mul_right 1 hroom; rw [show l.length + 1 - (i + 1) = l.length - i by omega] at h5; omega) (flat_one intC_flat _)
   have hcp2 : ∀ ty dc (w1 : World), Blk w1 g cur1 3 -> (∀ j u, (intC x)[j]? = some u -> w1.cell? ⟨vb, 0 + j, none⟩ = some u) -> (Builtin.copy_ #[38, 38] ty #[.slice (some ⟨g, i * 1, none⟩) (l.length + 1 - i) dc, .slice (some ⟨vb, 0, none⟩) 1 1]).run Tryz.prog w1 = .ok _ (w1.setCells g (i * 1) (intC x)) := fun ty dc w1 k1 hs2 =>
    run_copy_blk elemIntT w1 _ ty (cur := cur1) k1 _ _ dc vb 0 1 1 _ (by rw [hfx, show Nat.min 1 (l.length + 1 - i) = 1 from Nat.min_eq_left (by omega)]) hs2 (by rw [hfx, hs1]; have h5 := mul_split (c := 1) (n := cap) (i := i) (by omega); have h6 : 1 * 1 <= (cap - i) * 1 := Nat.mul_le_mul_right _ (by omega); omega) (fun u hu => intC_flat.one x u hu)
   have hk1 : Blk (w.drew.setCells g ((i + 1) * 1) ((l.drop i).flatMap intC)) g cur1 3 := hk1
   have hs2 := fun j u hj => (show (w.drew.setCells g ((i + 1) * 1) ((l.drop i).flatMap intC)).cell? ⟨vb, 0 + j, none⟩ = some u by rw [Blk.cell (Blk.sets_other hne _ _ _ hx.drew), <- hxc j u hj, hx.cell])
   have nz1 := Wb.Below.sets g hbg ((l.drop i).flatMap intC) ((i + 1) * 1) _ (Below.refl base w).drew
   have nz2 := Wb.Below.sets g hbg (intC x) (i * 1) _ nz1
   (try simp only [Nat.mul_one] at hfin); (try simp only [Nat.mul_one] at nz2); (try simp only [Nat.mul_one] at hs2); (try simp only [Nat.mul_one] at hk1); (try simp only [Nat.mul_one] at hcp1); (try simp only [Nat.mul_one] at hcp2)
   replace hfin := hid hfin; replace nz2 := hid nz2; replace hxc := hid hxc; replace hs2 := hid hs2; replace hk1 := hid hk1; replace hcp1 := hid hcp1; replace hcp2 := hid hcp2
   clear hcells hdl htk hsz hkk hcz hz hx h nz1
   have hcp2x := fun ty dc => hcp2.out ty dc _ hk1.out hs2.out
   go_enter Tryz.func100, Tryz.ntmps100
   go_wp2_with (simp only [hov])
   go_region_law (refine step_copyR rfl _ _ 38 38 rfl (hcp1.out 3 (cap - (i + 1)) (cap - i)) (by simp [Act.eval, Act.put]) (by simp [Act.eval, Act.put]) ?_)
   all_goals go_wp2
   all_goals go_ret
   all_goals exact ⟨_, rfl, hfin.out _ hk1.out, nz2.out⟩
  ·obtain rfl : cap = l.length := by omega
   obtain ⟨Z, hZ, hrz⟩ : ∃ Z : List Value, Z.length = (grownCap w (l.length + 1) l.length 3 - i) * 1 /\ ∀ ty, (Builtin.append_ #[38, 3] ty #[.slice (some ⟨g, 0, none⟩) i l.length, .int .i64 ((l.length : Int) + 1 - (i : Int))]).run Tryz.prog w = .ok (.slice (some ⟨w.heap.size, 0, none⟩) (l.length + 1) (grownCap w (l.length + 1) l.length 3)) (w.drew.alloc (.cells ((l.take i).flatMap intC ++ Z).toArray 3)) := by
    have e1 : i + (l.length + 1 - i) = l.length + 1 := by omega
    have e2 : ((l.length + 1 - i : Nat) : Int) = (l.length : Int) + 1 - (i : Int) := by omega
    obtain ⟨Z, hZ, hq⟩ := run_app_make (P := Tryz.prog) (tn := 3) (cap := l.length) intC_flat elemIntT (by kernel_rfl) w hkk htk hi (show 0 < l.length + 1 - i by omega) (by omega) (by rw [e1]; omega) (by rw [e1]; unfold maxLen; omega)
    rw [e1] at hZ hq
    rw [e2] at hq
    exact ⟨Z, hZ, hq⟩
   have hGn : l.length + 1 <= grownCap w (l.length + 1) l.length 3 := grownCap_ge w _ _ _
   have hGm : grownCap w (l.length + 1) l.length 3 <= maxLen := grownCap_le_maxLen w _ _ _ (by unfold maxLen; omega)
   obtain ⟨G, hG⟩ : ∃ G, G = grownCap w (l.length + 1) l.length 3 := ⟨_, rfl⟩
   rw [<- hG] at hZ hrz hGn hGm
   clear hG
   obtain ⟨row, hrow⟩ : ∃ row : Array Value, row = ((l.take i).flatMap intC ++ Z).toArray := ⟨_, rfl⟩
   rw [<- hrow] at hrz
   have hbw : g < w.heap.size := Blk.lt (cs := cur) hkk
   have hbv : vb < w.heap.size := hx.lt
   have hk0 : Blk (w.drew.alloc (.cells row 3)) w.heap.size row 3 := Blk.new w.drew row _
   have hk0' : Blk ((w.alloc (.cells row 3)).drew) w.heap.size row 3 := (Blk.new w row _).drew
   have hGi : ¬ (G = i) := by omega
   have hGi2 : ¬ (G = i + 1) := by omega
   have hgt : (l.length : Int) < (l.length : Int) + 1 := by omega
   have hin2 : i <= l.length + 1 := by omega
   obtain ⟨hs0, cur1, hs1, hk1, hfin⟩ := ins_grown (base := base) intC_flat Z hbase hGm hZ hrow hi hGn x (w0 := w.drew.alloc (.cells row 3)) hk0
   obtain ⟨W1, hW1⟩ : ∃ W1, W1 = w.drew.alloc (.cells row 3) := ⟨_, rfl⟩
   have hxc1 : ∀ j u, (intC x)[j]? = some u -> W1.cell? ⟨vb, 0 + j, none⟩ = some u := fun j u hj => by rw [hW1, Blk.cell (hx.drew.alloc _), <- hxc j u hj, hx.cell]
   have hk0w : Blk W1 w.heap.size row 3 := by rw [hW1]; exact hk0
   have hcpA : ∀ ty dc, (Builtin.copy_ #[38, 38] ty #[.slice (some ⟨w.heap.size, i * 1, none⟩) (l.length + 1 - i) dc, .slice (some ⟨vb, 0, none⟩) 1 1]).run Tryz.prog W1 = .ok _ (W1.setCells w.heap.size (i * 1) (intC x)) := fun ty dc =>
    run_copy_blk elemIntT W1 _ ty (cur := row) hk0w _ _ dc vb 0 1 1 _ (by rw [hfx, show Nat.min 1 (l.length + 1 - i) = 1 from Nat.min_eq_left (by omega)]) hxc1 (by rw [hfx, hs0]; have h5 := mul_split (c := 1) (n := G) (i := i) (by omega); have h6 : 1 * 1 <= (G - i) * 1 := Nat.mul_le_mul_right _ (by omega); omega) (fun u hu => intC_flat.one x u hu)
   have hk1w : Blk (W1.setCells w.heap.size (i * 1) (intC x)).drew w.heap.size cur1 3 := by rw [hW1]; exact hk1
   have hcells1 : ∀ j u, ((l.drop i).flatMap intC)[j]? = some u -> (W1.setCells w.heap.size (i * 1) (intC x)).drew.cell? ⟨g, i * 1 + j, none⟩ = some u := fun j u hj => by
    rw [show (W1.setCells w.heap.size (i * 1) (intC x)).drew.cell? ⟨g, i * 1 + j, none⟩ = (W1.setCells w.heap.size (i * 1) (intC x)).cell? ⟨g, i * 1 + j, none⟩ from rfl, hW1, Blk.cell (Blk.sets_other (by omega) _ _ _ ((show Blk w.drew g cur 3 from hkk).alloc _)), <- Blk.cell hkk]
    exact hcells j u hj
   have hcpB : ∀ ty dc sc, (Builtin.copy_ #[38, 38] ty #[.slice (some ⟨w.heap.size, (i + 1) * 1, none⟩) (l.length - i) dc, .slice (some ⟨g, i * 1, none⟩) (l.length - i) sc]).run Tryz.prog (W1.setCells w.heap.size (i * 1) (intC x)).drew = .ok _ ((W1.setCells w.heap.size (i * 1) (intC x)).drew.setCells w.heap.size ((i + 1) * 1) ((l.drop i).flatMap intC)) := fun ty dc sc =>
    run_copy_blk elemIntT (W1.setCells w.heap.size (i * 1) (intC x)).drew _ ty (cur := cur1) hk1w _ _ dc g _ _ sc _ (by rw [hdl]; congr 1; show l.length - i = min (l.length - i) (l.length - i); omega) hcells1 (by rw [hdl, hs1]; have h5 := mul_split (c := 1) (n := l.length + 1) (i := i + 1) (by omega); have h6 := Nat.mul_le_mul_right 1 hGn; rw [show l.length + 1 - (i + 1) = l.length - i by omega] at h5; omega) (flat_one intC_flat _)
   have hfinw := hfin _ (show Blk (W1.setCells w.heap.size (i * 1) (intC x)).drew w.heap.size cur1 3 from hk1w)
   have nx1 : Below base w W1 := by rw [hW1]; exact (Below.refl base w).drew.alloc (by simpa using hbase) _
   have nz2 := Wb.Below.sets w.heap.size hbase ((l.drop i).flatMap intC) ((i + 1) * 1) _ (Wb.Below.sets w.heap.size hbase (intC x) (i * 1) _ nx1).drew
   rw [<- hW1] at hrz
   (try simp only [Nat.mul_one] at hfinw); (try simp only [Nat.mul_one] at nz2); (try simp only [Nat.mul_one] at hcpA); (try simp only [Nat.mul_one] at hcpB)
   replace hfinw := hid hfinw; replace nz2 := hid nz2; replace hW1 := hid hW1; replace hcpB := hid hcpB
   clear hcells hcells1 hdl htk hsz hkk hx h hfin hxc hxc1 hk0 hk0' hk0w hk1 hk1w hs0 hs1 nx1 hrow hZ
   go_enter Tryz.func100, Tryz.ntmps100
   go_wp2_with (at_builtin; refine wpList_appR rfl _ _ _ _ rfl (hrz _) rfl rfl ?_)
   go_region_law (refine step_copyR rfl _ _ 38 38 rfl (hcpB.out 3 (G - (i + 1)) (l.length - i)) (by simp [Act.eval, Act.put]) (by simp [Act.eval, Act.put]) ?_)
   all_goals go_wp2
   all_goals go_ret
   all_goals exact ⟨_, rfl, hfinw.out, nz2.out⟩
theorem txn_put (l : List Cpy) (b : Int) (s : ByteArray) (v : Value) (w : World) (hs : rise (blks l) = true) (h : RL cpyC w v l) (hl : l.length <= 1000000) :
    Calls Tryz.prog 97 #[v, .int .i64 b, .string s] w fun e w' => ∃ v', e = .returned v' /\ Wb.Own cpyC w.heap.size 63 2 w' v' (putL l b s) /\ Below w.heap.size w w' := by
 have hF := hid (txn_find l b v w hs h (by omega))
 have hC := hid (fun w' (hb : Below w.heap.size w w') => slices_CloneC l v w' (h.below hb) (by omega))
 have hha := has_at (b := b) hs
 obtain ⟨_, _, hp⟩ := pos_at b hs
 obtain ⟨a, cap, rfl, _⟩ := h.form
 unfold putL
 generalize posB l b = p at *
 cases hb : hasB l b with
 | true =>
  rw [hb] at hF
  obtain ⟨hk, hkb⟩ := hha.1 hb
  rw [if_pos rfl]
  have hy : cpyC ⟨b, s⟩ = (cpyC l[p]).set 1 (.string s) := by simp [cpyC, hkb]
  replace hy := hid hy
  clear hs h hha hb hp
  go_enter Tryz.func97, Tryz.ntmps97
  go_wp2_with (first
   | (go_at_call 114; ((with_reducible refine hF.out.mono ?_); rintro e w1 ⟨rfl, hb1⟩))
   | (go_at_call 20; ((with_reducible refine (hC.out _ hb1).mono ?_); rintro e w2 ⟨v2, rfl, ho2, hb2⟩; obtain ⟨g, cap2, rfl, hbg, hgw, hq, hnew⟩ := Own.poke cpyC_flat ho2 hk; have q0 := (hq 1 (by decide)).1; have q1 := (hq 1 (by decide)).2; have hn2 := hid (hnew 1 _ _ (by decide) hy.out); have nx := hb1.trans (hb2.mono hb1.size); have hgs := Nat.le_trans hb1.size hbg; simp only [cpyC, List.getElem?_cons_succ, List.getElem?_cons_zero] at q1; replace nx := hid nx; clear hq hnew ho2)))
  go_ret
  exact ⟨_, rfl, hn2.out.mono hb1.size, nx.out.setCell hgs _⟩
 | false =>
  rw [hb] at hF
  rw [if_neg (by decide)]
  clear hs h hha hb
  go_enter Tryz.func97, Tryz.ntmps97
  go_wp2_with (first
   | (go_at_call 114; ((with_reducible refine hF.out.mono ?_); rintro e w1 ⟨rfl, hb1⟩))
   | (go_at_call 20; ((with_reducible refine (hC.out _ hb1).mono ?_); rintro e w2 ⟨v2, rfl, ho2, hb2⟩; have hlt2 := World.ownsRow.lt ho2; have hbase := hb1.trans (hb2.mono hb1.size); have ho3 := hid (ho2.mono hb1.size); have hI := hid (slices_InsertC l p ⟨b, s⟩ v2 w2.heap.size w.heap.size (w2.alloc (.cells #[.int .i64 b, .string s] 63)) (ho3.out.alloc _) (by have := hbase.size; simp; omega) (Blk.new w2 _ _) (fun hh => by have := (hlt2 _ hh).2; omega) hp hl); obtain ⟨a2, cap2, rfl⟩ := ho2.form; replace hbase := hid hbase; clear hlt2 ho2))
   | (go_at_call 116; ((with_reducible refine hI.out.mono ?_); rintro e w3 ⟨v3, rfl, ho4, hb3⟩)))
  go_ret
  exact ⟨_, rfl, ho4, (hbase.out.alloc (by have := hbase.out.size; omega) _).trans hb3⟩
theorem txn_may (t : Txn) (h b : Int) (v : Value) (w : World) (ht : RTxn w v t) :
    Calls Tryz.prog 92 #[v, .int .i64 h, .int .i64 b] w fun e w' => e = .returned (.int .i64 (mayE t h b)) /\ Below w.heap.size w w' := by
 have hG0 := fun w' (hh : Below w.heap.size w w') => txn_Good t _ w' (ht.below hh)
 obtain ⟨vm, vd, vr, rfl, hm, hd, hr, n1, n2, n3⟩ := ht
 obtain ⟨am, cm, rfl, _⟩ := hm.form
 obtain ⟨ad, cd, rfl, _⟩ := hd.form
 obtain ⟨ar, cr, rfl, _⟩ := hr.form
 have hH := fun w => txn_handle h w
 have hB := fun w => txn_block b w
 obtain ⟨seq, mt, dt, rev, ⟨o0, l0⟩, ⟨o1, l1⟩, ⟨o2, l2⟩⟩ := t
 unfold txnV at hG0 ⊢
 dsimp only at *
 have k0 : Blk (w.alloc (.cells #[.int .i64 seq, .slice am mt.length cm, .slice ad dt.length cd, .slice ar rev.length cr, .bool o0, .int .i64 l0, .bool o1, .int .i64 l1, .bool o2, .int .i64 l2] 43)) w.heap.size #[.int .i64 seq, .slice am mt.length cm, .slice ad dt.length cd, .slice ar rev.length cr, .bool o0, .int .i64 l0, .bool o1, .int .i64 l1, .bool o2, .int .i64 l2] 43 := Blk.new w _ _
 have nx := bal (b0 w) (.cells #[.int .i64 seq, .slice am mt.length cm, .slice ad dt.length cd, .slice ar rev.length cr, .bool o0, .int .i64 l0, .bool o1, .int .i64 l1, .bool o2, .int .i64 l2] 43)
 obtain ⟨e0, e1, e2, e3, e4, e5, e6, e7, e8, e9⟩ := k0.c10; have l0' := k0.lt
 clear hm hd hr
 cases hg : goodT ⟨seq, mt, dt, rev, ⟨o0, l0⟩, ⟨o1, l1⟩, ⟨o2, l2⟩⟩ with
 | false =>
  have hv := hid (may_bad (h := h) (b := b) hg)
  rw [hg] at hG0
  have hG := hid hG0
  clear hg hG0 hH hB
  go_enter Tryz.func92, Tryz.ntmps92
  go_wp2_with (go_at_call 80; ((with_reducible refine (hG.out _ nx).mono ?_); rintro e w1 ⟨rfl, hb1⟩; replace k0 := k0.step hb1; replace nx := bgo nx hb1; clear e0 e1 e2 e3 e4 e5 e6 e7 e8 e9 l0'; obtain ⟨e0, e1, e2, e3, e4, e5, e6, e7, e8, e9⟩ := k0.c10; have l0' := k0.lt))
  go_ret
  exact ⟨ret_i hv.out.symm, nx⟩
 | true =>
  rw [hg] at hG0
  have hG := hid hG0
  clear hG0
  by_cases hh : 0 <= h /\ h <= 2
  rotate_left
  ·have hv := hid (may_none (b := b) hg (.inl hh))
   have hhf : isHnd h = false := decide_eq_false (by omega)
   rw [hhf] at hH
   replace hH := hid hH
   clear hhf hg hB
   by_cases hneg : h < 0
   ·clear hh
    go_enter Tryz.func92, Tryz.ntmps92
    go_wp2_with (go_at_call 80; ((with_reducible refine (hG.out _ nx).mono ?_); rintro e w1 ⟨rfl, hb1⟩; replace k0 := k0.step hb1; replace nx := bgo nx hb1; clear e0 e1 e2 e3 e4 e5 e6 e7 e8 e9 l0'; obtain ⟨e0, e1, e2, e3, e4, e5, e6, e7, e8, e9⟩ := k0.c10; have l0' := k0.lt))
    go_wp2_with (first | (go_at_call 89; ((with_reducible refine (hH.out _).mono ?_); rintro e w1 ⟨rfl, rfl⟩)) | (go_at_call 109; ((with_reducible refine (hB.out _).mono ?_); rintro e w1 ⟨rfl, rfl⟩)))
    go_ret
    exact ⟨ret_i hv.out.symm, nx⟩
   ·have hgt : 2 < h := by omega
    clear hh
    go_enter Tryz.func92, Tryz.ntmps92
    go_wp2_with (go_at_call 80; ((with_reducible refine (hG.out _ nx).mono ?_); rintro e w1 ⟨rfl, hb1⟩; replace k0 := k0.step hb1; replace nx := bgo nx hb1; clear e0 e1 e2 e3 e4 e5 e6 e7 e8 e9 l0'; obtain ⟨e0, e1, e2, e3, e4, e5, e6, e7, e8, e9⟩ := k0.c10; have l0' := k0.lt))
    go_wp2_with (first | (go_at_call 89; ((with_reducible refine (hH.out _).mono ?_); rintro e w1 ⟨rfl, rfl⟩)) | (go_at_call 109; ((with_reducible refine (hB.out _).mono ?_); rintro e w1 ⟨rfl, rfl⟩)))
    go_ret
    exact ⟨ret_i hv.out.symm, nx⟩
  have hht : isHnd h = true := decide_eq_true (by omega)
  rw [hht] at hH
  replace hH := hid hH
  clear hht
  obtain (rfl | rfl | rfl) : h = 0 \/ h = 1 \/ h = 2 := by omega
  ·cases o0 with
   | false =>
    have hv := hid (may_none (h := 0) (b := b) hg (.inr (.inl (by simp [getH]))))
    clear hg hh hB
    go_enter Tryz.func92, Tryz.ntmps92
    go_wp2_with (go_at_call 80; ((with_reducible refine (hG.out _ nx).mono ?_); rintro e w1 ⟨rfl, hb1⟩; replace k0 := k0.step hb1; replace nx := bgo nx hb1; clear e0 e1 e2 e3 e4 e5 e6 e7 e8 e9 l0'; obtain ⟨e0, e1, e2, e3, e4, e5, e6, e7, e8, e9⟩ := k0.c10; have l0' := k0.lt))
    go_wp2_with (first | (go_at_call 89; ((with_reducible refine (hH.out _).mono ?_); rintro e w1 ⟨rfl, rfl⟩)) | (go_at_call 109; ((with_reducible refine (hB.out _).mono ?_); rintro e w1 ⟨rfl, rfl⟩)))
    go_ret
    exact ⟨ret_i hv.out.symm, nx⟩
   | true =>
    cases hbb : isBlk b with
    | false =>
     have hv := hid (may_none (h := 0) (b := b) hg (.inr (.inr hbb)))
     rw [hbb] at hB
     replace hB := hid hB
     clear hg hh hbb
     go_enter Tryz.func92, Tryz.ntmps92
     go_wp2_with (go_at_call 80; ((with_reducible refine (hG.out _ nx).mono ?_); rintro e w1 ⟨rfl, hb1⟩; replace k0 := k0.step hb1; replace nx := bgo nx hb1; clear e0 e1 e2 e3 e4 e5 e6 e7 e8 e9 l0'; obtain ⟨e0, e1, e2, e3, e4, e5, e6, e7, e8, e9⟩ := k0.c10; have l0' := k0.lt))
     go_wp2_with (first | (go_at_call 89; ((with_reducible refine (hH.out _).mono ?_); rintro e w1 ⟨rfl, rfl⟩)) | (go_at_call 109; ((with_reducible refine (hB.out _).mono ?_); rintro e w1 ⟨rfl, rfl⟩)))
     go_ret
     exact ⟨ret_i hv.out.symm, nx⟩
    | true =>
     have hv := hid (may_ok (h := 0) (b := b) hg (by decide) (by simp [getH]) hbb)
     rw [hbb] at hB
     replace hB := hid hB
     clear hg hh hbb
     go_enter Tryz.func92, Tryz.ntmps92
     go_wp2_with (go_at_call 80; ((with_reducible refine (hG.out _ nx).mono ?_); rintro e w1 ⟨rfl, hb1⟩; replace k0 := k0.step hb1; replace nx := bgo nx hb1; clear e0 e1 e2 e3 e4 e5 e6 e7 e8 e9 l0'; obtain ⟨e0, e1, e2, e3, e4, e5, e6, e7, e8, e9⟩ := k0.c10; have l0' := k0.lt))
     go_wp2_with (first | (go_at_call 89; ((with_reducible refine (hH.out _).mono ?_); rintro e w1 ⟨rfl, rfl⟩)) | (go_at_call 109; ((with_reducible refine (hB.out _).mono ?_); rintro e w1 ⟨rfl, rfl⟩)))
     go_ret
     exact ⟨ret_i hv.out.symm, nx⟩
  ·cases o1 with
   | false =>
    have hv := hid (may_none (h := 1) (b := b) hg (.inr (.inl (by simp [getH]))))
    clear hg hh hB
    go_enter Tryz.func92, Tryz.ntmps92
    go_wp2_with (go_at_call 80; ((with_reducible refine (hG.out _ nx).mono ?_); rintro e w1 ⟨rfl, hb1⟩; replace k0 := k0.step hb1; replace nx := bgo nx hb1; clear e0 e1 e2 e3 e4 e5 e6 e7 e8 e9 l0'; obtain ⟨e0, e1, e2, e3, e4, e5, e6, e7, e8, e9⟩ := k0.c10; have l0' := k0.lt))
    go_wp2_with (first | (go_at_call 89; ((with_reducible refine (hH.out _).mono ?_); rintro e w1 ⟨rfl, rfl⟩)) | (go_at_call 109; ((with_reducible refine (hB.out _).mono ?_); rintro e w1 ⟨rfl, rfl⟩)))
    go_ret
    exact ⟨ret_i hv.out.symm, nx⟩
   | true =>
    cases hbb : isBlk b with
    | false =>
     have hv := hid (may_none (h := 1) (b := b) hg (.inr (.inr hbb)))
     rw [hbb] at hB
     replace hB := hid hB
     clear hg hh hbb
     go_enter Tryz.func92, Tryz.ntmps92
     go_wp2_with (go_at_call 80; ((with_reducible refine (hG.out _ nx).mono ?_); rintro e w1 ⟨rfl, hb1⟩; replace k0 := k0.step hb1; replace nx := bgo nx hb1; clear e0 e1 e2 e3 e4 e5 e6 e7 e8 e9 l0'; obtain ⟨e0, e1, e2, e3, e4, e5, e6, e7, e8, e9⟩ := k0.c10; have l0' := k0.lt))
     go_wp2_with (first | (go_at_call 89; ((with_reducible refine (hH.out _).mono ?_); rintro e w1 ⟨rfl, rfl⟩)) | (go_at_call 109; ((with_reducible refine (hB.out _).mono ?_); rintro e w1 ⟨rfl, rfl⟩)))
     go_ret
     exact ⟨ret_i hv.out.symm, nx⟩
    | true =>
     have hv := hid (may_ok (h := 1) (b := b) hg (by decide) (by simp [getH]) hbb)
     rw [hbb] at hB
     replace hB := hid hB
     clear hg hh hbb
     go_enter Tryz.func92, Tryz.ntmps92
     go_wp2_with (go_at_call 80; ((with_reducible refine (hG.out _ nx).mono ?_); rintro e w1 ⟨rfl, hb1⟩; replace k0 := k0.step hb1; replace nx := bgo nx hb1; clear e0 e1 e2 e3 e4 e5 e6 e7 e8 e9 l0'; obtain ⟨e0, e1, e2, e3, e4, e5, e6, e7, e8, e9⟩ := k0.c10; have l0' := k0.lt))
     go_wp2_with (first | (go_at_call 89; ((with_reducible refine (hH.out _).mono ?_); rintro e w1 ⟨rfl, rfl⟩)) | (go_at_call 109; ((with_reducible refine (hB.out _).mono ?_); rintro e w1 ⟨rfl, rfl⟩)))
     go_ret
     exact ⟨ret_i hv.out.symm, nx⟩
  ·cases o2 with
   | false =>
    have hv := hid (may_none (h := 2) (b := b) hg (.inr (.inl (by simp [getH]))))
    clear hg hh hB
    go_enter Tryz.func92, Tryz.ntmps92
    go_wp2_with (go_at_call 80; ((with_reducible refine (hG.out _ nx).mono ?_); rintro e w1 ⟨rfl, hb1⟩; replace k0 := k0.step hb1; replace nx := bgo nx hb1; clear e0 e1 e2 e3 e4 e5 e6 e7 e8 e9 l0'; obtain ⟨e0, e1, e2, e3, e4, e5, e6, e7, e8, e9⟩ := k0.c10; have l0' := k0.lt))
    go_wp2_with (first | (go_at_call 89; ((with_reducible refine (hH.out _).mono ?_); rintro e w1 ⟨rfl, rfl⟩)) | (go_at_call 109; ((with_reducible refine (hB.out _).mono ?_); rintro e w1 ⟨rfl, rfl⟩)))
    go_ret
    exact ⟨ret_i hv.out.symm, nx⟩
   | true =>
    cases hbb : isBlk b with
    | false =>
     have hv := hid (may_none (h := 2) (b := b) hg (.inr (.inr hbb)))
     rw [hbb] at hB
     replace hB := hid hB
     clear hg hh hbb
     go_enter Tryz.func92, Tryz.ntmps92
     go_wp2_with (go_at_call 80; ((with_reducible refine (hG.out _ nx).mono ?_); rintro e w1 ⟨rfl, hb1⟩; replace k0 := k0.step hb1; replace nx := bgo nx hb1; clear e0 e1 e2 e3 e4 e5 e6 e7 e8 e9 l0'; obtain ⟨e0, e1, e2, e3, e4, e5, e6, e7, e8, e9⟩ := k0.c10; have l0' := k0.lt))
     go_wp2_with (first | (go_at_call 89; ((with_reducible refine (hH.out _).mono ?_); rintro e w1 ⟨rfl, rfl⟩)) | (go_at_call 109; ((with_reducible refine (hB.out _).mono ?_); rintro e w1 ⟨rfl, rfl⟩)))
     go_ret
     exact ⟨ret_i hv.out.symm, nx⟩
    | true =>
     have hv := hid (may_ok (h := 2) (b := b) hg (by decide) (by simp [getH]) hbb)
     rw [hbb] at hB
     replace hB := hid hB
     clear hg hh hbb
     go_enter Tryz.func92, Tryz.ntmps92
     go_wp2_with (go_at_call 80; ((with_reducible refine (hG.out _ nx).mono ?_); rintro e w1 ⟨rfl, hb1⟩; replace k0 := k0.step hb1; replace nx := bgo nx hb1; clear e0 e1 e2 e3 e4 e5 e6 e7 e8 e9 l0'; obtain ⟨e0, e1, e2, e3, e4, e5, e6, e7, e8, e9⟩ := k0.c10; have l0' := k0.lt))
     go_wp2_with (first | (go_at_call 89; ((with_reducible refine (hH.out _).mono ?_); rintro e w1 ⟨rfl, rfl⟩)) | (go_at_call 109; ((with_reducible refine (hB.out _).mono ?_); rintro e w1 ⟨rfl, rfl⟩)))
     go_ret
     exact ⟨ret_i hv.out.symm, nx⟩
theorem txn_pay_free0 (seq : Int) (mt dt : List Cpy) (rev : List Int) (o0 o1 o2 : Bool) (l0 l1 l2 : Int) (am ad ar : Option Addr) (cm cd cr : Nat) (b : Int) (g : Nat) (w : World) (k0 : Blk w g #[.int .i64 seq, .slice am mt.length cm, .slice ad dt.length cd, .slice ar rev.length cr, .bool o0, .int .i64 l0, .bool o1, .int .i64 l1, .bool o2, .int .i64 l2] 43) (hs : rise (blks mt) = true) (hm : RL cpyC w (.slice am mt.length cm) mt) (hr : RL intC w (.slice ar rev.length cr) rev) (n1 : mt.length <= 5864062014805) (n3 : rev.length <= 17592186044160) (hf : (hasB mt b || inI rev b) = true) :
    Calls Tryz.prog 94 #[.pointer (some ⟨g, 0, none⟩), .int .i64 0, .int .i64 b] w fun e w' => e = .returned (.int .i64 0) /\ Below w.heap.size w w' := by
 have hM := txn_has mt b _ w hs hm n1
 have hC := hid (fun w' (hh : RL intC w' (.slice ar rev.length cr) rev) => slices_ContainsI rev b _ w' hh n3)
 replace hr := hid hr
 obtain ⟨e0, e1, e2, e3, e4, e5, e6, e7, e8, e9⟩ := k0.c10; have l0' := k0.lt; have f5 := k0.free 5; have f7 := k0.free 7; have f9 := k0.free 9
 clear hm hs
 cases hb : hasB mt b with
 | true =>
  rw [hb] at hM
  replace hM := hid hM
  clear hb hf
  go_enter Tryz.func94, Tryz.ntmps94
  go_wp2_with (go_at_call 93; ((with_reducible refine hM.out.mono ?_); rintro e w1 ⟨rfl, hb1⟩; replace k0 := k0.step hb1; have nx := hb1; have hr1 := hid (hr.out.below hb1); replace hC := hid (hC.out _ hr1.out); clear e0 e1 e2 e3 e4 e5 e6 e7 e8 e9 l0' f5 f7 f9; obtain ⟨e0, e1, e2, e3, e4, e5, e6, e7, e8, e9⟩ := k0.c10; have l0' := k0.lt; have f5 := k0.free 5; have f7 := k0.free 7; have f9 := k0.free 9))
  go_ret
  exact ⟨rfl, nx⟩
 | false =>
  rw [hb] at hM hf
  rw [Bool.false_or] at hf
  rw [hf] at hC
  replace hM := hid hM
  clear hb hf
  go_enter Tryz.func94, Tryz.ntmps94
  go_wp2_with (first | (go_at_call 93; ((with_reducible refine hM.out.mono ?_); rintro e w1 ⟨rfl, hb1⟩; replace k0 := k0.step hb1; have nx := hb1; have hr1 := hid (hr.out.below hb1); replace hC := hid (hC.out _ hr1.out); clear e0 e1 e2 e3 e4 e5 e6 e7 e8 e9 l0' f5 f7 f9; obtain ⟨e0, e1, e2, e3, e4, e5, e6, e7, e8, e9⟩ := k0.c10; have l0' := k0.lt; have f5 := k0.free 5; have f7 := k0.free 7; have f9 := k0.free 9)) | (go_at_call 88; ((with_reducible refine hC.out.mono ?_); rintro e w2 ⟨rfl, rfl⟩)))
  go_ret
  exact ⟨rfl, nx⟩
theorem txn_pay_none0 (seq : Int) (mt dt : List Cpy) (rev : List Int) (o0 o1 o2 : Bool) (l0 l1 l2 : Int) (am ad ar : Option Addr) (cm cd cr : Nat) (b : Int) (g : Nat) (w : World) (k0 : Blk w g #[.int .i64 seq, .slice am mt.length cm, .slice ad dt.length cd, .slice ar rev.length cr, .bool o0, .int .i64 l0, .bool o1, .int .i64 l1, .bool o2, .int .i64 l2] 43) (hs : rise (blks mt) = true) (hm : RL cpyC w (.slice am mt.length cm) mt) (hr : RL intC w (.slice ar rev.length cr) rev) (n1 : mt.length <= 5864062014805) (n3 : rev.length <= 17592186044160) (hf : (hasB mt b || inI rev b) = false) (h0 : l0 = 0) :
    Calls Tryz.prog 94 #[.pointer (some ⟨g, 0, none⟩), .int .i64 0, .int .i64 b] w fun e w' => e = .returned (.int .i64 7) /\ Below w.heap.size w w' := by
 have hM := txn_has mt b _ w hs hm n1
 have hC := hid (fun w' (hh : RL intC w' (.slice ar rev.length cr) rev) => slices_ContainsI rev b _ w' hh n3)
 replace hr := hid hr
 obtain ⟨e0, e1, e2, e3, e4, e5, e6, e7, e8, e9⟩ := k0.c10; have l0' := k0.lt; have f5 := k0.free 5; have f7 := k0.free 7; have f9 := k0.free 9
 clear hm hs
 obtain ⟨hb, hf⟩ := Bool.or_eq_false_iff.1 hf
 rw [hb] at hM
 rw [hf] at hC
 replace hM := hid hM
 subst h0
 clear hb hf
 go_enter Tryz.func94, Tryz.ntmps94
 go_wp2_with (first | (go_at_call 93; ((with_reducible refine hM.out.mono ?_); rintro e w1 ⟨rfl, hb1⟩; replace k0 := k0.step hb1; have nx := hb1; have hr1 := hid (hr.out.below hb1); replace hC := hid (hC.out _ hr1.out); clear e0 e1 e2 e3 e4 e5 e6 e7 e8 e9 l0' f5 f7 f9; obtain ⟨e0, e1, e2, e3, e4, e5, e6, e7, e8, e9⟩ := k0.c10; have l0' := k0.lt; have f5 := k0.free 5; have f7 := k0.free 7; have f9 := k0.free 9)) | (go_at_call 88; ((with_reducible refine hC.out.mono ?_); rintro e w2 ⟨rfl, rfl⟩)))
 go_ret
 exact ⟨rfl, nx⟩
theorem txn_pay_one0 (seq : Int) (mt dt : List Cpy) (rev : List Int) (o0 o1 o2 : Bool) (l0 l1 l2 : Int) (am ad ar : Option Addr) (cm cd cr : Nat) (b : Int) (g : Nat) (w : World) (k0 : Blk w g #[.int .i64 seq, .slice am mt.length cm, .slice ad dt.length cd, .slice ar rev.length cr, .bool o0, .int .i64 l0, .bool o1, .int .i64 l1, .bool o2, .int .i64 l2] 43) (hs : rise (blks mt) = true) (hm : RL cpyC w (.slice am mt.length cm) mt) (hr : RL intC w (.slice ar rev.length cr) rev) (n1 : mt.length <= 5864062014805) (n3 : rev.length <= 17592186044160) (hf : (hasB mt b || inI rev b) = false) (h0 : 0 < l0) (h1 : l0 <= 24) :
    Calls Tryz.prog 94 #[.pointer (some ⟨g, 0, none⟩), .int .i64 0, .int .i64 b] w fun e w' => e = .returned (.int .i64 0) /\ ∃ w1, Below w.heap.size w w1 /\ w' = w1.setCell ⟨g, 5, none⟩ (.int .i64 (l0 - 1)) := by
 have hM := txn_has mt b _ w hs hm n1
 have hC := hid (fun w' (hh : RL intC w' (.slice ar rev.length cr) rev) => slices_ContainsI rev b _ w' hh n3)
 replace hr := hid hr
 obtain ⟨e0, e1, e2, e3, e4, e5, e6, e7, e8, e9⟩ := k0.c10; have l0' := k0.lt; have f5 := k0.free 5; have f7 := k0.free 7; have f9 := k0.free 9
 clear hm hs
 obtain ⟨hb, hf⟩ := Bool.or_eq_false_iff.1 hf
 have hnz : ¬ l0 = 0 := by omega
 have hwr : IntKind.i64.wrap (l0 - 1) = l0 - 1 := IntWalk.i64_in _ (by omega)
 rw [hb] at hM
 rw [hf] at hC
 replace hM := hid hM
 clear hb hf
 go_enter Tryz.func94, Tryz.ntmps94
 go_wp2_with (first | (go_at_call 93; ((with_reducible refine hM.out.mono ?_); rintro e w1 ⟨rfl, hb1⟩; replace k0 := k0.step hb1; have nx := hb1; have hr1 := hid (hr.out.below hb1); replace hC := hid (hC.out _ hr1.out); clear e0 e1 e2 e3 e4 e5 e6 e7 e8 e9 l0' f5 f7 f9; obtain ⟨e0, e1, e2, e3, e4, e5, e6, e7, e8, e9⟩ := k0.c10; have l0' := k0.lt; have f5 := k0.free 5; have f7 := k0.free 7; have f9 := k0.free 9)) | (go_at_call 88; ((with_reducible refine hC.out.mono ?_); rintro e w2 ⟨rfl, rfl⟩)))
 go_region_law (fail "no call")
 all_goals go_wp2
 all_goals go_ret
 all_goals exact ⟨rfl, _, nx.drew, rfl⟩
theorem txn_pay_free1 (seq : Int) (mt dt : List Cpy) (rev : List Int) (o0 o1 o2 : Bool) (l0 l1 l2 : Int) (am ad ar : Option Addr) (cm cd cr : Nat) (b : Int) (g : Nat) (w : World) (k0 : Blk w g #[.int .i64 seq, .slice am mt.length cm, .slice ad dt.length cd, .slice ar rev.length cr, .bool o0, .int .i64 l0, .bool o1, .int .i64 l1, .bool o2, .int .i64 l2] 43) (hs : rise (blks mt) = true) (hm : RL cpyC w (.slice am mt.length cm) mt) (hr : RL intC w (.slice ar rev.length cr) rev) (n1 : mt.length <= 5864062014805) (n3 : rev.length <= 17592186044160) (hf : (hasB mt b || inI rev b) = true) :
    Calls Tryz.prog 94 #[.pointer (some ⟨g, 0, none⟩), .int .i64 1, .int .i64 b] w fun e w' => e = .returned (.int .i64 0) /\ Below w.heap.size w w' := by
 have hM := txn_has mt b _ w hs hm n1
 have hC := hid (fun w' (hh : RL intC w' (.slice ar rev.length cr) rev) => slices_ContainsI rev b _ w' hh n3)
 replace hr := hid hr
 obtain ⟨e0, e1, e2, e3, e4, e5, e6, e7, e8, e9⟩ := k0.c10; have l0' := k0.lt; have f5 := k0.free 5; have f7 := k0.free 7; have f9 := k0.free 9
 clear hm hs
 cases hb : hasB mt b with
 | true =>
  rw [hb] at hM
  replace hM := hid hM
  clear hb hf
  go_enter Tryz.func94, Tryz.ntmps94
  go_wp2_with (go_at_call 93; ((with_reducible refine hM.out.mono ?_); rintro e w1 ⟨rfl, hb1⟩; replace k0 := k0.step hb1; have nx := hb1; have hr1 := hid (hr.out.below hb1); replace hC := hid (hC.out _ hr1.out); clear e0 e1 e2 e3 e4 e5 e6 e7 e8 e9 l0' f5 f7 f9; obtain ⟨e0, e1, e2, e3, e4, e5, e6, e7, e8, e9⟩ := k0.c10; have l0' := k0.lt; have f5 := k0.free 5; have f7 := k0.free 7; have f9 := k0.free 9))
  go_ret
  exact ⟨rfl, nx⟩
 | false =>
  rw [hb] at hM hf
  rw [Bool.false_or] at hf
  rw [hf] at hC
  replace hM := hid hM
  clear hb hf
  go_enter Tryz.func94, Tryz.ntmps94
  go_wp2_with (first | (go_at_call 93; ((with_reducible refine hM.out.mono ?_); rintro e w1 ⟨rfl, hb1⟩; replace k0 := k0.step hb1; have nx := hb1; have hr1 := hid (hr.out.below hb1); replace hC := hid (hC.out _ hr1.out); clear e0 e1 e2 e3 e4 e5 e6 e7 e8 e9 l0' f5 f7 f9; obtain ⟨e0, e1, e2, e3, e4, e5, e6, e7, e8, e9⟩ := k0.c10; have l0' := k0.lt; have f5 := k0.free 5; have f7 := k0.free 7; have f9 := k0.free 9)) | (go_at_call 88; ((with_reducible refine hC.out.mono ?_); rintro e w2 ⟨rfl, rfl⟩)))
  go_ret
  exact ⟨rfl, nx⟩
theorem txn_pay_none1 (seq : Int) (mt dt : List Cpy) (rev : List Int) (o0 o1 o2 : Bool) (l0 l1 l2 : Int) (am ad ar : Option Addr) (cm cd cr : Nat) (b : Int) (g : Nat) (w : World) (k0 : Blk w g #[.int .i64 seq, .slice am mt.length cm, .slice ad dt.length cd, .slice ar rev.length cr, .bool o0, .int .i64 l0, .bool o1, .int .i64 l1, .bool o2, .int .i64 l2] 43) (hs : rise (blks mt) = true) (hm : RL cpyC w (.slice am mt.length cm) mt) (hr : RL intC w (.slice ar rev.length cr) rev) (n1 : mt.length <= 5864062014805) (n3 : rev.length <= 17592186044160) (hf : (hasB mt b || inI rev b) = false) (h0 : l1 = 0) :
    Calls Tryz.prog 94 #[.pointer (some ⟨g, 0, none⟩), .int .i64 1, .int .i64 b] w fun e w' => e = .returned (.int .i64 7) /\ Below w.heap.size w w' := by
 have hM := txn_has mt b _ w hs hm n1
 have hC := hid (fun w' (hh : RL intC w' (.slice ar rev.length cr) rev) => slices_ContainsI rev b _ w' hh n3)
 replace hr := hid hr
 obtain ⟨e0, e1, e2, e3, e4, e5, e6, e7, e8, e9⟩ := k0.c10; have l0' := k0.lt; have f5 := k0.free 5; have f7 := k0.free 7; have f9 := k0.free 9
 clear hm hs
 obtain ⟨hb, hf⟩ := Bool.or_eq_false_iff.1 hf
 rw [hb] at hM
 rw [hf] at hC
 replace hM := hid hM
 subst h0
 clear hb hf
 go_enter Tryz.func94, Tryz.ntmps94
 go_wp2_with (first | (go_at_call 93; ((with_reducible refine hM.out.mono ?_); rintro e w1 ⟨rfl, hb1⟩; replace k0 := k0.step hb1; have nx := hb1; have hr1 := hid (hr.out.below hb1); replace hC := hid (hC.out _ hr1.out); clear e0 e1 e2 e3 e4 e5 e6 e7 e8 e9 l0' f5 f7 f9; obtain ⟨e0, e1, e2, e3, e4, e5, e6, e7, e8, e9⟩ := k0.c10; have l0' := k0.lt; have f5 := k0.free 5; have f7 := k0.free 7; have f9 := k0.free 9)) | (go_at_call 88; ((with_reducible refine hC.out.mono ?_); rintro e w2 ⟨rfl, rfl⟩)))
 go_ret
 exact ⟨rfl, nx⟩
theorem txn_pay_one1 (seq : Int) (mt dt : List Cpy) (rev : List Int) (o0 o1 o2 : Bool) (l0 l1 l2 : Int) (am ad ar : Option Addr) (cm cd cr : Nat) (b : Int) (g : Nat) (w : World) (k0 : Blk w g #[.int .i64 seq, .slice am mt.length cm, .slice ad dt.length cd, .slice ar rev.length cr, .bool o0, .int .i64 l0, .bool o1, .int .i64 l1, .bool o2, .int .i64 l2] 43) (hs : rise (blks mt) = true) (hm : RL cpyC w (.slice am mt.length cm) mt) (hr : RL intC w (.slice ar rev.length cr) rev) (n1 : mt.length <= 5864062014805) (n3 : rev.length <= 17592186044160) (hf : (hasB mt b || inI rev b) = false) (h0 : 0 < l1) (h1 : l1 <= 24) :
    Calls Tryz.prog 94 #[.pointer (some ⟨g, 0, none⟩), .int .i64 1, .int .i64 b] w fun e w' => e = .returned (.int .i64 0) /\ ∃ w1, Below w.heap.size w w1 /\ w' = w1.setCell ⟨g, 7, none⟩ (.int .i64 (l1 - 1)) := by
 have hM := txn_has mt b _ w hs hm n1
 have hC := hid (fun w' (hh : RL intC w' (.slice ar rev.length cr) rev) => slices_ContainsI rev b _ w' hh n3)
 replace hr := hid hr
 obtain ⟨e0, e1, e2, e3, e4, e5, e6, e7, e8, e9⟩ := k0.c10; have l0' := k0.lt; have f5 := k0.free 5; have f7 := k0.free 7; have f9 := k0.free 9
 clear hm hs
 obtain ⟨hb, hf⟩ := Bool.or_eq_false_iff.1 hf
 have hnz : ¬ l1 = 0 := by omega
 have hwr : IntKind.i64.wrap (l1 - 1) = l1 - 1 := IntWalk.i64_in _ (by omega)
 rw [hb] at hM
 rw [hf] at hC
 replace hM := hid hM
 clear hb hf
 go_enter Tryz.func94, Tryz.ntmps94
 go_wp2_with (first | (go_at_call 93; ((with_reducible refine hM.out.mono ?_); rintro e w1 ⟨rfl, hb1⟩; replace k0 := k0.step hb1; have nx := hb1; have hr1 := hid (hr.out.below hb1); replace hC := hid (hC.out _ hr1.out); clear e0 e1 e2 e3 e4 e5 e6 e7 e8 e9 l0' f5 f7 f9; obtain ⟨e0, e1, e2, e3, e4, e5, e6, e7, e8, e9⟩ := k0.c10; have l0' := k0.lt; have f5 := k0.free 5; have f7 := k0.free 7; have f9 := k0.free 9)) | (go_at_call 88; ((with_reducible refine hC.out.mono ?_); rintro e w2 ⟨rfl, rfl⟩)))
 go_region_law (fail "no call")
 all_goals go_wp2
 all_goals go_ret
 all_goals exact ⟨rfl, _, nx.drew, rfl⟩
theorem txn_pay_free2 (seq : Int) (mt dt : List Cpy) (rev : List Int) (o0 o1 o2 : Bool) (l0 l1 l2 : Int) (am ad ar : Option Addr) (cm cd cr : Nat) (b : Int) (g : Nat) (w : World) (k0 : Blk w g #[.int .i64 seq, .slice am mt.length cm, .slice ad dt.length cd, .slice ar rev.length cr, .bool o0, .int .i64 l0, .bool o1, .int .i64 l1, .bool o2, .int .i64 l2] 43) (hs : rise (blks mt) = true) (hm : RL cpyC w (.slice am mt.length cm) mt) (hr : RL intC w (.slice ar rev.length cr) rev) (n1 : mt.length <= 5864062014805) (n3 : rev.length <= 17592186044160) (hf : (hasB mt b || inI rev b) = true) :
    Calls Tryz.prog 94 #[.pointer (some ⟨g, 0, none⟩), .int .i64 2, .int .i64 b] w fun e w' => e = .returned (.int .i64 0) /\ Below w.heap.size w w' := by
 have hM := txn_has mt b _ w hs hm n1
 have hC := hid (fun w' (hh : RL intC w' (.slice ar rev.length cr) rev) => slices_ContainsI rev b _ w' hh n3)
 replace hr := hid hr
 obtain ⟨e0, e1, e2, e3, e4, e5, e6, e7, e8, e9⟩ := k0.c10; have l0' := k0.lt; have f5 := k0.free 5; have f7 := k0.free 7; have f9 := k0.free 9
 clear hm hs
 cases hb : hasB mt b with
 | true =>
  rw [hb] at hM
  replace hM := hid hM
  clear hb hf
  go_enter Tryz.func94, Tryz.ntmps94
  go_wp2_with (go_at_call 93; ((with_reducible refine hM.out.mono ?_); rintro e w1 ⟨rfl, hb1⟩; replace k0 := k0.step hb1; have nx := hb1; have hr1 := hid (hr.out.below hb1); replace hC := hid (hC.out _ hr1.out); clear e0 e1 e2 e3 e4 e5 e6 e7 e8 e9 l0' f5 f7 f9; obtain ⟨e0, e1, e2, e3, e4, e5, e6, e7, e8, e9⟩ := k0.c10; have l0' := k0.lt; have f5 := k0.free 5; have f7 := k0.free 7; have f9 := k0.free 9))
  go_ret
  exact ⟨rfl, nx⟩
 | false =>
  rw [hb] at hM hf
  rw [Bool.false_or] at hf
  rw [hf] at hC
  replace hM := hid hM
  clear hb hf
  go_enter Tryz.func94, Tryz.ntmps94
  go_wp2_with (first | (go_at_call 93; ((with_reducible refine hM.out.mono ?_); rintro e w1 ⟨rfl, hb1⟩; replace k0 := k0.step hb1; have nx := hb1; have hr1 := hid (hr.out.below hb1); replace hC := hid (hC.out _ hr1.out); clear e0 e1 e2 e3 e4 e5 e6 e7 e8 e9 l0' f5 f7 f9; obtain ⟨e0, e1, e2, e3, e4, e5, e6, e7, e8, e9⟩ := k0.c10; have l0' := k0.lt; have f5 := k0.free 5; have f7 := k0.free 7; have f9 := k0.free 9)) | (go_at_call 88; ((with_reducible refine hC.out.mono ?_); rintro e w2 ⟨rfl, rfl⟩)))
  go_ret
  exact ⟨rfl, nx⟩
theorem txn_pay_none2 (seq : Int) (mt dt : List Cpy) (rev : List Int) (o0 o1 o2 : Bool) (l0 l1 l2 : Int) (am ad ar : Option Addr) (cm cd cr : Nat) (b : Int) (g : Nat) (w : World) (k0 : Blk w g #[.int .i64 seq, .slice am mt.length cm, .slice ad dt.length cd, .slice ar rev.length cr, .bool o0, .int .i64 l0, .bool o1, .int .i64 l1, .bool o2, .int .i64 l2] 43) (hs : rise (blks mt) = true) (hm : RL cpyC w (.slice am mt.length cm) mt) (hr : RL intC w (.slice ar rev.length cr) rev) (n1 : mt.length <= 5864062014805) (n3 : rev.length <= 17592186044160) (hf : (hasB mt b || inI rev b) = false) (h0 : l2 = 0) :
    Calls Tryz.prog 94 #[.pointer (some ⟨g, 0, none⟩), .int .i64 2, .int .i64 b] w fun e w' => e = .returned (.int .i64 7) /\ Below w.heap.size w w' := by
 have hM := txn_has mt b _ w hs hm n1
 have hC := hid (fun w' (hh : RL intC w' (.slice ar rev.length cr) rev) => slices_ContainsI rev b _ w' hh n3)
 replace hr := hid hr
 obtain ⟨e0, e1, e2, e3, e4, e5, e6, e7, e8, e9⟩ := k0.c10; have l0' := k0.lt; have f5 := k0.free 5; have f7 := k0.free 7; have f9 := k0.free 9
 clear hm hs
 obtain ⟨hb, hf⟩ := Bool.or_eq_false_iff.1 hf
 rw [hb] at hM
 rw [hf] at hC
 replace hM := hid hM
 subst h0
 clear hb hf
 go_enter Tryz.func94, Tryz.ntmps94
 go_wp2_with (first | (go_at_call 93; ((with_reducible refine hM.out.mono ?_); rintro e w1 ⟨rfl, hb1⟩; replace k0 := k0.step hb1; have nx := hb1; have hr1 := hid (hr.out.below hb1); replace hC := hid (hC.out _ hr1.out); clear e0 e1 e2 e3 e4 e5 e6 e7 e8 e9 l0' f5 f7 f9; obtain ⟨e0, e1, e2, e3, e4, e5, e6, e7, e8, e9⟩ := k0.c10; have l0' := k0.lt; have f5 := k0.free 5; have f7 := k0.free 7; have f9 := k0.free 9)) | (go_at_call 88; ((with_reducible refine hC.out.mono ?_); rintro e w2 ⟨rfl, rfl⟩)))
 go_ret
 exact ⟨rfl, nx⟩
theorem txn_pay_one2 (seq : Int) (mt dt : List Cpy) (rev : List Int) (o0 o1 o2 : Bool) (l0 l1 l2 : Int) (am ad ar : Option Addr) (cm cd cr : Nat) (b : Int) (g : Nat) (w : World) (k0 : Blk w g #[.int .i64 seq, .slice am mt.length cm, .slice ad dt.length cd, .slice ar rev.length cr, .bool o0, .int .i64 l0, .bool o1, .int .i64 l1, .bool o2, .int .i64 l2] 43) (hs : rise (blks mt) = true) (hm : RL cpyC w (.slice am mt.length cm) mt) (hr : RL intC w (.slice ar rev.length cr) rev) (n1 : mt.length <= 5864062014805) (n3 : rev.length <= 17592186044160) (hf : (hasB mt b || inI rev b) = false) (h0 : 0 < l2) (h1 : l2 <= 24) :
    Calls Tryz.prog 94 #[.pointer (some ⟨g, 0, none⟩), .int .i64 2, .int .i64 b] w fun e w' => e = .returned (.int .i64 0) /\ ∃ w1, Below w.heap.size w w1 /\ w' = w1.setCell ⟨g, 9, none⟩ (.int .i64 (l2 - 1)) := by
 have hM := txn_has mt b _ w hs hm n1
 have hC := hid (fun w' (hh : RL intC w' (.slice ar rev.length cr) rev) => slices_ContainsI rev b _ w' hh n3)
 replace hr := hid hr
 obtain ⟨e0, e1, e2, e3, e4, e5, e6, e7, e8, e9⟩ := k0.c10; have l0' := k0.lt; have f5 := k0.free 5; have f7 := k0.free 7; have f9 := k0.free 9
 clear hm hs
 obtain ⟨hb, hf⟩ := Bool.or_eq_false_iff.1 hf
 have hnz : ¬ l2 = 0 := by omega
 have hwr : IntKind.i64.wrap (l2 - 1) = l2 - 1 := IntWalk.i64_in _ (by omega)
 rw [hb] at hM
 rw [hf] at hC
 replace hM := hid hM
 clear hb hf
 go_enter Tryz.func94, Tryz.ntmps94
 go_wp2_with (first | (go_at_call 93; ((with_reducible refine hM.out.mono ?_); rintro e w1 ⟨rfl, hb1⟩; replace k0 := k0.step hb1; have nx := hb1; have hr1 := hid (hr.out.below hb1); replace hC := hid (hC.out _ hr1.out); clear e0 e1 e2 e3 e4 e5 e6 e7 e8 e9 l0' f5 f7 f9; obtain ⟨e0, e1, e2, e3, e4, e5, e6, e7, e8, e9⟩ := k0.c10; have l0' := k0.lt; have f5 := k0.free 5; have f7 := k0.free 7; have f9 := k0.free 9)) | (go_at_call 88; ((with_reducible refine hC.out.mono ?_); rintro e w2 ⟨rfl, rfl⟩)))
 go_region_law (fail "no call")
 all_goals go_wp2
 all_goals go_ret
 all_goals exact ⟨rfl, _, nx.drew, rfl⟩
end Go.Proofs.YtjhmfljlclajnadGreatDoor
namespace Wb
open Go Go.RowKit
def txnL (t : Txn) (vm vd vr : Value) : List Value := [.int .i64 t.seq, vm, vd, vr, .bool t.h0.on, .int .i64 t.h0.left, .bool t.h1.on, .int .i64 t.h1.left, .bool t.h2.on, .int .i64 t.h2.left]
end Wb
namespace Go.Proofs.YtjhmfljlclajnadGreatDoor
open Go.RowKit Wb
theorem txn_pay (t : Txn) (am ad ar : Option Addr) (cm cd cr : Nat) (h b : Int) (g : Nat) (w : World) (k0 : Blk w g (txnL t (.slice am t.mt.length cm) (.slice ad t.dt.length cd) (.slice ar t.rev.length cr)).toArray 43)
    (hg : GoodT t) (hm : RL cpyC w (.slice am t.mt.length cm) t.mt) (hr : RL intC w (.slice ar t.rev.length cr) t.rev) (hh : 0 <= h /\ h <= 2) :
    Calls Tryz.prog 94 #[.pointer (some ⟨g, 0, none⟩), .int .i64 h, .int .i64 b] w fun e w' => e = .returned (.int .i64 (payE t h b)) /\ Blk w' g (txnL (payU t h b) (.slice am t.mt.length cm) (.slice ad t.dt.length cd) (.slice ar t.rev.length cr)).toArray 43 /\ Mv [g] w w' := by
 obtain ⟨n1, _, n3⟩ := lens hg
 have hs := copies_rise hg.mt
 obtain ⟨l0, l1, l2⟩ := hnds_bd hg
 have hlt := k0.lt
 obtain ⟨seq, mt, dt, rev, ⟨o0, x0⟩, ⟨o1, x1⟩, ⟨o2, x2⟩⟩ := t
 dsimp only [txnL] at *
 unfold payU payE payT owed
 dsimp only
 cases hf : (hasB mt b || inI rev b) with
 | true =>
  rw [if_neg (by simp), if_pos rfl, if_neg (by simp)]
  obtain (rfl | rfl | rfl) : h = 0 \/ h = 1 \/ h = 2 := by omega
  ·refine (txn_pay_free0 seq mt dt rev o0 o1 o2 x0 x1 x2 am ad ar cm cd cr b g w k0 hs hm hr (by omega) (by omega) hf).mono ?_
   rintro e w' ⟨rfl, hb⟩
   exact ⟨rfl, k0.step hb, Mv.ofBelow hb⟩
  ·refine (txn_pay_free1 seq mt dt rev o0 o1 o2 x0 x1 x2 am ad ar cm cd cr b g w k0 hs hm hr (by omega) (by omega) hf).mono ?_
   rintro e w' ⟨rfl, hb⟩
   exact ⟨rfl, k0.step hb, Mv.ofBelow hb⟩
  ·refine (txn_pay_free2 seq mt dt rev o0 o1 o2 x0 x1 x2 am ad ar cm cd cr b g w k0 hs hm hr (by omega) (by omega) hf).mono ?_
   rintro e w' ⟨rfl, hb⟩
   exact ⟨rfl, k0.step hb, Mv.ofBelow hb⟩
 | false =>
  obtain (rfl | rfl | rfl) : h = 0 \/ h = 1 \/ h = 2 := by omega
  ·by_cases hz : x0 = 0
   ·rw [if_pos ⟨rfl, hz⟩, if_neg (by decide)]
    refine (txn_pay_none0 seq mt dt rev o0 o1 o2 x0 x1 x2 am ad ar cm cd cr b g w k0 hs hm hr (by omega) (by omega) hf hz).mono ?_
    rintro e w' ⟨rfl, hb⟩
    exact ⟨rfl, k0.step hb, Mv.ofBelow hb⟩
   ·rw [if_neg (fun hh => hz hh.2), if_pos rfl, if_pos (by simp)]
    refine (txn_pay_one0 seq mt dt rev o0 o1 o2 x0 x1 x2 am ad ar cm cd cr b g w k0 hs hm hr (by omega) (by omega) hf (by omega) (by omega)).mono ?_
    rintro e w' ⟨rfl, w1, hb, rfl⟩
    exact ⟨rfl, by simpa [setH, getH] using (k0.step hb).set 5 (.int .i64 (x0 - 1)), (Mv.ofBelow hb).then (Mv.set w1 ⟨g, 5, none⟩ _) (by simp)⟩
  ·by_cases hz : x1 = 0
   ·rw [if_pos ⟨rfl, hz⟩, if_neg (by decide)]
    refine (txn_pay_none1 seq mt dt rev o0 o1 o2 x0 x1 x2 am ad ar cm cd cr b g w k0 hs hm hr (by omega) (by omega) hf hz).mono ?_
    rintro e w' ⟨rfl, hb⟩
    exact ⟨rfl, k0.step hb, Mv.ofBelow hb⟩
   ·rw [if_neg (fun hh => hz hh.2), if_pos rfl, if_pos (by simp)]
    refine (txn_pay_one1 seq mt dt rev o0 o1 o2 x0 x1 x2 am ad ar cm cd cr b g w k0 hs hm hr (by omega) (by omega) hf (by omega) (by omega)).mono ?_
    rintro e w' ⟨rfl, w1, hb, rfl⟩
    exact ⟨rfl, by simpa [setH, getH] using (k0.step hb).set 7 (.int .i64 (x1 - 1)), (Mv.ofBelow hb).then (Mv.set w1 ⟨g, 7, none⟩ _) (by simp)⟩
  ·by_cases hz : x2 = 0
   ·rw [if_pos ⟨rfl, hz⟩, if_neg (by decide)]
    refine (txn_pay_none2 seq mt dt rev o0 o1 o2 x0 x1 x2 am ad ar cm cd cr b g w k0 hs hm hr (by omega) (by omega) hf hz).mono ?_
    rintro e w' ⟨rfl, hb⟩
    exact ⟨rfl, k0.step hb, Mv.ofBelow hb⟩
   ·rw [if_neg (fun hh => hz hh.2), if_pos rfl, if_pos (by simp)]
    refine (txn_pay_one2 seq mt dt rev o0 o1 o2 x0 x1 x2 am ad ar cm cd cr b g w k0 hs hm hr (by omega) (by omega) hf (by omega) (by omega)).mono ?_
    rintro e w' ⟨rfl, w1, hb, rfl⟩
    exact ⟨rfl, by simpa [setH, getH] using (k0.step hb).set 9 (.int .i64 (x2 - 1)), (Mv.ofBelow hb).then (Mv.set w1 ⟨g, 9, none⟩ _) (by simp)⟩
theorem slices_DeleteFuncI (l : List Int) (b : Int) (v : Value) (gb base : Nat) (w : World) (h : Wb.Own intC base 3 1 w v l) (hbase : base <= w.heap.size) (hgb : gb < base) (hc : w.cell? ⟨gb, 0, none⟩ = some (.int .i64 b)) (hl : l.length <= 17592186044160) :
    Calls Tryz.prog 95 #[v, .func (.func 96) #[] #[.pointer (some ⟨gb, 0, none⟩)]] w fun e w' => ∃ v', e = .returned v' /\ Wb.Own intC base 3 1 w' v' (l.filter (fun x => !(x == b))) /\ Below base w w' := by
 have hIF := slices_IndexFuncI l b v gb w h.reads hc hl
 rcases idxK_spec (fun x => x) l b with ⟨e1, hno⟩ | ⟨k, e1, hk, hkb, hno⟩
 ·rw [e1] at hIF
  have e2 : l.filter (fun x => !(x == b)) = l := filter_all (fun i hi => by simpa using hno i hi)
  rw [e2]
  obtain ⟨a, cap, rfl⟩ := h.form
  replace hIF := hid hIF; replace h := hid h
  clear e1 e2 hno
  go_enter Tryz.func95, Tryz.ntmps95
  go_wp2_with (go_at_call 115; ((with_reducible refine hIF.out.mono ?_); rintro e w1 ⟨rfl, hb1⟩))
  go_ret
  exact ⟨_, rfl, h.out.below hb1, hb1.mono hbase⟩
 ·rw [e1] at hIF
  have hK0 : KeptI (fun x => !(x == b)) l (k + 1) k l := KeptI.start hk (fun i hi h2 => by simpa using hno i h2) (by simpa using hkb)
  obtain ⟨g, cap, cur, rfl, hbg, hkk, hcap, hmax, hsz, htk⟩ := h.row (by omega)
  have hC := hid (fun x w hc => txn_Change1 x b gb w hc)
  have hne1 : ((k : Int) == -1) = false := beq_eq_false_iff_ne.2 (by omega)
  have hKp : Hid (KeptI (fun x => !(x == b)) l (k + 1) k l) := hid hK0
  have hle := hKp.out.le
  replace hIF := hid hIF; replace h := hid h; replace hc := hid hc
  clear e1 hno hkb hK0 hkk hsz htk cur
  go_enter Tryz.func95, Tryz.ntmps95
  go_wp2_with (go_at_call 115; ((with_reducible refine hIF.out.mono ?_); rintro e w1 ⟨rfl, hb1⟩; have h1 := hid (h.out.below hb1); have hc1 := hid (cell_below hb1 hc.out); have nx := hb1.mono hbase; clear h hc hIF))
  go_loopg [5, 6, 7] l.length (fun gg s5 s6 _ wr => ∃ (i j : Nat) (lk : List Int), s5 = .int .i64 i /\ s6 = .int .i64 j /\ j <= l.length /\ i < j /\ l.length - j <= gg /\ Below base w wr /\ Hid (wr.cell? ⟨gb, 0, none⟩ = some (.int .i64 b)) /\ Hid (Wb.Own intC base 3 1 wr (.slice (some ⟨g, 0, none⟩) l.length cap) lk) /\ Hid (KeptI (fun x => !(x == b)) l j i lk))
  case atStart => exact ⟨k, k + 1, l, rfl, by go_num, by omega, by omega, by omega, nx, hc1, h1, hKp⟩
  case round =>
   clear nx hc1 h1 hKp hb1
   obtain ⟨i, j, lk, rfl, rfl, hjl, hij, hgg, nx, hcw, ho, hK⟩ := hrel
   by_cases hlt : j < l.length
   ·obtain ⟨hjk, hje⟩ := hK.out.get hlt
    obtain ⟨b1, o1, hae, c0⟩ := RL.at1 (fun x => .int .i64 x) (fun _ => rfl) ho.out.reads hjk
    simp only [Option.some.injEq, Addr.mk.injEq, and_true] at hae
    obtain ⟨rfl, rfl⟩ := hae
    rw [hje] at c0
    simp only [Nat.zero_add] at c0
    have hCx := hC.out l[j] wr hcw.out
    by_cases hb : l[j] = b
    ·have hK2 := hid (hK.out.skip hlt (by simpa using hb))
     have e1 : (l[j] == b) = true := beq_iff_eq.2 hb
     rw [e1] at hCx
     replace hCx := hid hCx
     clear hb e1 hK hje
     generalize l[j] = x at *
     go_wp2_with (go_at_call 96; ((with_reducible refine hCx.out.mono ?_); rintro e w1 ⟨rfl, hb1⟩; have ho2 := hid (ho.out.below hb1); have hcw2 := hid (cell_below hb1 hcw.out); have nx2 := nx.trans (hb1.mono (Nat.le_trans hbase nx.size))))
     go_roundg (l.length - (j + 1))
     case measure => omega
     case rel => exact ⟨i, j + 1, lk, rfl, by go_num, by omega, by omega, Nat.le_refl _, nx2, hcw2, ho2, hK2⟩
    ·have hK2 := hid (hK.out.keep hlt (by simpa using hb))
     have hil : i < lk.length := by omega
     have e1 : (l[j] == b) = false := beq_eq_false_iff_ne.2 hb
     rw [e1] at hCx
     replace hCx := hid hCx
     clear hb e1 hK hje
     have hin : i < l.length := by omega
     generalize l[j] = x at *
     go_wp2_with (go_at_call 96; ((with_reducible refine hCx.out.mono ?_); rintro e w1 ⟨rfl, hb1⟩; have ho2 := ho.out.below hb1; have hcw2 := hid (cell_below hb1 hcw.out); have nx2 := nx.trans (hb1.mono (Nat.le_trans hbase nx.size)); obtain ⟨g2, cap2, hv2, hb2, hg2, hq, hnew⟩ := Own.poke intC_flat ho2 hil; simp only [Value.slice.injEq, Option.some.injEq, Addr.mk.injEq, and_true, true_and] at hv2; obtain ⟨rfl, -, rfl⟩ := hv2; have q0 := (hq 0 (by decide)).1; have q1 := (hq 0 (by decide)).2; simp only [intC, Nat.mul_one, Nat.add_zero, List.getElem?_cons_zero] at q0 q1; replace hnew := hid hnew; clear hq))
     go_roundg (l.length - (j + 1))
     case measure => omega
     case rel => exact ⟨i + 1, j + 1, lk.set i x, by go_num, by go_num, by omega, by omega, Nat.le_refl _, nx2.setCell hbg _, hid (by rw [World.cell?_setCell_other _ _ _ _ (fun hh => by simp only [Addr.mk.injEq] at hh; omega)]; exact hcw2.out), hid (by have := hnew.out 0 x (.int .i64 x) (by decide) rfl; rw [Nat.mul_one, Nat.add_zero] at this; exact this), hK2⟩
   ·obtain rfl : j = l.length := by omega
    obtain ⟨hd1, hd2⟩ := hK.out.done (Nat.le_refl _)
    have hlk := hK.out.1
    have hcut := hid (fun zs hz => Own.cut (i := i) intC_flat (by rw [hlk]; exact ho.out) (by omega) zs hz)
    obtain ⟨g', cap', cur', hv', hbg', hkk, hcap', hmax', hsz, htk⟩ := ho.out.row (by omega)
    simp only [Value.slice.injEq, Option.some.injEq, Addr.mk.injEq, and_true, true_and] at hv'
    obtain ⟨rfl, -, rfl⟩ := hv'
    have hcl : ∀ ty, (Builtin.clear_ #[38] ty #[.slice (some ⟨g, i, none⟩) (l.length - i) (cap - i)]).run Tryz.prog wr = .ok (.tuple #[]) (wr.setCells g (i) (Builtin.zeroCells (.int .i64 0 : Value).cells (l.length - i)).toList) :=
     fun ty => run_clear_c wr _ _ ty (.int .i64 0) elemIntT.under (fun _ => rfl) (by decide) (by decide) g _ _ _ (by omega)
      (fun t ht => by rw [hkk.cell, Array.getElem?_eq_getElem (by rw [hsz]; simp [Value.cells] at ht; omega)]; rfl) (fun t ht => hkk.free _)
    have hzl : i * 1 + (Builtin.zeroCells (.int .i64 0 : Value).cells (l.length - i)).toList.length <= l.length * 1 := by
     rw [Array.length_toList, size_zeroCells]
     have := mul_split (c := 1) (n := l.length) (i := i) (by omega)
     simp only [Value.cells] at this ⊢
     simp
     omega
    have hfin := hcut.out _ (by rw [hlk]; exact hzl)
    rw [hd1] at hfin
    have nz := Wb.Below.sets g hbg (Builtin.zeroCells (.int .i64 0 : Value).cells (l.length - i)).toList (i * 1) _ nx
    simp only [Nat.mul_one] at hfin nz
    replace hfin := hid hfin; replace nz := hid nz
    clear hcut hkk hsz htk hzl hK ho hd1 hd2 hlk
    generalize (Builtin.zeroCells (.int .i64 0 : Value).cells (l.length - i)).toList = zs at *
    have hil : (i : Int) <= (l.length : Int) := by omega
    have hci : ¬ (cap = i) := by omega
    go_wp2
    go_ret
    exact ⟨_, rfl, hfin.out, nz.out⟩
theorem txn_Change_no (t : Txn) (h b : Int) (s : ByteArray) (v : Value) (w : World) (ht : RTxn w v t) (hz : ¬ mayE t h b = 0) :
    Calls Tryz.prog 62 #[v, .int .i64 h, .int .i64 b, .string s] w fun e w' => e = .returned (.tuple #[v, .int .i64 (mayE t h b)]) /\ Below w.heap.size w w' := by
 have hMay := fun w' (hb : Below w.heap.size w w') => txn_may t h b _ w' (ht.below hb)
 obtain ⟨vm, vd, vr, rfl, hm, hd, hr, n1, n2, n3⟩ := ht
 obtain ⟨am, cm, rfl, _⟩ := hm.form
 obtain ⟨ad, cd, rfl, _⟩ := hd.form
 obtain ⟨ar, cr, rfl, _⟩ := hr.form
 generalize mayE t h b = E at *
 replace hMay := hid hMay
 clear hm hd hr
 unfold txnV at hMay ⊢
 have X := St.start [] w
 go_enter Tryz.func62, Tryz.ntmps62
 go_wp2_with (first | (refine ZcL ?_) | (refine ZcS ?_; clear X; intro w X) | (refine ZcA ?_; clear X; intro g w X) | (go_at_call 92; ((with_reducible refine (hMay.out _ X.below).mono ?_); rintro e w1 ⟨rfl, hb1⟩; replace X := X.call hb1; clear hb1)))
 exact m_ret2 rfl (.tmp rfl rfl) (.tmp rfl rfl) X (.head _) rfl rfl ⟨rfl, X.below⟩
theorem txn_Change_go (t : Txn) (h b : Int) (s : ByteArray) (vm vd vr : Value) (w : World) (ht : RTxn w (txnV t vm vd vr) t) (hz : mayE t h b = 0) :
    Calls Tryz.prog 62 #[txnV t vm vd vr, .int .i64 h, .int .i64 b, .string s] w fun e w' => ∃ vm' vd' vr', e = .returned (.tuple #[txnV (chgT t h b s) vm' vd' vr', .int .i64 (chgE t h b s)]) /\ NewT w.heap.size w' vm vd vr vm' vd' vr' t (chgT t h b s) /\ Below w.heap.size w w' := by
 have hMay := fun w' (hb : Below w.heap.size w w') => txn_may t h b _ w' (ht.below hb)
 rw [hz] at hMay
 obtain ⟨hgt, hh, ho, hb⟩ := may_zero hz
 have hg := goodT_of.1 hgt
 obtain ⟨vm', vd', vr', hvv, hm, hd, hr, n1, n2, n3⟩ := ht
 simp only [txnV, Value.agg.injEq, Array.mk.injEq, List.cons.injEq, and_true, true_and] at hvv
 obtain ⟨rfl, rfl, rfl⟩ := hvv
 obtain ⟨am, cm, rfl, _⟩ := hm.form
 obtain ⟨ad, cd, rfl, _⟩ := hd.form
 obtain ⟨ar, cr, rfl, _⟩ := hr.form
 obtain ⟨l1, l2, l3⟩ := lens hg
 have hHas := fun w' (hb : Below w.heap.size w w') => txn_has t.dt b _ w' (copies_rise hg.dt) (hd.below hb) (by omega)
 have hPay := fun w' g (hb : Below w.heap.size w w') k0 => txn_pay t am ad ar cm cd cr h b g w' k0 hg (hm.below hb) (hr.below hb) hh
 have hCl := fun w' (hb : Below w.heap.size w w') => slices_CloneI t.rev _ w' (hr.below hb) (by omega)
 have hDel := fun v w' gb base h1 h2 h3 h4 => slices_DeleteFuncI t.rev b v gb base w' h1 h2 h3 h4 (by omega)
 have hPut := fun w' (hb : Below w.heap.size w w') => txn_put t.mt b s _ w' (copies_rise hg.mt) (hm.below hb) (by omega)
 have hoff : t.rev.filter (fun x => !(x == b)) = offI t.rev b := by unfold offI; congr 1
 obtain ⟨D, hD⟩ : ∃ D, hasB t.dt b = D := ⟨_, rfl⟩
 obtain ⟨E, hE⟩ : ∃ E, payE t h b = E := ⟨_, rfl⟩
 rw [hD] at hHas
 rw [hE] at hPay
 simp only [txnL] at hPay
 simp only [hoff] at hDel
 obtain ⟨_, pm, pd, pr⟩ := payU_same t h b
 generalize hU : payU t h b = U at *
 replace hMay := hid hMay; replace hHas := hid hHas; replace hPay := hid hPay; replace hCl := hid hCl; replace hDel := hid hDel; replace hPut := hid hPut; replace hD := hid hD; replace hE := hid hE; replace hz := hid hz; replace hd := hid hd; replace hU := hid hU; replace pd := hid pd
 clear hm hr hgt ho hb hoff pm pr
 unfold txnV at hMay ⊢
 have X := St.start [] w
 go_enter Tryz.func62, Tryz.ntmps62
 go_wp2_with (first
  | (refine ZcL ?_) | (refine ZcS ?_; clear X; intro w X) | (refine ZcA ?_; clear X; intro g w X)
  | (go_at_call 92; ((with_reducible refine (hMay.out _ X.below).mono ?_); rintro e w1 ⟨rfl, hb1⟩; replace X := X.call hb1; clear hb1))
  | (go_at_call 93; ((with_reducible refine (hHas.out _ X.below).mono ?_); rintro e w1 ⟨rfl, hb1⟩; replace X := X.call hb1; clear hb1))
  | (go_at_call 94; ((with_reducible refine (hPay.out _ _ X.below X.k0).mono ?_); rintro e w1 ⟨rfl, hk1, hm1⟩; have X2 := St.calledOn [] _ X hm1 hk1; clear hm1 hk1; replace X := X2; clear X2; simp only [List.nil_append] at X))
  | (go_at_call 21; ((with_reducible refine (hCl.out _ X.below).mono ?_); rintro e w1 ⟨v2, rfl, ho2, hb1⟩; obtain ⟨a2, c2, rfl⟩ := ho2.form; replace hDel := hid (hDel.out _ _ _ _ ho2 hb1.size X.k2.lt ((X.call hb1).k2.cell 0)); replace hb1 := hid hb1; clear ho2))
  | (go_at_call 95; ((with_reducible refine hDel.out.mono ?_); rintro e w2 ⟨v3, rfl, ho3, hb3⟩; obtain ⟨a3, c3, rfl⟩ := ho3.form; have f3 := hid (ho3.fresh X.mv.size); replace X := X.addOwn (hb1.out.trans hb3) ho3; clear hb1 hb3 ho3))
  | (go_at_call 97; ((with_reducible refine (hPut.out _ X.below).mono ?_); rintro e w1 ⟨v4, rfl, ho4, hb4⟩; obtain ⟨a4, c4, rfl⟩ := ho4.form; have f4 := hid (ho4.fresh X.mv.size); replace X := X.addOwn hb4 ho4; clear hb4 ho4)))
 ·obtain ⟨e1, e2⟩ := chg_form (s := s) hz.out (ne32' (by assumption))
  rw [e1, e2]
  exact m_ret2 rfl (.tmp rfl rfl) (.tmp rfl rfl) X (.head _) rfl rfl ⟨_, _, _, rfl, .same _ _ _ _ _ _, X.below⟩
 all_goals have hs32 : s.size = 32 := ne32 (by assumption)
 ·obtain ⟨e1, e2⟩ := chg_role hz.out hs32 (hD.out.trans ‹D = true›)
  rw [e1, e2]
  exact m_ret2 rfl (.tmp rfl rfl) (.tmp rfl rfl) X (.head _) rfl rfl ⟨_, _, _, rfl, .same _ _ _ _ _ _, X.below⟩
 ·obtain ⟨e1, e2⟩ := chg_broke hz.out hs32 (hD.out.trans ‹D = false›) (by rw [hE.out]; simpa using ‹(E != 0) = true›)
  rw [e1, e2, hE.out]
  exact m_ret2 rfl (.tmp rfl rfl) (.tmp rfl rfl) X (.tail _ (.head _)) rfl rfl ⟨_, _, _, rfl, .same _ _ _ _ _ _, X.below⟩
 ·have hE0 : E = 0 := by simpa using ‹(E != 0) = false›
  obtain ⟨e1, e2⟩ := chg_ok hz.out hs32 (hD.out.trans ‹D = false›) (hE.out.trans hE0)
  rw [e1, e2, hU.out]
  exact m_ret2 rfl (.tmp rfl rfl) (.tmp rfl rfl) X (.tail _ (.head _)) rfl rfl ⟨_, _, _, rfl, ⟨.inr ⟨X.r0, f4.out⟩, .inl ⟨rfl, pd.out⟩, .inr ⟨X.r1, f3.out⟩⟩, X.below⟩
theorem txn_Change (t : Txn) (h b : Int) (s : ByteArray) (vm vd vr : Value) (w : World) (ht : RTxn w (txnV t vm vd vr) t) :
    Calls Tryz.prog 62 #[txnV t vm vd vr, .int .i64 h, .int .i64 b, .string s] w fun e w' => ∃ vm' vd' vr', e = .returned (.tuple #[txnV (chgT t h b s) vm' vd' vr', .int .i64 (chgE t h b s)]) /\ NewT w.heap.size w' vm vd vr vm' vd' vr' t (chgT t h b s) /\ Below w.heap.size w w' := by
 by_cases hz : mayE t h b = 0
 ·exact txn_Change_go t h b s vm vd vr w ht hz
 ·obtain ⟨e1, e2⟩ := chg_may (s := s) hz
  refine (txn_Change_no t h b s _ w ht hz).mono ?_
  rintro e w' ⟨rfl, hb⟩
  rw [e1, e2]
  exact ⟨_, _, _, rfl, .same _ _ _ _ _ _, hb⟩
theorem txn_Fill (t : Txn) (h b : Int) (s : ByteArray) (vm vd vr : Value) (w : World) (ht : RTxn w (txnV t vm vd vr) t) :
    Calls Tryz.prog 63 #[txnV t vm vd vr, .int .i64 h, .int .i64 b, .string s] w fun e w' => ∃ vm' vd' vr', e = .returned (.tuple #[txnV (filT t h b s) vm' vd' vr', .int .i64 (filE t h b s)]) /\ NewT w.heap.size w' vm vd vr vm' vd' vr' t (filT t h b s) /\ Below w.heap.size w w' := by
 have hMay := fun w' (hb : Below w.heap.size w w') => txn_may t h b _ w' (ht.below hb)
 obtain ⟨vm', vd', vr', hvv, hm, hd, hr, n1, n2, n3⟩ := ht
 simp only [txnV, Value.agg.injEq, Array.mk.injEq, List.cons.injEq, and_true, true_and] at hvv
 obtain ⟨rfl, rfl, rfl⟩ := hvv
 obtain ⟨am, cm, rfl, _⟩ := hm.form
 obtain ⟨ad, cd, rfl, _⟩ := hd.form
 obtain ⟨ar, cr, rfl, _⟩ := hr.form
 by_cases hz : mayE t h b = 0
 rotate_left
 ·obtain ⟨e1, e2⟩ := fil_may (s := s) hz
  rw [e1, e2]
  clear e1 e2
  generalize mayE t h b = E at *
  replace hMay := hid hMay
  clear hm hd hr
  unfold txnV at hMay ⊢
  have X := St.start [] w
  go_enter Tryz.func63, Tryz.ntmps63
  go_wp2_with (first
   | (refine ZcL ?_) | (refine ZcS ?_; clear X; intro w X) | (refine ZcA ?_; clear X; intro g w X)
   | (go_at_call 92; ((with_reducible refine (hMay.out _ X.below).mono ?_); rintro e w1 ⟨rfl, hb1⟩; replace X := X.call hb1; clear hb1)))
  exact m_ret2 rfl (.tmp rfl rfl) (.tmp rfl rfl) X (.head _) rfl rfl ⟨_, _, _, rfl, .same _ _ _ _ _ _, X.below⟩
 rw [hz] at hMay
 obtain ⟨hgt, hh, ho, hb⟩ := may_zero hz
 have hg := goodT_of.1 hgt
 obtain ⟨l1, l2, l3⟩ := lens hg
 have hHas := fun w' (hb : Below w.heap.size w w') => txn_has t.mt b _ w' (copies_rise hg.mt) (hm.below hb) (by omega)
 have hCon := fun w' (hb : Below w.heap.size w w') => slices_ContainsI t.rev b _ w' (hr.below hb) (by omega)
 have hPut := fun w' (hb : Below w.heap.size w w') => txn_put t.dt b s _ w' (copies_rise hg.dt) (hd.below hb) (by omega)
 obtain ⟨M, hM⟩ : ∃ M, hasB t.mt b = M := ⟨_, rfl⟩
 obtain ⟨V, hV⟩ : ∃ V, inI t.rev b = V := ⟨_, rfl⟩
 rw [hM] at hHas
 rw [hV] at hCon
 replace hMay := hid hMay; replace hHas := hid hHas; replace hCon := hid hCon; replace hPut := hid hPut; replace hM := hid hM; replace hV := hid hV; replace hz := hid hz
 clear hm hd hr hgt ho hb
 unfold txnV at hMay ⊢
 have X := St.start [] w
 cases M
 all_goals
  go_enter Tryz.func63, Tryz.ntmps63
  go_wp2_with (first
   | (refine ZcL ?_) | (refine ZcS ?_; clear X; intro w X) | (refine ZcA ?_; clear X; intro g w X)
   | (go_at_call 92; ((with_reducible refine (hMay.out _ X.below).mono ?_); rintro e w1 ⟨rfl, hb1⟩; replace X := X.call hb1; clear hb1))
   | (go_at_call 93; ((with_reducible refine (hHas.out _ X.below).mono ?_); rintro e w1 ⟨rfl, hb1⟩; replace X := X.call hb1; clear hb1))
   | (go_at_call 88; ((with_reducible refine (hCon.out _ X.below).mono ?_); rintro e w1 ⟨rfl, rfl⟩))
   | (go_at_call 97; ((with_reducible refine (hPut.out _ X.below).mono ?_); rintro e w1 ⟨v4, rfl, ho4, hb4⟩; obtain ⟨a4, c4, rfl⟩ := ho4.form; have f4 := hid (ho4.fresh X.mv.size); replace X := X.addOwn hb4 ho4; clear hb4 ho4)))
 ·obtain ⟨e1, e2⟩ := fil_form (s := s) hz.out (ne32' (by assumption))
  rw [e1, e2]
  exact m_ret2 rfl (.tmp rfl rfl) (.tmp rfl rfl) X (.head _) rfl rfl ⟨_, _, _, rfl, .same _ _ _ _ _ _, X.below⟩
 ·obtain ⟨e1, e2⟩ := fil_role (s := s) hz.out (ne32 (by assumption)) (by rw [hM.out, hV.out, ‹V = true›]; rfl)
  rw [e1, e2]
  exact m_ret2 rfl (.tmp rfl rfl) (.tmp rfl rfl) X (.head _) rfl rfl ⟨_, _, _, rfl, .same _ _ _ _ _ _, X.below⟩
 ·obtain ⟨e1, e2⟩ := fil_ok (s := s) hz.out (ne32 (by assumption)) (by rw [hM.out, hV.out, ‹V = false›]; rfl)
  rw [e1, e2]
  exact m_ret2 rfl (.tmp rfl rfl) (.tmp rfl rfl) X (.head _) rfl rfl ⟨_, _, _, rfl, ⟨.inl ⟨rfl, rfl⟩, .inr ⟨X.r0, f4.out⟩, .inl ⟨rfl, rfl⟩⟩, X.below⟩
 ·obtain ⟨e1, e2⟩ := fil_form (s := s) hz.out (ne32' (by assumption))
  rw [e1, e2]
  exact m_ret2 rfl (.tmp rfl rfl) (.tmp rfl rfl) X (.head _) rfl rfl ⟨_, _, _, rfl, .same _ _ _ _ _ _, X.below⟩
 ·obtain ⟨e1, e2⟩ := fil_role (s := s) hz.out (ne32 (by assumption)) (by rw [hM.out]; rfl)
  rw [e1, e2]
  exact m_ret2 rfl (.tmp rfl rfl) (.tmp rfl rfl) X (.head _) rfl rfl ⟨_, _, _, rfl, .same _ _ _ _ _ _, X.below⟩
end Go.Proofs.YtjhmfljlclajnadGreatDoor
namespace Wb
open Go Go.RowKit
theorem Own.pokeC {base : Nat} {e : TypeId} {w : World} {v : Value} {l : List Cpy} (h : Own cpyC base e 2 w v l) {k : Nat} (hk : k < l.length) (x : Cpy) :
    ∃ g cap, v = .slice (some ⟨g, 0, none⟩) l.length cap /\ base <= g /\ g < w.heap.size /\ (w.frozen? ⟨g, k * 2, none⟩ = false /\ w.cell? ⟨g, k * 2, none⟩ = some (.int .i64 l[k].block)) /\ (w.frozen? ⟨g, k * 2 + 1, none⟩ = false /\ w.cell? ⟨g, k * 2 + 1, none⟩ = some (.string l[k].text)) /\
      Own cpyC base e 2 ((w.setCell ⟨g, k * 2, none⟩ (.int .i64 x.block)).setCell ⟨g, k * 2 + 1, none⟩ (.string x.text)) v (l.set k x) := by
 obtain ⟨g, cap, rfl, hb, hg, hq, hnew⟩ := Own.poke cpyC_flat h hk
 have h1 := hnew 0 ⟨x.block, l[k].text⟩ (.int .i64 x.block) (by decide) rfl
 rw [Nat.add_zero] at h1
 have hk2 : k < (l.set k ⟨x.block, l[k].text⟩).length := by simpa using hk
 obtain ⟨g2, cap2, hv, _, _, _, hnew2⟩ := Own.poke cpyC_flat h1 hk2
 simp only [Value.slice.injEq, Option.some.injEq, Addr.mk.injEq, and_true, true_and] at hv
 obtain ⟨rfl, -, rfl⟩ := hv
 have h2 := hnew2 1 x (.string x.text) (by decide) (by simp [cpyC])
 rw [List.set_set] at h2
 have q0 := hq 0 (by decide)
 have q1 := hq 1 (by decide)
 rw [Nat.add_zero] at q0
 exact ⟨g, cap, rfl, hb, hg, ⟨q0.1, q0.2⟩, ⟨q1.1, q1.2⟩, h2⟩
end Wb
namespace Go.Proofs.YtjhmfljlclajnadGreatDoor
open Go.RowKit Wb
theorem slices_DeleteFuncC (l : List Cpy) (b : Int) (v : Value) (gb base : Nat) (w : World) (h : Wb.Own cpyC base 63 2 w v l) (hbase : base <= w.heap.size) (hgb : gb < base) (hc : w.cell? ⟨gb, 0, none⟩ = some (.int .i64 b)) (hl : l.length <= 5864062014805) :
    Calls Tryz.prog 117 #[v, .func (.func 118) #[] #[.pointer (some ⟨gb, 0, none⟩)]] w fun e w' => ∃ v', e = .returned v' /\ Wb.Own cpyC base 63 2 w' v' (l.filter (fun x => !(x.block == b))) /\ Below base w w' := by
 have hIF := slices_IndexFuncC l b v gb w h.reads hc hl
 rcases idxK_spec (fun x => x.block) l b with ⟨e1, hno⟩ | ⟨k, e1, hk, hkb, hno⟩
 ·rw [e1] at hIF
  have e2 : l.filter (fun x => !(x.block == b)) = l := filter_all (fun i hi => by simpa using hno i hi)
  rw [e2]
  obtain ⟨a, cap, rfl⟩ := h.form
  replace hIF := hid hIF; replace h := hid h
  clear e1 e2 hno
  go_enter Tryz.func117, Tryz.ntmps117
  go_wp2_with (go_at_call 128; ((with_reducible refine hIF.out.mono ?_); rintro e w1 ⟨rfl, hb1⟩))
  go_ret
  exact ⟨_, rfl, h.out.below hb1, hb1.mono hbase⟩
 ·rw [e1] at hIF
  have hK0 : KeptI (fun x => !(x.block == b)) l (k + 1) k l := KeptI.start hk (fun i hi h2 => by simpa using hno i h2) (by simpa using hkb)
  obtain ⟨g, cap, cur, rfl, hbg, hkk, hcap, hmax, hsz, htk⟩ := h.row (by omega)
  have hC := hid (fun x w hc => txn_drop1 x b gb w hc)
  have hne1 : ((k : Int) == -1) = false := beq_eq_false_iff_ne.2 (by omega)
  have hKp : Hid (KeptI (fun x => !(x.block == b)) l (k + 1) k l) := hid hK0
  have hle := hKp.out.le
  replace hIF := hid hIF; replace h := hid h; replace hc := hid hc
  clear e1 hno hkb hK0 hkk hsz htk cur
  go_enter Tryz.func117, Tryz.ntmps117
  go_wp2_with (go_at_call 128; ((with_reducible refine hIF.out.mono ?_); rintro e w1 ⟨rfl, hb1⟩; have h1 := hid (h.out.below hb1); have hc1 := hid (cell_below hb1 hc.out); have nx := hb1.mono hbase; clear h hc hIF))
  go_loopg [5, 6, 7] l.length (fun gg s5 s6 _ wr => ∃ (i j : Nat) (lk : List Cpy), s5 = .int .i64 i /\ s6 = .int .i64 j /\ j <= l.length /\ i < j /\ l.length - j <= gg /\ Below base w wr /\ Hid (wr.cell? ⟨gb, 0, none⟩ = some (.int .i64 b)) /\ Hid (Wb.Own cpyC base 63 2 wr (.slice (some ⟨g, 0, none⟩) l.length cap) lk) /\ Hid (KeptI (fun x => !(x.block == b)) l j i lk))
  case atStart => exact ⟨k, k + 1, l, rfl, by go_num, by omega, by omega, by omega, nx, hc1, h1, hKp⟩
  case round =>
   clear nx hc1 h1 hKp hb1
   obtain ⟨i, j, lk, rfl, rfl, hjl, hij, hgg, nx, hcw, ho, hK⟩ := hrel
   by_cases hlt : j < l.length
   ·obtain ⟨hjk, hje⟩ := hK.out.get hlt
    obtain ⟨b1, o1, hae, c0, c1⟩ := RL.at2 (fun x => .int .i64 x.block) (fun x => .string x.text) (fun _ => rfl) ho.out.reads hjk
    simp only [Option.some.injEq, Addr.mk.injEq, and_true] at hae
    obtain ⟨rfl, rfl⟩ := hae
    rw [hje] at c0 c1
    simp only [Nat.zero_add] at c0 c1
    have hCx := fun w' hc => hC.out l[j] w' hc
    by_cases hb : l[j].block = b
    ·have hK2 := hid (hK.out.skip hlt (by simpa using hb))
     have e1 : (l[j].block == b) = true := beq_iff_eq.2 hb
     rw [e1] at hCx
     replace hCx := hid hCx
     clear hb e1 hK hje
     generalize l[j] = x at *
     go_wp2_with (go_at_call 118; ((with_reducible refine (hCx.out _ (cell_below (bal (b0 wr) (.cells #[.int .i64 x.block, .string x.text] 63)) hcw.out)).mono ?_); rintro e w1 ⟨rfl, hb1⟩; have hb2 := bgo (bal (b0 wr) (.cells #[.int .i64 x.block, .string x.text] 63)) hb1; have ho2 := hid (ho.out.below hb2); have hcw2 := hid (cell_below hb2 hcw.out); have nx2 := nx.trans (hb2.mono (Nat.le_trans hbase nx.size))))
     go_roundg (l.length - (j + 1))
     case measure => omega
     case rel => exact ⟨i, j + 1, lk, rfl, by go_num, by omega, by omega, Nat.le_refl _, nx2, hcw2, ho2, hK2⟩
    ·have hK2 := hid (hK.out.keep hlt (by simpa using hb))
     have hil : i < lk.length := by omega
     have e1 : (l[j].block == b) = false := beq_eq_false_iff_ne.2 hb
     rw [e1] at hCx
     replace hCx := hid hCx
     clear hb e1 hK hje
     have hin : i < l.length := by omega
     generalize l[j] = x at *
     go_wp2_with (go_at_call 118; ((with_reducible refine (hCx.out _ (cell_below (bal (b0 wr) (.cells #[.int .i64 x.block, .string x.text] 63)) hcw.out)).mono ?_); rintro e w1 ⟨rfl, hb1⟩; have hb2 := bgo (bal (b0 wr) (.cells #[.int .i64 x.block, .string x.text] 63)) hb1; have kb := (Blk.new wr #[.int .i64 x.block, .string x.text] 63).step hb1; have p0 := kb.cell 0; have p1 := kb.cell 1; simp only [Zga, Zgb, Zgc] at p0 p1; have ho2 := ho.out.below hb2; have hcw2 := hid (cell_below hb2 hcw.out); have nx2 := nx.trans (hb2.mono (Nat.le_trans hbase nx.size)); obtain ⟨g2, cap2, hv2, hbb2, hgg2, ⟨z0, y0⟩, ⟨z1, y1⟩, hnew⟩ := Own.pokeC ho2 hil x; simp only [Value.slice.injEq, Option.some.injEq, Addr.mk.injEq, and_true, true_and] at hv2; obtain ⟨rfl, -, rfl⟩ := hv2; replace hnew := hid hnew; clear kb ho2 ho))
     go_roundg (l.length - (j + 1))
     case measure => omega
     case rel => exact ⟨i + 1, j + 1, lk.set i x, by go_num, by go_num, by omega, by omega, Nat.le_refl _, (nx2.setCell hbg _).setCell hbg _, hid (by rw [World.cell?_setCell_other _ _ _ _ (fun hh => by simp only [Addr.mk.injEq] at hh; omega), World.cell?_setCell_other _ _ _ _ (fun hh => by simp only [Addr.mk.injEq] at hh; omega)]; exact hcw2.out), hid (hnew.out), hK2⟩
   ·obtain rfl : j = l.length := by omega
    obtain ⟨hd1, hd2⟩ := hK.out.done (Nat.le_refl _)
    have hlk := hK.out.1
    have hcut := hid (fun zs hz => Own.cut (i := i) cpyC_flat (by rw [hlk]; exact ho.out) (by omega) zs hz)
    obtain ⟨g', cap', cur', hv', hbg', hkk, hcap', hmax', hsz, htk⟩ := ho.out.row (by omega)
    simp only [Value.slice.injEq, Option.some.injEq, Addr.mk.injEq, and_true, true_and] at hv'
    obtain ⟨rfl, -, rfl⟩ := hv'
    have hcl : ∀ ty, (Builtin.clear_ #[37] ty #[.slice (some ⟨g, i * 2, none⟩) (l.length - i) (cap - i)]).run Tryz.prog wr = .ok (.tuple #[]) (wr.setCells g (i * 2) (Builtin.zeroCells (.agg #[.int .i64 0, .string ⟨#[]⟩] : Value).cells (l.length - i)).toList) :=
     fun ty => run_clear_c wr _ _ ty (.agg #[.int .i64 0, .string ⟨#[]⟩]) elemCpy.under (fun _ => rfl) (by decide) (by decide) g _ _ _ (by omega)
      (fun t ht => by rw [hkk.cell, Array.getElem?_eq_getElem (by rw [hsz]; simp [Value.cells] at ht; omega)]; rfl) (fun t ht => hkk.free _)
    have hzl : i * 2 + (Builtin.zeroCells (.agg #[.int .i64 0, .string ⟨#[]⟩] : Value).cells (l.length - i)).toList.length <= l.length * 2 := by
     rw [Array.length_toList, size_zeroCells]
     have := mul_split (c := 2) (n := l.length) (i := i) (by omega)
     simp only [Value.cells] at this ⊢
     simp
     omega
    have hfin := hcut.out _ (by rw [hlk]; exact hzl)
    rw [hd1] at hfin
    have nz := Wb.Below.sets g hbg (Builtin.zeroCells (.agg #[.int .i64 0, .string ⟨#[]⟩] : Value).cells (l.length - i)).toList (i * 2) _ nx
    skip
    replace hfin := hid hfin; replace nz := hid nz
    clear hcut hkk hsz htk hzl hK ho hd1 hd2 hlk
    generalize (Builtin.zeroCells (.agg #[.int .i64 0, .string ⟨#[]⟩] : Value).cells (l.length - i)).toList = zs at *
    have hil : (i : Int) <= (l.length : Int) := by omega
    have hci : ¬ (cap = i) := by omega
    go_wp2
    go_ret
    exact ⟨_, rfl, hfin.out, nz.out⟩
end Go.Proofs.YtjhmfljlclajnadGreatDoor
