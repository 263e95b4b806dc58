/- The walks of a journal that is nil, and of the law JournalNil. -/
import Derived.Test.YtjhmfljlclajnacGreatDoorSameT
import Derived.Test.YtjhmfljlclajnacGreatDoorDisk6
namespace Wb
open Go Go.RowKit
structure Akt where
  kind : Int
  h : Int
  b : Int
  n : Int
  text : ByteArray
def Akt.val (a : Akt) : Value := .agg #[.int .i64 a.kind, .int .i64 a.h, .int .i64 a.b, .int .i64 a.n, .string a.text]
def actC (a : Akt) : List Value := [.int .i64 a.kind, .int .i64 a.h, .int .i64 a.b, .int .i64 a.n, .string a.text]
theorem actC_flat : Flat actC 5 := ⟨fun _ => rfl, fun _ u hu => by simp [actC] at hu; rcases hu with rfl | rfl | rfl | rfl | rfl <;> rfl, by decide⟩
end Wb
namespace Go.Proofs.YtjhmfljlclajnacGreatDoor
open Go.RowKit Wb
set_option linter.unusedVariables false
set_option linter.unusedSimpArgs false
set_option maxRecDepth 100000
set_option maxHeartbeats 2000000

theorem jr_Ring_nil (w : World) :
    Calls Tryz.prog 10 #[.pointer none] w fun e w' => e = .returned (.tuple #[.agg #[.int .i64 0, .int .i64 0], .int .i64 0, .bool false]) ∧ Below w.heap.size w w' := by
  go_enter Tryz.func10, Tryz.ntmps10
  go_wp2
  exact bodyPost_ret (v := .tuple #[.agg #[.int .i64 0, .int .i64 0], .int .i64 0, .bool false]) (by simp [results, Tryz.results10, go_sem]) rfl ⟨rfl, by repeat (first | exact Below.refl _ _ | with_reducible assumption | (refine allocB ?_ (by first | omega | (simp; done) | (simp; omega)) _) | (refine Below.setCell ?_ (by first | omega | (simp; done) | (simp; omega)) _) | refine Below.drew ?_ | (refine Below.trans ?_ (Below.mono (by with_reducible assumption) (by first | omega | (simp; done) | (simp; omega)))))⟩

theorem jr_Do1 (c : Int) (w : World) :
    Calls Tryz.prog 34 #[.int .i64 c] w fun e w' => e = .returned (.agg #[.int .i64 c, .int .i64 0, .string ⟨#[]⟩]) ∧ Below w.heap.size w w' := by
  go_enter Tryz.func34, Tryz.ntmps34
  go_wp2
  exact bodyPost_ret (v := .agg #[.int .i64 c, .int .i64 0, .string ⟨#[]⟩]) (by simp [results, Tryz.results34, go_sem]) rfl ⟨rfl, by repeat (first | exact Below.refl _ _ | with_reducible assumption | (refine allocB ?_ (by first | omega | (simp; done) | (simp; omega)) _) | (refine Below.setCell ?_ (by first | omega | (simp; done) | (simp; omega)) _) | refine Below.drew ?_ | (refine Below.trans ?_ (Below.mono (by with_reducible assumption) (by first | omega | (simp; done) | (simp; omega)))))⟩

theorem jr_Do_nil (a : Akt) (w : World) :
    Calls Tryz.prog 11 #[.pointer none, a.val] w fun e w' => e = .returned (.agg #[.int .i64 4, .int .i64 0, .string ⟨#[]⟩]) ∧ Below w.heap.size w w' := by
  obtain ⟨k, h', b, n, t⟩ := a
  unfold Akt.val
  dsimp only
  have hN := fun w => jr_Do1 4 w
  replace hN := hid hN
  have k1 : Blk ((w.alloc (.cells #[.int .i64 k, .int .i64 h', .int .i64 b, .int .i64 n, .string t] 23)).alloc (.cells #[.int .i64 0, .int .i64 0, .string ⟨#[]⟩] 31)) (w.heap.size + 1) #[.int .i64 0, .int .i64 0, .string ⟨#[]⟩] 31 := Blk.newAt (by simp)
  have nx0 : Below w.heap.size w ((w.alloc (.cells #[.int .i64 k, .int .i64 h', .int .i64 b, .int .i64 n, .string t] 23)).alloc (.cells #[.int .i64 0, .int .i64 0, .string ⟨#[]⟩] 31)) := bal (bal (b0 w) _) _
  go_enter Tryz.func11, Tryz.ntmps11
  go_wp2_with (go_at_call 34; go_loud (refine (hN.out _).mono ?_; rintro e w1 ⟨rfl, hb1⟩; replace k1 := k1.step hb1; have nx1 := bgo nx0 hb1; have l1' := k1.lt; have c0 := k1.cell 0; have c1 := k1.cell 1; have c2 := k1.cell 2; have f0 := k1.free 0; have f1 := k1.free 1; have f2 := k1.free 2; simp only [List.getElem?_toArray, List.getElem?_cons_zero, List.getElem?_cons_succ] at c0 c1 c2))
  exact bodyPost_ret (v := .agg #[.int .i64 4, .int .i64 0, .string ⟨#[]⟩]) (by simp [results, Tryz.results11, go_sem, c0, c1, c2]) rfl ⟨rfl, ((nx1.setCell (by simp) _).setCell (by simp) _).setCell (by simp) _⟩

theorem jr_Running_nil (w : World) :
    Calls Tryz.prog 13 #[.pointer none] w fun e w' => e = .returned (txnV (txn0 0) (.slice none 0 0) (.slice none 0 0) (.slice none 0 0)) ∧ Below w.heap.size w w' := by
  unfold txnV txn0 hnd0
  dsimp only
  go_enter Tryz.func13, Tryz.ntmps13
  go_wp2
  exact bodyPost_ret (v := .agg #[.int .i64 0, .slice none 0 0, .slice none 0 0, .slice none 0 0, .bool false, .int .i64 0, .bool false, .int .i64 0, .bool false, .int .i64 0]) (by simp [results, Tryz.results13, go_sem]) rfl ⟨rfl, by repeat (first | exact Below.refl _ _ | with_reducible assumption | (refine allocB ?_ (by first | omega | (simp; done) | (simp; omega)) _) | (refine Below.setCell ?_ (by first | omega | (simp; done) | (simp; omega)) _) | refine Below.drew ?_ | (refine Below.trans ?_ (Below.mono (by with_reducible assumption) (by first | omega | (simp; done) | (simp; omega)))))⟩

theorem jr_Disk_nil (w : World) :
    Calls Tryz.prog 15 #[.pointer none] w fun e w' => e = .returned (.agg #[.slice none 0 0, .slice none 0 0]) ∧ Below w.heap.size w w' := by
  go_enter Tryz.func15, Tryz.ntmps15
  go_wp2
  exact bodyPost_ret (v := .agg #[.slice none 0 0, .slice none 0 0]) (by simp [results, Tryz.results15, go_sem]) rfl ⟨rfl, by repeat (first | exact Below.refl _ _ | with_reducible assumption | (refine allocB ?_ (by first | omega | (simp; done) | (simp; omega)) _) | (refine Below.setCell ?_ (by first | omega | (simp; done) | (simp; omega)) _) | refine Below.drew ?_ | (refine Below.trans ?_ (Below.mono (by with_reducible assumption) (by first | omega | (simp; done) | (simp; omega)))))⟩

theorem txn0_reads (w : World) : RTxn w (txnV (txn0 0) (.slice none 0 0) (.slice none 0 0) (.slice none 0 0)) (txn0 0) := ⟨_, _, _, rfl, RL.nil _ _, RL.nil _ _, RL.nil _ _, Nat.zero_le _, Nat.zero_le _, Nat.zero_le _⟩
theorem disk0_reads (w : World) : RDisk w (.agg #[.slice none 0 0, .slice none 0 0]) ⟨[], []⟩ := ⟨_, _, rfl, RL.nil _ _, RL.nil _ _, Nat.zero_le _, Nat.zero_le _⟩

theorem law_JournalNil (a : Akt) (w : World) :
    Calls Tryz.prog 3 #[a.val] w fun e w' => e = .returned (.bool true) ∧ Below w.heap.size w w' := by
  have hR := hid (fun w => jr_Ring_nil w)
  have hN := fun w => jr_Do_nil a w
  have hT := fun w => jr_Running_nil w
  have hD := hid (fun w => jr_Disk_nil w)
  have hSt := fun w => ref_SameTxn (txn0 0) _ _ w (txn0_reads w) (txn0_reads w)
  have hSd := hid (fun w => ref_SameDisk ⟨[], []⟩ _ _ w (disk0_reads w) (disk0_reads w))
  unfold txnV txn0 hnd0 at hSt hT
  dsimp only at hSt hT
  obtain ⟨k, h', b, n, t⟩ := a
  unfold Akt.val at *
  dsimp only at *
  replace hN := hid hN; replace hT := hid hT; replace hSt := hid hSt
  have k0 := Blk.new w #[.int .i64 k, .int .i64 h', .int .i64 b, .int .i64 n, .string t] 23
  go_enter Tryz.func3, Tryz.ntmps3
  go_wp2_with (first
    | (go_at_call 10; go_loud (refine (hR.out _).mono ?_; rintro e w1 ⟨rfl, hb1⟩; have nx1 := bgo (bal (b0 w) _) hb1; (try clear k0_0); (try clear k0_1); (try clear k0_2); (try clear k0_3); (try clear k0_4); replace k0 := (by with_reducible (first | exact Blk.step k0 hb1 | exact Blk.step (Blk.alloc k0 _) hb1 | exact Blk.step (Blk.alloc (Blk.alloc k0 _) _) hb1)); have k0_0 := k0.cell 0; have k0_1 := k0.cell 1; have k0_2 := k0.cell 2; have k0_3 := k0.cell 3; have k0_4 := k0.cell 4; simp only [List.getElem?_toArray, List.getElem?_cons_zero, List.getElem?_cons_succ] at k0_0 k0_1 k0_2 k0_3 k0_4; have l0 := k0.lt))
    | (go_at_call 11; go_loud (refine (hN.out _).mono ?_; rintro e w2 ⟨rfl, hb2⟩; have nx2 := bgo (bal nx1 _) hb2; have kr : Blk w2 w1.heap.size #[.int .i64 0, .int .i64 0] 26 := (Blk.new w1 _ _).step hb2; have q0 := kr.cell 0; have q1 := kr.cell 1; simp only [List.getElem?_toArray, List.getElem?_cons_zero, List.getElem?_cons_succ] at q0 q1))
    | (go_at_call 13; go_loud (refine (hT.out _).mono ?_; rintro e w3 ⟨rfl, hb3⟩; have nx3 := bgo nx2 hb3))
    | (go_at_call 15; go_loud (refine (hD.out _).mono ?_; rintro e w5 ⟨rfl, hb5⟩; have nx5 := bgo nx4 hb5))
    | (go_at_call 12; go_loud (refine (hSt.out _).mono ?_; rintro e w4 ⟨rfl, hb4⟩; have nx4 := bgo nx3 hb4))
    | (go_at_call 14; go_loud (refine (hSd.out _).mono ?_; rintro e w6 ⟨rfl, hb6⟩; have nx6 := bgo nx5 hb6)))
  go_ret
  exact ⟨rfl, nx6⟩
end Go.Proofs.YtjhmfljlclajnacGreatDoor
